/- How lists of plain things lie in rows. Own work. -/
import Derived.Test.YtjbpfglekblgbaaDoorZc32
set_option linter.all false
namespace Go.Proofs.Qc
def eI (x:Int):List AV:=[.lit (.int .i64 x)]
def eK (k:IntKind)(x:Int):List AV:=[.lit (.int k x)]
def eB (x:Bool):List AV:=[.lit (.bool x)]
def eS (x:ByteArray):List AV:=[.lit (.string x)]
def eLS {α:Type}(e:α→List AV)(xs:List α):List AV:=[.sl (ab e xs)]
def eLO {α:Type}(e:α→List AV)(xs:List α):List AV:=[.own (ab e xs)]
section
variable {α:Type} {e:α→List AV}
theorem kB (x:α)(xs:List α):ab e (x::xs)=e x::ab e xs:=rfl
theorem aq (xs:List α)(x:α):ab e xs++[e x]=ab e (xs++[x]):=by simp [ab]
theorem aM (xs:List α)(i:Nat)(x:α):(ab e xs).set i (e x)=ab e (xs.set i x):=qx xs i x
theorem aN {n:Nat}(h:∀ x,(e x).length=n)(xs:List α):(ab e xs).all (fun r=>r.length == n)=true:=by
 simp only [ab,List.all_map,List.all_eq_true]
 intro x _
 simp [h x]
theorem tU (xs:List Int)(v:Int):ab eI xs++[[.lit (.int .i64 v)]]=ab eI (xs++[v]):=aq xs v
theorem vm (xs:List Int)(i:Nat)(v:Int):(ab eI xs).set i [.lit (.int .i64 v)]=ab eI (xs.set i v):=aM xs i v
theorem vn (xs:List Int):(ab eI xs).all (fun r=>r.length == 1)=true:=aN (e:=eI) (fun _=>rfl) xs
theorem vp (xs:List Int):frsR (ab eI xs)=true:=bB (fun _=>rfl) xs
theorem tV (xs:List Int):aO (ab eI xs)=ab eI xs:=bh (fun _=>rfl) xs
theorem vq (n:Nat)(v:Int):List.replicate n [AV.lit (.int .i64 v)]=ab eI (List.replicate n v):=aL (e:=eI) n v
theorem tW (xs:List Int)(v:Int):ab (eK .u8) xs++[[.lit (.int .u8 v)]]=ab (eK .u8) (xs++[v]):=aq (e:=eK .u8) xs v
theorem vt (xs:List Int)(i:Nat)(v:Int):(ab (eK .u8) xs).set i [.lit (.int .u8 v)]=ab (eK .u8) (xs.set i v):=aM (e:=eK .u8) xs i v
theorem vu (xs:List Int):(ab (eK .u8) xs).all (fun r=>r.length == 1)=true:=aN (e:=eK .u8) (fun _=>rfl) xs
theorem vw (xs:List Int):frsR (ab (eK .u8) xs)=true:=bB (e:=eK .u8) (fun _=>rfl) xs
theorem tX (xs:List Int):aO (ab (eK .u8) xs)=ab (eK .u8) xs:=bh (e:=eK .u8) (fun _=>rfl) xs
theorem tY (xs:List Bool)(v:Bool):ab eB xs++[[.lit (.bool v)]]=ab eB (xs++[v]):=aq xs v
theorem vx (xs:List Bool)(i:Nat)(v:Bool):(ab eB xs).set i [.lit (.bool v)]=ab eB (xs.set i v):=aM xs i v
theorem vy (xs:List Bool):(ab eB xs).all (fun r=>r.length == 1)=true:=aN (e:=eB) (fun _=>rfl) xs
theorem vz (xs:List Bool):frsR (ab eB xs)=true:=bB (fun _=>rfl) xs
theorem tZ (xs:List Bool):aO (ab eB xs)=ab eB xs:=bh (fun _=>rfl) xs
theorem vA (n:Nat)(v:Bool):List.replicate n [AV.lit (.bool v)]=ab eB (List.replicate n v):=aL (e:=eB) n v
theorem ua (xs:List ByteArray)(v:ByteArray):ab eS xs++[[.lit (.string v)]]=ab eS (xs++[v]):=aq xs v
theorem vB (xs:List ByteArray)(i:Nat)(v:ByteArray):(ab eS xs).set i [.lit (.string v)]=ab eS (xs.set i v):=aM xs i v
theorem vC (xs:List ByteArray):(ab eS xs).all (fun r=>r.length == 1)=true:=aN (e:=eS) (fun _=>rfl) xs
theorem vD (xs:List ByteArray):frsR (ab eS xs)=true:=bB (fun _=>rfl) xs
theorem ub (xs:List ByteArray):aO (ab eS xs)=ab eS xs:=bh (fun _=>rfl) xs
theorem vE (n:Nat)(v:ByteArray):List.replicate n [AV.lit (.string v)]=ab eS (List.replicate n v):=aL (e:=eS) n v
theorem sM (xs:List (List α))(v:List α):ab (eLO e) xs++[[.own (ab e v)]]=ab (eLO e) (xs++[v]):=aq (e:=eLO e) xs v
theorem uc (xs:List (List α)):(ab (eLO e) xs).all (fun r=>r.length == 1)=true:=aN (e:=eLO e) (fun _=>rfl) xs
theorem ud (h:∀ x,frsR (ab e x)=true)(xs:List (List α)):frsR (ab (eLO e) xs)=true:=bB (e:=eLO e) (fun x=>by simp only [eLO,frsC,frs,h x,Bool.and_self]) xs
theorem sN (h:∀ x,aO (ab e x)=ab e x)(xs:List (List α)):aO (ab (eLO e) xs)=ab (eLS e) xs:=bh (e:=eLO e) (fun x=>by simp only [eLO,eLS,cE,toSl,h x]) xs
theorem ue (xs:List (List α)):(ab (eLS e) xs).all (fun r=>r.length == 1)=true:=aN (e:=eLS e) (fun _=>rfl) xs
theorem sO (xs:List (List α))(v:List α):ab (eLS e) xs++[[.sl (ab e v)]]=ab (eLS e) (xs++[v]):=aq (e:=eLS e) xs v
theorem sP (xs:List (List α)):aO (ab (eLS e) xs)=ab (eLS e) xs:=bh (e:=eLS e) (fun x=>by simp only [eLS,cE,toSl]) xs
theorem uf (xs:List (List α))(i:Nat)(v:List α):(ab (eLS e) xs).set i [.sl (ab e v)]=ab (eLS e) (xs.set i v):=aM (e:=eLS e) xs i v
theorem oH (n:Nat):List.replicate n [AV.sl []]=ab (eLS eI) (List.replicate n []):=aL (e:=eLS eI) n []
theorem vF (v:Int):[[AV.lit (.int .i64 v)]]=ab eI [v]:=rfl
theorem ug (v:Int)(xs:List (Int)):[AV.lit (.int .i64 v)]::ab eI xs=ab eI (v::xs):=rfl
theorem vG (v:Int):[[AV.lit (.int .u8 v)]]=ab (eK .u8) [v]:=rfl
theorem uh (v:Int)(xs:List (Int)):[AV.lit (.int .u8 v)]::ab (eK .u8) xs=ab (eK .u8) (v::xs):=rfl
theorem vH (v:Bool):[[AV.lit (.bool v)]]=ab eB [v]:=rfl
theorem ui (v:Bool)(xs:List (Bool)):[AV.lit (.bool v)]::ab eB xs=ab eB (v::xs):=rfl
theorem vI (v:ByteArray):[[AV.lit (.string v)]]=ab eS [v]:=rfl
theorem uj (v:ByteArray)(xs:List (ByteArray)):[AV.lit (.string v)]::ab eS xs=ab eS (v::xs):=rfl
theorem rI (r rs:List (List AV)):aO ([.sl r]::rs)=[.sl r]::aO rs:=rfl
theorem uk (v:List α):[[AV.own (ab e v)]]=ab (eLO e) [v]:=rfl
theorem sQ (v:List α)(xs:List (List α)):[AV.own (ab e v)]::ab (eLO e) xs=ab (eLO e) (v::xs):=rfl
theorem ul (v:List α):[[AV.sl (ab e v)]]=ab (eLS e) [v]:=rfl
theorem sR (v:List α)(xs:List (List α)):[AV.sl (ab e v)]::ab (eLS e) xs=ab (eLS e) (v::xs):=rfl
theorem um (xs:List Int):eA (ab eI xs)=true:=by
 induction xs with
 | nil=>rfl
 | cons x xs ih=>simp only [kB,eA,eI,ih,Value.oneCell',Bool.and_self]
theorem pL (xs ys:List α)(i:Nat):putL (ab e xs) i (ab e ys)=ab e (putL xs i ys):=by
 unfold putL
 rw [fx,fx]
 split
 ·simp [ab]
 ·rfl
theorem oI (H:Hp)(x:α)(xs:List α):dx H (.sl (ab e (x::xs)))=some false:=rfl
theorem sS (n:Nat):List.replicate n [AV.own []]=ab (eLO eI) (List.replicate n []):=aL (e:=eLO eI) n []
def qD (k:ByteArray):List (ByteArray × Bool)→Option Bool
 | []=>none
 | p::r=>if k == p.1 then some p.2 else qD k r
def setB (k:ByteArray)(v:Bool):List (ByteArray × Bool)→List (ByteArray × Bool)
 | []=>[(k,v)]
 | p::r=>if k == p.1 then (k,v)::r else p::setB k v r
def eM (es:List (ByteArray × Bool)):List (ByteArray × Value):=es.map (fun p=>(p.1,Value.bool p.2))
theorem vJ:eM []=[]:=rfl
theorem sT (k:ByteArray)(es:List (ByteArray × Bool)):dK k (eM es)=(qD k es).map Value.bool:=by
 induction es with
 | nil=>rfl
 | cons p es ih=>
  simp only [eM,List.map_cons,dK,qD] at ih ⊢
  split
  ·rfl
  ·exact ih
theorem un (k:ByteArray)(b:Bool)(es:List (ByteArray × Bool)):setE k (.bool b) (eM es)=eM (setB k b es):=by
 induction es with
 | nil=>rfl
 | cons p es ih=>
  simp only [eM,List.map_cons,setE,setB] at ih ⊢
  split
  ·simp
  ·simp [ih]
theorem oJ (ns:List Int):bO (ab (eK .u8) ns)=some ns:=by
 induction ns with
 | nil=>rfl
 | cons n ns ih=>simp only [kB,eK,bO,ih]
end
attribute [go_sem] oH sP sT un vJ uf rI List.take_length pL pM um eI eK eB eS eLS eLO oI vF ug vG uh vH ui vI uj uk sQ ul sR tU vm vn vp tV vq tW vt vu vw tX tY vx vy vz tZ vA ua vB vC vD ub vE sM uc ud sN ue sO oJ sS
end Go.Proofs.Qc
