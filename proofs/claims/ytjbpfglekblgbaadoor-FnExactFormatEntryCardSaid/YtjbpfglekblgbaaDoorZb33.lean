/- How lists of plain things lie in rows. Own work. -/
import Derived.Test.YtjbpfglekblgbaaDoorZb32
set_option linter.all false
namespace Go.Proofs.Qb
def eI (x:Int):List AV:=[.lit (.int .i64 x)]
def eK (k:IntKind)(x:Int):List AV:=[.lit (.int k x)]
def eB (x:Bool):List AV:=[.lit (.bool x)]
def eS (x:ByteArray):List AV:=[.lit (.string x)]
def eLS {α:Type}(e:α→List AV)(xs:List α):List AV:=[.sl (ab e xs)]
def eLO {α:Type}(e:α→List AV)(xs:List α):List AV:=[.own (ab e xs)]
section
variable {α:Type} {e:α→List AV}
theorem jF (x:α)(xs:List α):ab e (x::xs)=e x::ab e xs:=rfl
theorem ap (xs:List α)(x:α):ab e xs++[e x]=ab e (xs++[x]):=by simp [ab]
theorem aJ (xs:List α)(i:Nat)(x:α):(ab e xs).set i (e x)=ab e (xs.set i x):=pu xs i x
theorem aK {n:Nat}(h:∀ x,(e x).length=n)(xs:List α):(ab e xs).all (fun r=>r.length == n)=true:=by
 simp only [ab,List.all_map,List.all_eq_true]
 intro x _
 simp [h x]
theorem sF (xs:List Int)(v:Int):ab eI xs++[[.lit (.int .i64 v)]]=ab eI (xs++[v]):=ap xs v
theorem tX (xs:List Int)(i:Nat)(v:Int):(ab eI xs).set i [.lit (.int .i64 v)]=ab eI (xs.set i v):=aJ xs i v
theorem tY (xs:List Int):(ab eI xs).all (fun r=>r.length == 1)=true:=aK (e:=eI) (fun _=>rfl) xs
theorem tZ (xs:List Int):frsR (ab eI xs)=true:=bn (fun _=>rfl) xs
theorem sG (xs:List Int):aL (ab eI xs)=ab eI xs:=aY (fun _=>rfl) xs
theorem ua (n:Nat)(v:Int):List.replicate n [AV.lit (.int .i64 v)]=ab eI (List.replicate n v):=aI (e:=eI) n v
theorem sH (xs:List Int)(v:Int):ab (eK .u8) xs++[[.lit (.int .u8 v)]]=ab (eK .u8) (xs++[v]):=ap (e:=eK .u8) xs v
theorem ub (xs:List Int)(i:Nat)(v:Int):(ab (eK .u8) xs).set i [.lit (.int .u8 v)]=ab (eK .u8) (xs.set i v):=aJ (e:=eK .u8) xs i v
theorem uc (xs:List Int):(ab (eK .u8) xs).all (fun r=>r.length == 1)=true:=aK (e:=eK .u8) (fun _=>rfl) xs
theorem ud (xs:List Int):frsR (ab (eK .u8) xs)=true:=bn (e:=eK .u8) (fun _=>rfl) xs
theorem sI (xs:List Int):aL (ab (eK .u8) xs)=ab (eK .u8) xs:=aY (e:=eK .u8) (fun _=>rfl) xs
theorem sJ (xs:List Bool)(v:Bool):ab eB xs++[[.lit (.bool v)]]=ab eB (xs++[v]):=ap xs v
theorem ue (xs:List Bool)(i:Nat)(v:Bool):(ab eB xs).set i [.lit (.bool v)]=ab eB (xs.set i v):=aJ xs i v
theorem uf (xs:List Bool):(ab eB xs).all (fun r=>r.length == 1)=true:=aK (e:=eB) (fun _=>rfl) xs
theorem ug (xs:List Bool):frsR (ab eB xs)=true:=bn (fun _=>rfl) xs
theorem sK (xs:List Bool):aL (ab eB xs)=ab eB xs:=aY (fun _=>rfl) xs
theorem uh (n:Nat)(v:Bool):List.replicate n [AV.lit (.bool v)]=ab eB (List.replicate n v):=aI (e:=eB) n v
theorem sL (xs:List ByteArray)(v:ByteArray):ab eS xs++[[.lit (.string v)]]=ab eS (xs++[v]):=ap xs v
theorem ui (xs:List ByteArray)(i:Nat)(v:ByteArray):(ab eS xs).set i [.lit (.string v)]=ab eS (xs.set i v):=aJ xs i v
theorem uj (xs:List ByteArray):(ab eS xs).all (fun r=>r.length == 1)=true:=aK (e:=eS) (fun _=>rfl) xs
theorem uk (xs:List ByteArray):frsR (ab eS xs)=true:=bn (fun _=>rfl) xs
theorem sM (xs:List ByteArray):aL (ab eS xs)=ab eS xs:=aY (fun _=>rfl) xs
theorem ul (n:Nat)(v:ByteArray):List.replicate n [AV.lit (.string v)]=ab eS (List.replicate n v):=aI (e:=eS) n v
theorem rB (xs:List (List α))(v:List α):ab (eLO e) xs++[[.own (ab e v)]]=ab (eLO e) (xs++[v]):=ap (e:=eLO e) xs v
theorem sN (xs:List (List α)):(ab (eLO e) xs).all (fun r=>r.length == 1)=true:=aK (e:=eLO e) (fun _=>rfl) xs
theorem sO (h:∀ x,frsR (ab e x)=true)(xs:List (List α)):frsR (ab (eLO e) xs)=true:=bn (e:=eLO e) (fun x=>by simp only [eLO,frsC,frs,h x,Bool.and_self]) xs
theorem rC (h:∀ x,aL (ab e x)=ab e x)(xs:List (List α)):aL (ab (eLO e) xs)=ab (eLS e) xs:=aY (e:=eLO e) (fun x=>by simp only [eLO,eLS,cj,toSl,h x]) xs
theorem sP (xs:List (List α)):(ab (eLS e) xs).all (fun r=>r.length == 1)=true:=aK (e:=eLS e) (fun _=>rfl) xs
theorem rD (xs:List (List α))(v:List α):ab (eLS e) xs++[[.sl (ab e v)]]=ab (eLS e) (xs++[v]):=ap (e:=eLS e) xs v
theorem rE (xs:List (List α)):aL (ab (eLS e) xs)=ab (eLS e) xs:=aY (e:=eLS e) (fun x=>by simp only [eLS,cj,toSl]) xs
theorem sQ (xs:List (List α))(i:Nat)(v:List α):(ab (eLS e) xs).set i [.sl (ab e v)]=ab (eLS e) (xs.set i v):=aJ (e:=eLS e) xs i v
theorem nu (n:Nat):List.replicate n [AV.sl []]=ab (eLS eI) (List.replicate n []):=aI (e:=eLS eI) n []
theorem um (v:Int):[[AV.lit (.int .i64 v)]]=ab eI [v]:=rfl
theorem sR (v:Int)(xs:List (Int)):[AV.lit (.int .i64 v)]::ab eI xs=ab eI (v::xs):=rfl
theorem un (v:Int):[[AV.lit (.int .u8 v)]]=ab (eK .u8) [v]:=rfl
theorem sS (v:Int)(xs:List (Int)):[AV.lit (.int .u8 v)]::ab (eK .u8) xs=ab (eK .u8) (v::xs):=rfl
theorem uo (v:Bool):[[AV.lit (.bool v)]]=ab eB [v]:=rfl
theorem sT (v:Bool)(xs:List (Bool)):[AV.lit (.bool v)]::ab eB xs=ab eB (v::xs):=rfl
theorem uq (v:ByteArray):[[AV.lit (.string v)]]=ab eS [v]:=rfl
theorem sU (v:ByteArray)(xs:List (ByteArray)):[AV.lit (.string v)]::ab eS xs=ab eS (v::xs):=rfl
theorem qz (r rs:List (List AV)):aL ([.sl r]::rs)=[.sl r]::aL rs:=rfl
theorem sV (v:List α):[[AV.own (ab e v)]]=ab (eLO e) [v]:=rfl
theorem rG (v:List α)(xs:List (List α)):[AV.own (ab e v)]::ab (eLO e) xs=ab (eLO e) (v::xs):=rfl
theorem sW (v:List α):[[AV.sl (ab e v)]]=ab (eLS e) [v]:=rfl
theorem rH (v:List α)(xs:List (List α)):[AV.sl (ab e v)]::ab (eLS e) xs=ab (eLS e) (v::xs):=rfl
theorem sX (xs:List Int):dU (ab eI xs)=true:=by
 induction xs with
 | nil=>rfl
 | cons x xs ih=>simp only [jF,dU,eI,ih,Value.oneCell',Bool.and_self]
theorem oB (xs ys:List α)(i:Nat):putL (ab e xs) i (ab e ys)=ab e (putL xs i ys):=by
 unfold putL
 rw [eR,eR]
 split
 ·simp [ab]
 ·rfl
theorem nw (H:Hp)(x:α)(xs:List α):dd H (.sl (ab e (x::xs)))=some false:=rfl
theorem rI (n:Nat):List.replicate n [AV.own []]=ab (eLO eI) (List.replicate n []):=aI (e:=eLO eI) n []
def pB (k:ByteArray):List (ByteArray × Bool)→Option Bool
 | []=>none
 | p::r=>if k == p.1 then some p.2 else pB k r
def setB (k:ByteArray)(v:Bool):List (ByteArray × Bool)→List (ByteArray × Bool)
 | []=>[(k,v)]
 | p::r=>if k == p.1 then (k,v)::r else p::setB k v r
def eM (es:List (ByteArray × Bool)):List (ByteArray × Value):=es.map (fun p=>(p.1,Value.bool p.2))
theorem ut:eM []=[]:=rfl
theorem rJ (k:ByteArray)(es:List (ByteArray × Bool)):dv k (eM es)=(pB k es).map Value.bool:=by
 induction es with
 | nil=>rfl
 | cons p es ih=>
  simp only [eM,List.map_cons,dv,pB] at ih ⊢
  split
  ·rfl
  ·exact ih
theorem sY (k:ByteArray)(b:Bool)(es:List (ByteArray × Bool)):setE k (.bool b) (eM es)=eM (setB k b es):=by
 induction es with
 | nil=>rfl
 | cons p es ih=>
  simp only [eM,List.map_cons,setE,setB] at ih ⊢
  split
  ·simp
  ·simp [ih]
theorem nx (ns:List Int):bA (ab (eK .u8) ns)=some ns:=by
 induction ns with
 | nil=>rfl
 | cons n ns ih=>simp only [jF,eK,bA,ih]
end
attribute [go_sem] nu rE rJ sY ut sQ qz List.take_length oB oC sX eI eK eB eS eLS eLO nw um sR un sS uo sT uq sU sV rG sW rH sF tX tY tZ sG ua sH ub uc ud sI sJ ue uf ug sK uh sL ui uj uk sM ul rB sN sO rC sP rD nx rI
end Go.Proofs.Qb
