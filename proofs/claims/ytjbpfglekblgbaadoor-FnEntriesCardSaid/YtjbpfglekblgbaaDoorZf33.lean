/- How lists of plain things lie in rows. Own work. -/
import Derived.Test.YtjbpfglekblgbaaDoorZf32
set_option linter.all false
namespace Go.Proofs.Qf
def eI (x:Int):List AV:=[.lit (.int .i64 x)]
def eK (k:IntKind)(x:Int):List AV:=[.lit (.int k x)]
def eB (x:Bool):List AV:=[.lit (.bool x)]
def eS (x:ByteArray):List AV:=[.lit (.string x)]
def eLS {α:Type}(e:α→List AV)(xs:List α):List AV:=[.sl (ab e xs)]
def eLO {α:Type}(e:α→List AV)(xs:List α):List AV:=[.own (ab e xs)]
section
variable {α:Type} {e:α→List AV}
theorem jZ (x:α)(xs:List α):ab e (x::xs)=e x::ab e xs:=rfl
theorem ao (xs:List α)(x:α):ab e xs++[e x]=ab e (xs++[x]):=by simp [ab]
theorem aJ (xs:List α)(i:Nat)(x:α):(ab e xs).set i (e x)=ab e (xs.set i x):=qu xs i x
theorem aK {n:Nat}(h:∀ x,(e x).length=n)(xs:List α):(ab e xs).all (fun r=>r.length == n)=true:=by
 simp only [ab,List.all_map,List.all_eq_true]
 intro x _
 simp [h x]
theorem tY (xs:List Int)(v:Int):ab eI xs++[[.lit (.int .i64 v)]]=ab eI (xs++[v]):=ao xs v
theorem vt (xs:List Int)(i:Nat)(v:Int):(ab eI xs).set i [.lit (.int .i64 v)]=ab eI (xs.set i v):=aJ xs i v
theorem vu (xs:List Int):(ab eI xs).all (fun r=>r.length == 1)=true:=aK (e:=eI) (fun _=>rfl) xs
theorem vw (xs:List Int):frsR (ab eI xs)=true:=bo (fun _=>rfl) xs
theorem tZ (xs:List Int):aL (ab eI xs)=ab eI xs:=aX (fun _=>rfl) xs
theorem vx (n:Nat)(v:Int):List.replicate n [AV.lit (.int .i64 v)]=ab eI (List.replicate n v):=aI (e:=eI) n v
theorem ua (xs:List Int)(v:Int):ab (eK .u8) xs++[[.lit (.int .u8 v)]]=ab (eK .u8) (xs++[v]):=ao (e:=eK .u8) xs v
theorem vy (xs:List Int)(i:Nat)(v:Int):(ab (eK .u8) xs).set i [.lit (.int .u8 v)]=ab (eK .u8) (xs.set i v):=aJ (e:=eK .u8) xs i v
theorem vz (xs:List Int):(ab (eK .u8) xs).all (fun r=>r.length == 1)=true:=aK (e:=eK .u8) (fun _=>rfl) xs
theorem vA (xs:List Int):frsR (ab (eK .u8) xs)=true:=bo (e:=eK .u8) (fun _=>rfl) xs
theorem ub (xs:List Int):aL (ab (eK .u8) xs)=ab (eK .u8) xs:=aX (e:=eK .u8) (fun _=>rfl) xs
theorem uc (xs:List Bool)(v:Bool):ab eB xs++[[.lit (.bool v)]]=ab eB (xs++[v]):=ao xs v
theorem vB (xs:List Bool)(i:Nat)(v:Bool):(ab eB xs).set i [.lit (.bool v)]=ab eB (xs.set i v):=aJ xs i v
theorem vC (xs:List Bool):(ab eB xs).all (fun r=>r.length == 1)=true:=aK (e:=eB) (fun _=>rfl) xs
theorem vD (xs:List Bool):frsR (ab eB xs)=true:=bo (fun _=>rfl) xs
theorem ud (xs:List Bool):aL (ab eB xs)=ab eB xs:=aX (fun _=>rfl) xs
theorem vE (n:Nat)(v:Bool):List.replicate n [AV.lit (.bool v)]=ab eB (List.replicate n v):=aI (e:=eB) n v
theorem ue (xs:List ByteArray)(v:ByteArray):ab eS xs++[[.lit (.string v)]]=ab eS (xs++[v]):=ao xs v
theorem vF (xs:List ByteArray)(i:Nat)(v:ByteArray):(ab eS xs).set i [.lit (.string v)]=ab eS (xs.set i v):=aJ xs i v
theorem vG (xs:List ByteArray):(ab eS xs).all (fun r=>r.length == 1)=true:=aK (e:=eS) (fun _=>rfl) xs
theorem vH (xs:List ByteArray):frsR (ab eS xs)=true:=bo (fun _=>rfl) xs
theorem uf (xs:List ByteArray):aL (ab eS xs)=ab eS xs:=aX (fun _=>rfl) xs
theorem vI (n:Nat)(v:ByteArray):List.replicate n [AV.lit (.string v)]=ab eS (List.replicate n v):=aI (e:=eS) n v
theorem sQ (xs:List (List α))(v:List α):ab (eLO e) xs++[[.own (ab e v)]]=ab (eLO e) (xs++[v]):=ao (e:=eLO e) xs v
theorem ug (xs:List (List α)):(ab (eLO e) xs).all (fun r=>r.length == 1)=true:=aK (e:=eLO e) (fun _=>rfl) xs
theorem uh (h:∀ x,frsR (ab e x)=true)(xs:List (List α)):frsR (ab (eLO e) xs)=true:=bo (e:=eLO e) (fun x=>by simp only [eLO,frsC,frs,h x,Bool.and_self]) xs
theorem sR (h:∀ x,aL (ab e x)=ab e x)(xs:List (List α)):aL (ab (eLO e) xs)=ab (eLS e) xs:=aX (e:=eLO e) (fun x=>by simp only [eLO,eLS,ce,toSl,h x]) xs
theorem ui (xs:List (List α)):(ab (eLS e) xs).all (fun r=>r.length == 1)=true:=aK (e:=eLS e) (fun _=>rfl) xs
theorem sS (xs:List (List α))(v:List α):ab (eLS e) xs++[[.sl (ab e v)]]=ab (eLS e) (xs++[v]):=ao (e:=eLS e) xs v
theorem sT (xs:List (List α)):aL (ab (eLS e) xs)=ab (eLS e) xs:=aX (e:=eLS e) (fun x=>by simp only [eLS,ce,toSl]) xs
theorem uj (xs:List (List α))(i:Nat)(v:List α):(ab (eLS e) xs).set i [.sl (ab e v)]=ab (eLS e) (xs.set i v):=aJ (e:=eLS e) xs i v
theorem oD (n:Nat):List.replicate n [AV.sl []]=ab (eLS eI) (List.replicate n []):=aI (e:=eLS eI) n []
theorem vJ (v:Int):[[AV.lit (.int .i64 v)]]=ab eI [v]:=rfl
theorem uk (v:Int)(xs:List (Int)):[AV.lit (.int .i64 v)]::ab eI xs=ab eI (v::xs):=rfl
theorem vK (v:Int):[[AV.lit (.int .u8 v)]]=ab (eK .u8) [v]:=rfl
theorem ul (v:Int)(xs:List (Int)):[AV.lit (.int .u8 v)]::ab (eK .u8) xs=ab (eK .u8) (v::xs):=rfl
theorem vL (v:Bool):[[AV.lit (.bool v)]]=ab eB [v]:=rfl
theorem um (v:Bool)(xs:List (Bool)):[AV.lit (.bool v)]::ab eB xs=ab eB (v::xs):=rfl
theorem vM (v:ByteArray):[[AV.lit (.string v)]]=ab eS [v]:=rfl
theorem un (v:ByteArray)(xs:List (ByteArray)):[AV.lit (.string v)]::ab eS xs=ab eS (v::xs):=rfl
theorem rH (r rs:List (List AV)):aL ([.sl r]::rs)=[.sl r]::aL rs:=rfl
theorem uo (v:List α):[[AV.own (ab e v)]]=ab (eLO e) [v]:=rfl
theorem sU (v:List α)(xs:List (List α)):[AV.own (ab e v)]::ab (eLO e) xs=ab (eLO e) (v::xs):=rfl
theorem uq (v:List α):[[AV.sl (ab e v)]]=ab (eLS e) [v]:=rfl
theorem sV (v:List α)(xs:List (List α)):[AV.sl (ab e v)]::ab (eLS e) xs=ab (eLS e) (v::xs):=rfl
theorem ut (xs:List Int):ep (ab eI xs)=true:=by
 induction xs with
 | nil=>rfl
 | cons x xs ih=>simp only [jZ,ep,eI,ih,Value.oneCell',Bool.and_self]
theorem pF (xs ys:List α)(i:Nat):putL (ab e xs) i (ab e ys)=ab e (putL xs i ys):=by
 unfold putL
 rw [fe,fe]
 split
 ·simp [ab]
 ·rfl
theorem oE (H:Hp)(x:α)(xs:List α):dn H (.sl (ab e (x::xs)))=some false:=rfl
theorem sW (n:Nat):List.replicate n [AV.own []]=ab (eLO eI) (List.replicate n []):=aI (e:=eLO eI) n []
def qA (k:ByteArray):List (ByteArray × Bool)→Option Bool
 | []=>none
 | p::r=>if k == p.1 then some p.2 else qA k r
def setB (k:ByteArray)(v:Bool):List (ByteArray × Bool)→List (ByteArray × Bool)
 | []=>[(k,v)]
 | p::r=>if k == p.1 then (k,v)::r else p::setB k v r
def eM (es:List (ByteArray × Bool)):List (ByteArray × Value):=es.map (fun p=>(p.1,Value.bool p.2))
theorem vN:eM []=[]:=rfl
theorem sX (k:ByteArray)(es:List (ByteArray × Bool)):dD k (eM es)=(qA k es).map Value.bool:=by
 induction es with
 | nil=>rfl
 | cons p es ih=>
  simp only [eM,List.map_cons,dD,qA] at ih ⊢
  split
  ·rfl
  ·exact ih
theorem uu (k:ByteArray)(b:Bool)(es:List (ByteArray × Bool)):setE k (.bool b) (eM es)=eM (setB k b es):=by
 induction es with
 | nil=>rfl
 | cons p es ih=>
  simp only [eM,List.map_cons,setE,setB] at ih ⊢
  split
  ·simp
  ·simp [ih]
theorem oF (ns:List Int):bA (ab (eK .u8) ns)=some ns:=by
 induction ns with
 | nil=>rfl
 | cons n ns ih=>simp only [jZ,eK,bA,ih]
end
attribute [go_sem] oD sT sX uu vN uj rH List.take_length pF pG ut eI eK eB eS eLS eLO oE vJ uk vK ul vL um vM un uo sU uq sV tY vt vu vw tZ vx ua vy vz vA ub uc vB vC vD ud vE ue vF vG vH uf vI sQ ug uh sR ui sS oF sW
end Go.Proofs.Qf
