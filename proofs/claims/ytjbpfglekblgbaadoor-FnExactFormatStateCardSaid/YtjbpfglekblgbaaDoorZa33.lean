/- How lists of plain things lie in rows. Own work. -/
import Derived.Test.YtjbpfglekblgbaaDoorZa32
set_option linter.all false
namespace Go.Proofs.Qa
def eI (x:Int):List AV:=[.lit (.int .i64 x)]
def eK (k:IntKind)(x:Int):List AV:=[.lit (.int k x)]
def eB (x:Bool):List AV:=[.lit (.bool x)]
def eS (x:ByteArray):List AV:=[.lit (.string x)]
def eLS {α:Type}(e:α→List AV)(xs:List α):List AV:=[.sl (ab e xs)]
def eLO {α:Type}(e:α→List AV)(xs:List α):List AV:=[.own (ab e xs)]
section
variable {α:Type} {e:α→List AV}
theorem oe (x:α)(xs:List α):ab e (x::xs)=e x::ab e xs:=rfl
theorem aA (xs:List α)(x:α):ab e xs++[e x]=ab e (xs++[x]):=by simp [ab]
theorem aR (xs:List α)(i:Nat)(x:α):(ab e xs).set i (e x)=ab e (xs.set i x):=vu xs i x
theorem aU {n:Nat}(h:∀ x,(e x).length=n)(xs:List α):(ab e xs).all (fun r=>r.length == n)=true:=by
 simp only [ab,List.all_map,List.all_eq_true]
 intro x _
 simp [h x]
theorem yM (xs:List Int)(v:Int):ab eI xs++[[.lit (.int .i64 v)]]=ab eI (xs++[v]):=aA xs v
theorem Aa (xs:List Int)(i:Nat)(v:Int):(ab eI xs).set i [.lit (.int .i64 v)]=ab eI (xs.set i v):=aR xs i v
theorem Ab (xs:List Int):(ab eI xs).all (fun r=>r.length == 1)=true:=aU (e:=eI) (fun _=>rfl) xs
theorem Ac (xs:List Int):frsR (ab eI xs)=true:=cp (fun _=>rfl) xs
theorem yN (xs:List Int):aW (ab eI xs)=ab eI xs:=bA (fun _=>rfl) xs
theorem Ad (n:Nat)(v:Int):List.replicate n [AV.lit (.int .i64 v)]=ab eI (List.replicate n v):=aP (e:=eI) n v
theorem yO (xs:List Int)(v:Int):ab (eK .u8) xs++[[.lit (.int .u8 v)]]=ab (eK .u8) (xs++[v]):=aA (e:=eK .u8) xs v
theorem Ae (xs:List Int)(i:Nat)(v:Int):(ab (eK .u8) xs).set i [.lit (.int .u8 v)]=ab (eK .u8) (xs.set i v):=aR (e:=eK .u8) xs i v
theorem Af (xs:List Int):(ab (eK .u8) xs).all (fun r=>r.length == 1)=true:=aU (e:=eK .u8) (fun _=>rfl) xs
theorem Ag (xs:List Int):frsR (ab (eK .u8) xs)=true:=cp (e:=eK .u8) (fun _=>rfl) xs
theorem yP (xs:List Int):aW (ab (eK .u8) xs)=ab (eK .u8) xs:=bA (e:=eK .u8) (fun _=>rfl) xs
theorem yQ (xs:List Bool)(v:Bool):ab eB xs++[[.lit (.bool v)]]=ab eB (xs++[v]):=aA xs v
theorem Ah (xs:List Bool)(i:Nat)(v:Bool):(ab eB xs).set i [.lit (.bool v)]=ab eB (xs.set i v):=aR xs i v
theorem Ai (xs:List Bool):(ab eB xs).all (fun r=>r.length == 1)=true:=aU (e:=eB) (fun _=>rfl) xs
theorem Aj (xs:List Bool):frsR (ab eB xs)=true:=cp (fun _=>rfl) xs
theorem yR (xs:List Bool):aW (ab eB xs)=ab eB xs:=bA (fun _=>rfl) xs
theorem Ak (n:Nat)(v:Bool):List.replicate n [AV.lit (.bool v)]=ab eB (List.replicate n v):=aP (e:=eB) n v
theorem yS (xs:List ByteArray)(v:ByteArray):ab eS xs++[[.lit (.string v)]]=ab eS (xs++[v]):=aA xs v
theorem Al (xs:List ByteArray)(i:Nat)(v:ByteArray):(ab eS xs).set i [.lit (.string v)]=ab eS (xs.set i v):=aR xs i v
theorem Am (xs:List ByteArray):(ab eS xs).all (fun r=>r.length == 1)=true:=aU (e:=eS) (fun _=>rfl) xs
theorem An (xs:List ByteArray):frsR (ab eS xs)=true:=cp (fun _=>rfl) xs
theorem yT (xs:List ByteArray):aW (ab eS xs)=ab eS xs:=bA (fun _=>rfl) xs
theorem Ao (n:Nat)(v:ByteArray):List.replicate n [AV.lit (.string v)]=ab eS (List.replicate n v):=aP (e:=eS) n v
theorem xK (xs:List (List α))(v:List α):ab (eLO e) xs++[[.own (ab e v)]]=ab (eLO e) (xs++[v]):=aA (e:=eLO e) xs v
theorem yU (xs:List (List α)):(ab (eLO e) xs).all (fun r=>r.length == 1)=true:=aU (e:=eLO e) (fun _=>rfl) xs
theorem yV (h:∀ x,frsR (ab e x)=true)(xs:List (List α)):frsR (ab (eLO e) xs)=true:=cp (e:=eLO e) (fun x=>by simp only [eLO,frsC,frs,h x,Bool.and_self]) xs
theorem xL (h:∀ x,aW (ab e x)=ab e x)(xs:List (List α)):aW (ab (eLO e) xs)=ab (eLS e) xs:=bA (e:=eLO e) (fun x=>by simp only [eLO,eLS,dT,toSl,h x]) xs
theorem yW (xs:List (List α)):(ab (eLS e) xs).all (fun r=>r.length == 1)=true:=aU (e:=eLS e) (fun _=>rfl) xs
theorem xM (xs:List (List α))(v:List α):ab (eLS e) xs++[[.sl (ab e v)]]=ab (eLS e) (xs++[v]):=aA (e:=eLS e) xs v
theorem xN (xs:List (List α)):aW (ab (eLS e) xs)=ab (eLS e) xs:=bA (e:=eLS e) (fun x=>by simp only [eLS,dT,toSl]) xs
theorem yX (xs:List (List α))(i:Nat)(v:List α):(ab (eLS e) xs).set i [.sl (ab e v)]=ab (eLS e) (xs.set i v):=aR (e:=eLS e) xs i v
theorem tp (n:Nat):List.replicate n [AV.sl []]=ab (eLS eI) (List.replicate n []):=aP (e:=eLS eI) n []
theorem Ap (v:Int):[[AV.lit (.int .i64 v)]]=ab eI [v]:=rfl
theorem yY (v:Int)(xs:List (Int)):[AV.lit (.int .i64 v)]::ab eI xs=ab eI (v::xs):=rfl
theorem Aq (v:Int):[[AV.lit (.int .u8 v)]]=ab (eK .u8) [v]:=rfl
theorem yZ (v:Int)(xs:List (Int)):[AV.lit (.int .u8 v)]::ab (eK .u8) xs=ab (eK .u8) (v::xs):=rfl
theorem Ar (v:Bool):[[AV.lit (.bool v)]]=ab eB [v]:=rfl
theorem za (v:Bool)(xs:List (Bool)):[AV.lit (.bool v)]::ab eB xs=ab eB (v::xs):=rfl
theorem As (v:ByteArray):[[AV.lit (.string v)]]=ab eS [v]:=rfl
theorem zb (v:ByteArray)(xs:List (ByteArray)):[AV.lit (.string v)]::ab eS xs=ab eS (v::xs):=rfl
theorem wJ (r rs:List (List AV)):aW ([.sl r]::rs)=[.sl r]::aW rs:=rfl
theorem zd (v:List α):[[AV.own (ab e v)]]=ab (eLO e) [v]:=rfl
theorem xO (v:List α)(xs:List (List α)):[AV.own (ab e v)]::ab (eLO e) xs=ab (eLO e) (v::xs):=rfl
theorem ze (v:List α):[[AV.sl (ab e v)]]=ab (eLS e) [v]:=rfl
theorem xP (v:List α)(xs:List (List α)):[AV.sl (ab e v)]::ab (eLS e) xs=ab (eLS e) (v::xs):=rfl
theorem zf (xs:List Int):iq (ab eI xs)=true:=by
 induction xs with
 | nil=>rfl
 | cons x xs ih=>simp only [oe,iq,eI,ih,Value.oneCell',Bool.and_self]
theorem ux (xs ys:List α)(i:Nat):putL (ab e xs) i (ab e ys)=ab e (putL xs i ys):=by
 unfold putL
 rw [jw,jw]
 split
 ·simp [ab]
 ·rfl
theorem tq (H:Hp)(x:α)(xs:List α):gn H (.sl (ab e (x::xs)))=some false:=rfl
theorem xQ (n:Nat):List.replicate n [AV.own []]=ab (eLO eI) (List.replicate n []):=aP (e:=eLO eI) n []
def vB (k:ByteArray):List (ByteArray × Bool)→Option Bool
 | []=>none
 | p::r=>if k == p.1 then some p.2 else vB k r
def setB (k:ByteArray)(v:Bool):List (ByteArray × Bool)→List (ByteArray × Bool)
 | []=>[(k,v)]
 | p::r=>if k == p.1 then (k,v)::r else p::setB k v r
def eM (es:List (ByteArray × Bool)):List (ByteArray × Value):=es.map (fun p=>(p.1,Value.bool p.2))
theorem Au:eM []=[]:=rfl
theorem xR (k:ByteArray)(es:List (ByteArray × Bool)):gK k (eM es)=(vB k es).map Value.bool:=by
 induction es with
 | nil=>rfl
 | cons p es ih=>
  simp only [eM,List.map_cons,gK,vB] at ih ⊢
  split
  ·rfl
  ·exact ih
theorem zg (k:ByteArray)(b:Bool)(es:List (ByteArray × Bool)):setE k (.bool b) (eM es)=eM (setB k b es):=by
 induction es with
 | nil=>rfl
 | cons p es ih=>
  simp only [eM,List.map_cons,setE,setB] at ih ⊢
  split
  ·simp
  ·simp [ih]
theorem tu (ns:List Int):cK (ab (eK .u8) ns)=some ns:=by
 induction ns with
 | nil=>rfl
 | cons n ns ih=>simp only [oe,eK,cK,ih]
end
attribute [go_sem] tp xN xR zg Au yX wJ List.take_length ux uy zf eI eK eB eS eLS eLO tq Ap yY Aq yZ Ar za As zb zd xO ze xP yM Aa Ab Ac yN Ad yO Ae Af Ag yP yQ Ah Ai Aj yR Ak yS Al Am An yT Ao xK yU yV xL yW xM tu xQ
end Go.Proofs.Qa
