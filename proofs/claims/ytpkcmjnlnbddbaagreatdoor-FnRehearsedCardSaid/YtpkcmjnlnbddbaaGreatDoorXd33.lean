/- How lists of plain things lie in rows. Own work. -/
import Derived.Test.YtpkcmjnlnbddbaaGreatDoorXd32
set_option linter.all false
namespace Go.Proofs.Qd
def eI (x:Int):List AV:=[.lit (.int .i64 x)]
def eK (k:IntKind)(x:Int):List AV:=[.lit (.int k x)]
def eB (x:Bool):List AV:=[.lit (.bool x)]
def eS (x:ByteArray):List AV:=[.lit (.string x)]
def eLS {α:Type}(e:α→List AV)(xs:List α):List AV:=[.sl (ab e xs)]
def eLO {α:Type}(e:α→List AV)(xs:List α):List AV:=[.own (ab e xs)]
section
variable {α:Type} {e:α→List AV}
theorem zk (x:α)(xs:List α):ab e (x::xs)=e x::ab e xs:=rfl
theorem aB (xs:List α)(x:α):ab e xs++[e x]=ab e (xs++[x]):=by simp [ab]
theorem aV (xs:List α)(i:Nat)(x:α):(ab e xs).set i (e x)=ab e (xs.set i x):=JY xs i x
theorem aY {n:Nat}(h:∀ x,(e x).length=n)(xs:List α):(ab e xs).all (fun r=>r.length == n)=true:=by
 simp only [ab,List.all_map,List.all_eq_true]
 intro x _
 simp [h x]
theorem Ph (xs:List Int)(v:Int):ab eI xs++[[.lit (.int .i64 v)]]=ab eI (xs++[v]):=aB xs v
theorem Rr (xs:List Int)(i:Nat)(v:Int):(ab eI xs).set i [.lit (.int .i64 v)]=ab eI (xs.set i v):=aV xs i v
theorem Rs (xs:List Int):(ab eI xs).all (fun r=>r.length == 1)=true:=aY (e:=eI) (fun _=>rfl) xs
theorem Rt (xs:List Int):frsR (ab eI xs)=true:=bO (fun _=>rfl) xs
theorem Pi (xs:List Int):bG (ab eI xs)=ab eI xs:=br (fun _=>rfl) xs
theorem Ru (n:Nat)(v:Int):List.replicate n [AV.lit (.int .i64 v)]=ab eI (List.replicate n v):=aU (e:=eI) n v
theorem Pj (xs:List Int)(v:Int):ab (eK .u8) xs++[[.lit (.int .u8 v)]]=ab (eK .u8) (xs++[v]):=aB (e:=eK .u8) xs v
theorem Rv (xs:List Int)(i:Nat)(v:Int):(ab (eK .u8) xs).set i [.lit (.int .u8 v)]=ab (eK .u8) (xs.set i v):=aV (e:=eK .u8) xs i v
theorem Rw (xs:List Int):(ab (eK .u8) xs).all (fun r=>r.length == 1)=true:=aY (e:=eK .u8) (fun _=>rfl) xs
theorem Rx (xs:List Int):frsR (ab (eK .u8) xs)=true:=bO (e:=eK .u8) (fun _=>rfl) xs
theorem Pk (xs:List Int):bG (ab (eK .u8) xs)=ab (eK .u8) xs:=br (e:=eK .u8) (fun _=>rfl) xs
theorem Pl (xs:List Bool)(v:Bool):ab eB xs++[[.lit (.bool v)]]=ab eB (xs++[v]):=aB xs v
theorem Ry (xs:List Bool)(i:Nat)(v:Bool):(ab eB xs).set i [.lit (.bool v)]=ab eB (xs.set i v):=aV xs i v
theorem Rz (xs:List Bool):(ab eB xs).all (fun r=>r.length == 1)=true:=aY (e:=eB) (fun _=>rfl) xs
theorem RA (xs:List Bool):frsR (ab eB xs)=true:=bO (fun _=>rfl) xs
theorem Pm (xs:List Bool):bG (ab eB xs)=ab eB xs:=br (fun _=>rfl) xs
theorem RB (n:Nat)(v:Bool):List.replicate n [AV.lit (.bool v)]=ab eB (List.replicate n v):=aU (e:=eB) n v
theorem Pn (xs:List ByteArray)(v:ByteArray):ab eS xs++[[.lit (.string v)]]=ab eS (xs++[v]):=aB xs v
theorem RC (xs:List ByteArray)(i:Nat)(v:ByteArray):(ab eS xs).set i [.lit (.string v)]=ab eS (xs.set i v):=aV xs i v
theorem RD (xs:List ByteArray):(ab eS xs).all (fun r=>r.length == 1)=true:=aY (e:=eS) (fun _=>rfl) xs
theorem RE (xs:List ByteArray):frsR (ab eS xs)=true:=bO (fun _=>rfl) xs
theorem Po (xs:List ByteArray):bG (ab eS xs)=ab eS xs:=br (fun _=>rfl) xs
theorem RF (n:Nat)(v:ByteArray):List.replicate n [AV.lit (.string v)]=ab eS (List.replicate n v):=aU (e:=eS) n v
theorem NA (xs:List (List α))(v:List α):ab (eLO e) xs++[[.own (ab e v)]]=ab (eLO e) (xs++[v]):=aB (e:=eLO e) xs v
theorem Pp (xs:List (List α)):(ab (eLO e) xs).all (fun r=>r.length == 1)=true:=aY (e:=eLO e) (fun _=>rfl) xs
theorem Pq (h:∀ x,frsR (ab e x)=true)(xs:List (List α)):frsR (ab (eLO e) xs)=true:=bO (e:=eLO e) (fun x=>by simp only [eLO,frsC,frs,h x,Bool.and_self]) xs
theorem NB (h:∀ x,bG (ab e x)=ab e x)(xs:List (List α)):bG (ab (eLO e) xs)=ab (eLS e) xs:=br (e:=eLO e) (fun x=>by simp only [eLO,eLS,dO,toSl,h x]) xs
theorem Pr (xs:List (List α)):(ab (eLS e) xs).all (fun r=>r.length == 1)=true:=aY (e:=eLS e) (fun _=>rfl) xs
theorem NC (xs:List (List α))(v:List α):ab (eLS e) xs++[[.sl (ab e v)]]=ab (eLS e) (xs++[v]):=aB (e:=eLS e) xs v
theorem ND (xs:List (List α)):bG (ab (eLS e) xs)=ab (eLS e) xs:=br (e:=eLS e) (fun x=>by simp only [eLS,dO,toSl]) xs
theorem Ps (xs:List (List α))(i:Nat)(v:List α):(ab (eLS e) xs).set i [.sl (ab e v)]=ab (eLS e) (xs.set i v):=aV (e:=eLS e) xs i v
theorem Hc (n:Nat):List.replicate n [AV.sl []]=ab (eLS eI) (List.replicate n []):=aU (e:=eLS eI) n []
theorem RG (v:Int):[[AV.lit (.int .i64 v)]]=ab eI [v]:=rfl
theorem Pt (v:Int)(xs:List (Int)):[AV.lit (.int .i64 v)]::ab eI xs=ab eI (v::xs):=rfl
theorem RH (v:Int):[[AV.lit (.int .u8 v)]]=ab (eK .u8) [v]:=rfl
theorem Pu (v:Int)(xs:List (Int)):[AV.lit (.int .u8 v)]::ab (eK .u8) xs=ab (eK .u8) (v::xs):=rfl
theorem RI (v:Bool):[[AV.lit (.bool v)]]=ab eB [v]:=rfl
theorem Pv (v:Bool)(xs:List (Bool)):[AV.lit (.bool v)]::ab eB xs=ab eB (v::xs):=rfl
theorem RJ (v:ByteArray):[[AV.lit (.string v)]]=ab eS [v]:=rfl
theorem Pw (v:ByteArray)(xs:List (ByteArray)):[AV.lit (.string v)]::ab eS xs=ab eS (v::xs):=rfl
theorem Ma (r rs:List (List AV)):bG ([.sl r]::rs)=[.sl r]::bG rs:=rfl
theorem Px (v:List α):[[AV.own (ab e v)]]=ab (eLO e) [v]:=rfl
theorem NE (v:List α)(xs:List (List α)):[AV.own (ab e v)]::ab (eLO e) xs=ab (eLO e) (v::xs):=rfl
theorem Py (v:List α):[[AV.sl (ab e v)]]=ab (eLS e) [v]:=rfl
theorem NF (v:List α)(xs:List (List α)):[AV.sl (ab e v)]::ab (eLS e) xs=ab (eLS e) (v::xs):=rfl
theorem Pz (xs:List Int):nY (ab eI xs)=true:=by
 induction xs with
 | nil=>rfl
 | cons x xs ih=>simp only [zk,nY,eI,ih,Value.oneCell',Bool.and_self]
theorem IQ (xs ys:List α)(i:Nat):putL (ab e xs) i (ab e ys)=ab e (putL xs i ys):=by
 unfold putL
 rw [qo,qo]
 split
 ·simp [ab]
 ·rfl
theorem Hd (H:Hp)(x:α)(xs:List α):lf H (.sl (ab e (x::xs)))=some false:=rfl
theorem NG (n:Nat):List.replicate n [AV.own []]=ab (eLO eI) (List.replicate n []):=aU (e:=eLO eI) n []
def mO (k:ByteArray):List (ByteArray × Bool)→Option Bool
 | []=>none
 | p::r=>if k == p.1 then some p.2 else mO k r
def setB (k:ByteArray)(v:Bool):List (ByteArray × Bool)→List (ByteArray × Bool)
 | []=>[(k,v)]
 | p::r=>if k == p.1 then (k,v)::r else p::setB k v r
def eM (es:List (ByteArray × Bool)):List (ByteArray × Value):=es.map (fun p=>(p.1,Value.bool p.2))
theorem RK:eM []=[]:=rfl
theorem NH (k:ByteArray)(es:List (ByteArray × Bool)):mP k (eM es)=(mO k es).map Value.bool:=by
 induction es with
 | nil=>rfl
 | cons p es ih=>
  simp only [eM,List.map_cons,mP,mO] at ih ⊢
  split
  ·rfl
  ·exact ih
theorem PA (k:ByteArray)(b:Bool)(es:List (ByteArray × Bool)):setE k (.bool b) (eM es)=eM (setB k b es):=by
 induction es with
 | nil=>rfl
 | cons p es ih=>
  simp only [eM,List.map_cons,setE,setB] at ih ⊢
  split
  ·simp
  ·simp [ih]
theorem He (ns:List Int):fS (ab (eK .u8) ns)=some ns:=by
 induction ns with
 | nil=>rfl
 | cons n ns ih=>simp only [zk,eK,fS,ih]
end
attribute [go_sem] Hc ND NH PA RK Ps Ma List.take_length IQ zl Pz eI eK eB eS eLS eLO Hd RG Pt RH Pu RI Pv RJ Pw Px NE Py NF Ph Rr Rs Rt Pi Ru Pj Rv Rw Rx Pk Pl Ry Rz RA Pm RB Pn RC RD RE Po RF NA Pp Pq NB Pr NC He NG
end Go.Proofs.Qd
