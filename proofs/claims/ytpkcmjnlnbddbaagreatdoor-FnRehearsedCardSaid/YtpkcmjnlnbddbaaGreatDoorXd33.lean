/- How lists of plain things lie in rows. Own work. -/
import Derived.Test.YtpkcmjnlnbddbaaGreatDoorXd32
set_option linter.all false
namespace Go.Proofs.Qd
def eI (x:Int):List AV:=[.lit (.int .i64 x)]
def eK (k:IntKind)(x:Int):List AV:=[.lit (.int k x)]
def eB (x:Bool):List AV:=[.lit (.bool x)]
def eS (x:ByteArray):List AV:=[.lit (.string x)]
def eLS {α:Type}(e:α→List AV)(xs:List α):List AV:=[.sl (ab e xs)]
def eLO {α:Type}(e:α→List AV)(xs:List α):List AV:=[.own (ab e xs)]
section
variable {α:Type} {e:α→List AV}
theorem xH (x:α)(xs:List α):ab e (x::xs)=e x::ab e xs:=rfl
theorem ar (xs:List α)(x:α):ab e xs++[e x]=ab e (xs++[x]):=by simp [ab]
theorem aP (xs:List α)(i:Nat)(x:α):(ab e xs).set i (e x)=ab e (xs.set i x):=HF xs i x
theorem aS {n:Nat}(h:∀ x,(e x).length=n)(xs:List α):(ab e xs).all (fun r=>r.length == n)=true:=by
 simp only [ab,List.all_map,List.all_eq_true]
 intro x _
 simp [h x]
theorem MI (xs:List Int)(v:Int):ab eI xs++[[.lit (.int .i64 v)]]=ab eI (xs++[v]):=ar xs v
theorem OV (xs:List Int)(i:Nat)(v:Int):(ab eI xs).set i [.lit (.int .i64 v)]=ab eI (xs.set i v):=aP xs i v
theorem OW (xs:List Int):(ab eI xs).all (fun r=>r.length == 1)=true:=aS (e:=eI) (fun _=>rfl) xs
theorem OX (xs:List Int):frsR (ab eI xs)=true:=bI (fun _=>rfl) xs
theorem MJ (xs:List Int):bA (ab eI xs)=ab eI xs:=bl (fun _=>rfl) xs
theorem OY (n:Nat)(v:Int):List.replicate n [AV.lit (.int .i64 v)]=ab eI (List.replicate n v):=aO (e:=eI) n v
theorem MK (xs:List Int)(v:Int):ab (eK .u8) xs++[[.lit (.int .u8 v)]]=ab (eK .u8) (xs++[v]):=ar (e:=eK .u8) xs v
theorem OZ (xs:List Int)(i:Nat)(v:Int):(ab (eK .u8) xs).set i [.lit (.int .u8 v)]=ab (eK .u8) (xs.set i v):=aP (e:=eK .u8) xs i v
theorem Pa (xs:List Int):(ab (eK .u8) xs).all (fun r=>r.length == 1)=true:=aS (e:=eK .u8) (fun _=>rfl) xs
theorem Pb (xs:List Int):frsR (ab (eK .u8) xs)=true:=bI (e:=eK .u8) (fun _=>rfl) xs
theorem ML (xs:List Int):bA (ab (eK .u8) xs)=ab (eK .u8) xs:=bl (e:=eK .u8) (fun _=>rfl) xs
theorem MM (xs:List Bool)(v:Bool):ab eB xs++[[.lit (.bool v)]]=ab eB (xs++[v]):=ar xs v
theorem Pc (xs:List Bool)(i:Nat)(v:Bool):(ab eB xs).set i [.lit (.bool v)]=ab eB (xs.set i v):=aP xs i v
theorem Pd (xs:List Bool):(ab eB xs).all (fun r=>r.length == 1)=true:=aS (e:=eB) (fun _=>rfl) xs
theorem Pe (xs:List Bool):frsR (ab eB xs)=true:=bI (fun _=>rfl) xs
theorem MN (xs:List Bool):bA (ab eB xs)=ab eB xs:=bl (fun _=>rfl) xs
theorem Pf (n:Nat)(v:Bool):List.replicate n [AV.lit (.bool v)]=ab eB (List.replicate n v):=aO (e:=eB) n v
theorem MO (xs:List ByteArray)(v:ByteArray):ab eS xs++[[.lit (.string v)]]=ab eS (xs++[v]):=ar xs v
theorem Pg (xs:List ByteArray)(i:Nat)(v:ByteArray):(ab eS xs).set i [.lit (.string v)]=ab eS (xs.set i v):=aP xs i v
theorem Ph (xs:List ByteArray):(ab eS xs).all (fun r=>r.length == 1)=true:=aS (e:=eS) (fun _=>rfl) xs
theorem Pi (xs:List ByteArray):frsR (ab eS xs)=true:=bI (fun _=>rfl) xs
theorem MP (xs:List ByteArray):bA (ab eS xs)=ab eS xs:=bl (fun _=>rfl) xs
theorem Pj (n:Nat)(v:ByteArray):List.replicate n [AV.lit (.string v)]=ab eS (List.replicate n v):=aO (e:=eS) n v
theorem Lb (xs:List (List α))(v:List α):ab (eLO e) xs++[[.own (ab e v)]]=ab (eLO e) (xs++[v]):=ar (e:=eLO e) xs v
theorem MQ (xs:List (List α)):(ab (eLO e) xs).all (fun r=>r.length == 1)=true:=aS (e:=eLO e) (fun _=>rfl) xs
theorem MR (h:∀ x,frsR (ab e x)=true)(xs:List (List α)):frsR (ab (eLO e) xs)=true:=bI (e:=eLO e) (fun x=>by simp only [eLO,frsC,frs,h x,Bool.and_self]) xs
theorem Lc (h:∀ x,bA (ab e x)=ab e x)(xs:List (List α)):bA (ab (eLO e) xs)=ab (eLS e) xs:=bl (e:=eLO e) (fun x=>by simp only [eLO,eLS,dK,toSl,h x]) xs
theorem MS (xs:List (List α)):(ab (eLS e) xs).all (fun r=>r.length == 1)=true:=aS (e:=eLS e) (fun _=>rfl) xs
theorem Ld (xs:List (List α))(v:List α):ab (eLS e) xs++[[.sl (ab e v)]]=ab (eLS e) (xs++[v]):=ar (e:=eLS e) xs v
theorem Le (xs:List (List α)):bA (ab (eLS e) xs)=ab (eLS e) xs:=bl (e:=eLS e) (fun x=>by simp only [eLS,dK,toSl]) xs
theorem MT (xs:List (List α))(i:Nat)(v:List α):(ab (eLS e) xs).set i [.sl (ab e v)]=ab (eLS e) (xs.set i v):=aP (e:=eLS e) xs i v
theorem EL (n:Nat):List.replicate n [AV.sl []]=ab (eLS eI) (List.replicate n []):=aO (e:=eLS eI) n []
theorem Pk (v:Int):[[AV.lit (.int .i64 v)]]=ab eI [v]:=rfl
theorem MU (v:Int)(xs:List (Int)):[AV.lit (.int .i64 v)]::ab eI xs=ab eI (v::xs):=rfl
theorem Pl (v:Int):[[AV.lit (.int .u8 v)]]=ab (eK .u8) [v]:=rfl
theorem MV (v:Int)(xs:List (Int)):[AV.lit (.int .u8 v)]::ab (eK .u8) xs=ab (eK .u8) (v::xs):=rfl
theorem Pm (v:Bool):[[AV.lit (.bool v)]]=ab eB [v]:=rfl
theorem MW (v:Bool)(xs:List (Bool)):[AV.lit (.bool v)]::ab eB xs=ab eB (v::xs):=rfl
theorem Pn (v:ByteArray):[[AV.lit (.string v)]]=ab eS [v]:=rfl
theorem MX (v:ByteArray)(xs:List (ByteArray)):[AV.lit (.string v)]::ab eS xs=ab eS (v::xs):=rfl
theorem JD (r rs:List (List AV)):bA ([.sl r]::rs)=[.sl r]::bA rs:=rfl
theorem MY (v:List α):[[AV.own (ab e v)]]=ab (eLO e) [v]:=rfl
theorem Lf (v:List α)(xs:List (List α)):[AV.own (ab e v)]::ab (eLO e) xs=ab (eLO e) (v::xs):=rfl
theorem MZ (v:List α):[[AV.sl (ab e v)]]=ab (eLS e) [v]:=rfl
theorem Lg (v:List α)(xs:List (List α)):[AV.sl (ab e v)]::ab (eLS e) xs=ab (eLS e) (v::xs):=rfl
theorem Na (xs:List Int):nF (ab eI xs)=true:=by
 induction xs with
 | nil=>rfl
 | cons x xs ih=>simp only [xH,nF,eI,ih,Value.oneCell',Bool.and_self]
theorem Gu (xs ys:List α)(i:Nat):putL (ab e xs) i (ab e ys)=ab e (putL xs i ys):=by
 unfold putL
 rw [pG,pG]
 split
 ·simp [ab]
 ·rfl
theorem EM (H:Hp)(x:α)(xs:List α):kQ H (.sl (ab e (x::xs)))=some false:=rfl
theorem Lh (n:Nat):List.replicate n [AV.own []]=ab (eLO eI) (List.replicate n []):=aO (e:=eLO eI) n []
def mu (k:ByteArray):List (ByteArray × Bool)→Option Bool
 | []=>none
 | p::r=>if k == p.1 then some p.2 else mu k r
def setB (k:ByteArray)(v:Bool):List (ByteArray × Bool)→List (ByteArray × Bool)
 | []=>[(k,v)]
 | p::r=>if k == p.1 then (k,v)::r else p::setB k v r
def eM (es:List (ByteArray × Bool)):List (ByteArray × Value):=es.map (fun p=>(p.1,Value.bool p.2))
theorem Po:eM []=[]:=rfl
theorem Li (k:ByteArray)(es:List (ByteArray × Bool)):mv k (eM es)=(mu k es).map Value.bool:=by
 induction es with
 | nil=>rfl
 | cons p es ih=>
  simp only [eM,List.map_cons,mv,mu] at ih ⊢
  split
  ·rfl
  ·exact ih
theorem Nb (k:ByteArray)(b:Bool)(es:List (ByteArray × Bool)):setE k (.bool b) (eM es)=eM (setB k b es):=by
 induction es with
 | nil=>rfl
 | cons p es ih=>
  simp only [eM,List.map_cons,setE,setB] at ih ⊢
  split
  ·simp
  ·simp [ih]
theorem EN (ns:List Int):fN (ab (eK .u8) ns)=some ns:=by
 induction ns with
 | nil=>rfl
 | cons n ns ih=>simp only [xH,eK,fN,ih]
end
attribute [go_sem] EL Le Li Nb Po MT JD List.take_length Gu xI Na eI eK eB eS eLS eLO EM Pk MU Pl MV Pm MW Pn MX MY Lf MZ Lg MI OV OW OX MJ OY MK OZ Pa Pb ML MM Pc Pd Pe MN Pf MO Pg Ph Pi MP Pj Lb MQ MR Lc MS Ld EN Lh
end Go.Proofs.Qd
