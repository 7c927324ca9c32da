/- How lists of plain things lie in rows. Own work. -/
import Derived.Test.YtpkcmjnlnbddbaaGreatDoorXc32
set_option linter.all false
namespace Go.Proofs.Qc
def eI (x:Int):List AV:=[.lit (.int .i64 x)]
def eK (k:IntKind)(x:Int):List AV:=[.lit (.int k x)]
def eB (x:Bool):List AV:=[.lit (.bool x)]
def eS (x:ByteArray):List AV:=[.lit (.string x)]
def eLS {α:Type}(e:α→List AV)(xs:List α):List AV:=[.sl (ab e xs)]
def eLO {α:Type}(e:α→List AV)(xs:List α):List AV:=[.own (ab e xs)]
section
variable {α:Type} {e:α→List AV}
theorem AP (x:α)(xs:List α):ab e (x::xs)=e x::ab e xs:=rfl
theorem ar (xs:List α)(x:α):ab e xs++[e x]=ab e (xs++[x]):=by simp[ab]
theorem aQ (xs:List α)(i:Nat)(x:α):(ab e xs).set i (e x)=ab e (xs.set i x):=Ll xs i x
theorem aT {n:Nat}(h:∀ x,(e x).length=n)(xs:List α):(ab e xs).all (fun r=>r.length == n)=true:=by
 simp only[ab,List.all_map,List.all_eq_true]
 intro x _
 simp[h x]
theorem PF (xs:List Int)(v:Int):ab eI xs++[[.lit (.int .i64 v)]]=ab eI (xs++[v]):=ar xs v
theorem RS (xs:List Int)(i:Nat)(v:Int):(ab eI xs).set i [.lit (.int .i64 v)]=ab eI (xs.set i v):=aQ xs i v
theorem RT (xs:List Int):(ab eI xs).all (fun r=>r.length == 1)=true:=aT (e:=eI) (fun _=>rfl) xs
theorem RU (xs:List Int):frsR (ab eI xs)=true:=bQ (fun _=>rfl) xs
theorem PG (xs:List Int):bH (ab eI xs)=ab eI xs:=bv (fun _=>rfl) xs
theorem RV (n:Nat)(v:Int):List.replicate n [AV.lit (.int .i64 v)]=ab eI (List.replicate n v):=aP (e:=eI) n v
theorem PH (xs:List Int)(v:Int):ab (eK .u8) xs++[[.lit (.int .u8 v)]]=ab (eK .u8) (xs++[v]):=ar (e:=eK .u8) xs v
theorem RW (xs:List Int)(i:Nat)(v:Int):(ab (eK .u8) xs).set i [.lit (.int .u8 v)]=ab (eK .u8) (xs.set i v):=aQ (e:=eK .u8) xs i v
theorem RX (xs:List Int):(ab (eK .u8) xs).all (fun r=>r.length == 1)=true:=aT (e:=eK .u8) (fun _=>rfl) xs
theorem RY (xs:List Int):frsR (ab (eK .u8) xs)=true:=bQ (e:=eK .u8) (fun _=>rfl) xs
theorem PI (xs:List Int):bH (ab (eK .u8) xs)=ab (eK .u8) xs:=bv (e:=eK .u8) (fun _=>rfl) xs
theorem PJ (xs:List Bool)(v:Bool):ab eB xs++[[.lit (.bool v)]]=ab eB (xs++[v]):=ar xs v
theorem RZ (xs:List Bool)(i:Nat)(v:Bool):(ab eB xs).set i [.lit (.bool v)]=ab eB (xs.set i v):=aQ xs i v
theorem Sa (xs:List Bool):(ab eB xs).all (fun r=>r.length == 1)=true:=aT (e:=eB) (fun _=>rfl) xs
theorem Sb (xs:List Bool):frsR (ab eB xs)=true:=bQ (fun _=>rfl) xs
theorem PK (xs:List Bool):bH (ab eB xs)=ab eB xs:=bv (fun _=>rfl) xs
theorem Sc (n:Nat)(v:Bool):List.replicate n [AV.lit (.bool v)]=ab eB (List.replicate n v):=aP (e:=eB) n v
theorem PL (xs:List ByteArray)(v:ByteArray):ab eS xs++[[.lit (.string v)]]=ab eS (xs++[v]):=ar xs v
theorem Sd (xs:List ByteArray)(i:Nat)(v:ByteArray):(ab eS xs).set i [.lit (.string v)]=ab eS (xs.set i v):=aQ xs i v
theorem Se (xs:List ByteArray):(ab eS xs).all (fun r=>r.length == 1)=true:=aT (e:=eS) (fun _=>rfl) xs
theorem Sf (xs:List ByteArray):frsR (ab eS xs)=true:=bQ (fun _=>rfl) xs
theorem PM (xs:List ByteArray):bH (ab eS xs)=ab eS xs:=bv (fun _=>rfl) xs
theorem Sg (n:Nat)(v:ByteArray):List.replicate n [AV.lit (.string v)]=ab eS (List.replicate n v):=aP (e:=eS) n v
theorem Oi (xs:List (List α))(v:List α):ab (eLO e) xs++[[.own (ab e v)]]=ab (eLO e) (xs++[v]):=ar (e:=eLO e) xs v
theorem PN (xs:List (List α)):(ab (eLO e) xs).all (fun r=>r.length == 1)=true:=aT (e:=eLO e) (fun _=>rfl) xs
theorem PO (h:∀ x,frsR (ab e x)=true)(xs:List (List α)):frsR (ab (eLO e) xs)=true:=bQ (e:=eLO e) (fun x=>by simp only[eLO,frsC,frs,h x,Bool.and_self]) xs
theorem Oj (h:∀ x,bH (ab e x)=ab e x)(xs:List (List α)):bH (ab (eLO e) xs)=ab (eLS e) xs:=bv (e:=eLO e) (fun x=>by simp only[eLO,eLS,ez,toSl,h x]) xs
theorem PP (xs:List (List α)):(ab (eLS e) xs).all (fun r=>r.length == 1)=true:=aT (e:=eLS e) (fun _=>rfl) xs
theorem Ok (xs:List (List α))(v:List α):ab (eLS e) xs++[[.sl (ab e v)]]=ab (eLS e) (xs++[v]):=ar (e:=eLS e) xs v
theorem Ol (xs:List (List α)):bH (ab (eLS e) xs)=ab (eLS e) xs:=bv (e:=eLS e) (fun x=>by simp only[eLS,ez,toSl]) xs
theorem PQ (xs:List (List α))(i:Nat)(v:List α):(ab (eLS e) xs).set i [.sl (ab e v)]=ab (eLS e) (xs.set i v):=aQ (e:=eLS e) xs i v
theorem HY (n:Nat):List.replicate n [AV.sl []]=ab (eLS eI) (List.replicate n []):=aP (e:=eLS eI) n []
theorem Si (v:Int):[[AV.lit (.int .i64 v)]]=ab eI [v]:=rfl
theorem PS (v:Int)(xs:List (Int)):[AV.lit (.int .i64 v)]::ab eI xs=ab eI (v::xs):=rfl
theorem Sj (v:Int):[[AV.lit (.int .u8 v)]]=ab (eK .u8) [v]:=rfl
theorem PT (v:Int)(xs:List (Int)):[AV.lit (.int .u8 v)]::ab (eK .u8) xs=ab (eK .u8) (v::xs):=rfl
theorem Sk (v:Bool):[[AV.lit (.bool v)]]=ab eB [v]:=rfl
theorem PU (v:Bool)(xs:List (Bool)):[AV.lit (.bool v)]::ab eB xs=ab eB (v::xs):=rfl
theorem Sl (v:ByteArray):[[AV.lit (.string v)]]=ab eS [v]:=rfl
theorem PV (v:ByteArray)(xs:List (ByteArray)):[AV.lit (.string v)]::ab eS xs=ab eS (v::xs):=rfl
theorem MQ (r rs:List (List AV)):bH ([.sl r]::rs)=[.sl r]::bH rs:=rfl
theorem PW (v:List α):[[AV.own (ab e v)]]=ab (eLO e) [v]:=rfl
theorem Om (v:List α)(xs:List (List α)):[AV.own (ab e v)]::ab (eLO e) xs=ab (eLO e) (v::xs):=rfl
theorem PX (v:List α):[[AV.sl (ab e v)]]=ab (eLS e) [v]:=rfl
theorem On (v:List α)(xs:List (List α)):[AV.sl (ab e v)]::ab (eLS e) xs=ab (eLS e) (v::xs):=rfl
theorem PY (xs:List Int):rl (ab eI xs)=true:=by
 induction xs with
 | nil=>rfl
 | cons x xs ih=>simp only[AP,rl,eI,ih,Value.oneCell',Bool.and_self]
theorem JO (xs ys:List α)(i:Nat):putL (ab e xs) i (ab e ys)=ab e (putL xs i ys):=by
 unfold putL
 rw[tG,tG]
 split
 ·simp[ab]
 ·rfl
theorem HZ (H:Hp)(x:α)(xs:List α):nL H (.sl (ab e (x::xs)))=some false:=rfl
theorem Oo (n:Nat):List.replicate n [AV.own []]=ab (eLO eI) (List.replicate n []):=aP (e:=eLO eI) n []
def qc (k:ByteArray):List (ByteArray × Bool)→Option Bool
 | []=>none
 | p::r=>if k == p.1 then some p.2 else qc k r
def setB (k:ByteArray)(v:Bool):List (ByteArray × Bool)→List (ByteArray × Bool)
 | []=>[(k,v)]
 | p::r=>if k == p.1 then (k,v)::r else p::setB k v r
def eM (es:List (ByteArray × Bool)):List (ByteArray × Value):=es.map (fun p=>(p.1,Value.bool p.2))
theorem Sm:eM []=[]:=rfl
theorem Oq (k:ByteArray)(es:List (ByteArray × Bool)):qd k (eM es)=(qc k es).map Value.bool:=by
 induction es with
 | nil=>rfl
 | cons p es ih=>
  simp only[eM,List.map_cons,qd,qc]at ih ⊢
  split
  ·rfl
  ·exact ih
theorem PZ (k:ByteArray)(b:Bool)(es:List (ByteArray × Bool)):setE k (.bool b) (eM es)=eM (setB k b es):=by
 induction es with
 | nil=>rfl
 | cons p es ih=>
  simp only[eM,List.map_cons,setE,setB]at ih ⊢
  split
  ·simp
  ·simp[ih]
theorem Ia (ns:List Int):ia (ab (eK .u8) ns)=some ns:=by
 induction ns with
 | nil=>rfl
 | cons n ns ih=>simp only[AP,eK,ia,ih]
end
attribute[go_sem] HY Ol Oq PZ Sm PQ MQ List.take_length JO AQ PY eI eK eB eS eLS eLO HZ Si PS Sj PT Sk PU Sl PV PW Om PX On PF RS RT RU PG RV PH RW RX RY PI PJ RZ Sa Sb PK Sc PL Sd Se Sf PM Sg Oi PN PO Oj PP Ok Ia Oo
end Go.Proofs.Qc
