/- How lists of plain things lie in rows. Own work. -/
import Derived.Test.YtpkcmjnlnbddbaaGreatDoorXf32
set_option linter.all false
namespace Go.Proofs.Qf
def eI (x:Int):List AV:=[.lit (.int .i64 x)]
def eK (k:IntKind)(x:Int):List AV:=[.lit (.int k x)]
def eB (x:Bool):List AV:=[.lit (.bool x)]
def eS (x:ByteArray):List AV:=[.lit (.string x)]
def eLS {α:Type}(e:α→List AV)(xs:List α):List AV:=[.sl (ab e xs)]
def eLO {α:Type}(e:α→List AV)(xs:List α):List AV:=[.own (ab e xs)]
section
variable {α:Type} {e:α→List AV}
theorem yi (x:α)(xs:List α):ab e (x::xs)=e x::ab e xs:=rfl
theorem ar (xs:List α)(x:α):ab e xs++[e x]=ab e (xs++[x]):=by simp [ab]
theorem aQ (xs:List α)(i:Nat)(x:α):(ab e xs).set i (e x)=ab e (xs.set i x):=Ip xs i x
theorem aR {n:Nat}(h:∀ x,(e x).length=n)(xs:List α):(ab e xs).all (fun r=>r.length == n)=true:=by
 simp only [ab,List.all_map,List.all_eq_true]
 intro x _
 simp [h x]
theorem Nq (xs:List Int)(v:Int):ab eI xs++[[.lit (.int .i64 v)]]=ab eI (xs++[v]):=ar xs v
theorem PK (xs:List Int)(i:Nat)(v:Int):(ab eI xs).set i [.lit (.int .i64 v)]=ab eI (xs.set i v):=aQ xs i v
theorem PL (xs:List Int):(ab eI xs).all (fun r=>r.length == 1)=true:=aR (e:=eI) (fun _=>rfl) xs
theorem PM (xs:List Int):frsR (ab eI xs)=true:=bG (fun _=>rfl) xs
theorem Nr (xs:List Int):bw (ab eI xs)=ab eI xs:=bi (fun _=>rfl) xs
theorem PN (n:Nat)(v:Int):List.replicate n [AV.lit (.int .i64 v)]=ab eI (List.replicate n v):=aP (e:=eI) n v
theorem Ns (xs:List Int)(v:Int):ab (eK .u8) xs++[[.lit (.int .u8 v)]]=ab (eK .u8) (xs++[v]):=ar (e:=eK .u8) xs v
theorem PO (xs:List Int)(i:Nat)(v:Int):(ab (eK .u8) xs).set i [.lit (.int .u8 v)]=ab (eK .u8) (xs.set i v):=aQ (e:=eK .u8) xs i v
theorem PP (xs:List Int):(ab (eK .u8) xs).all (fun r=>r.length == 1)=true:=aR (e:=eK .u8) (fun _=>rfl) xs
theorem PQ (xs:List Int):frsR (ab (eK .u8) xs)=true:=bG (e:=eK .u8) (fun _=>rfl) xs
theorem Nt (xs:List Int):bw (ab (eK .u8) xs)=ab (eK .u8) xs:=bi (e:=eK .u8) (fun _=>rfl) xs
theorem Nu (xs:List Bool)(v:Bool):ab eB xs++[[.lit (.bool v)]]=ab eB (xs++[v]):=ar xs v
theorem PS (xs:List Bool)(i:Nat)(v:Bool):(ab eB xs).set i [.lit (.bool v)]=ab eB (xs.set i v):=aQ xs i v
theorem PT (xs:List Bool):(ab eB xs).all (fun r=>r.length == 1)=true:=aR (e:=eB) (fun _=>rfl) xs
theorem PU (xs:List Bool):frsR (ab eB xs)=true:=bG (fun _=>rfl) xs
theorem Nv (xs:List Bool):bw (ab eB xs)=ab eB xs:=bi (fun _=>rfl) xs
theorem PV (n:Nat)(v:Bool):List.replicate n [AV.lit (.bool v)]=ab eB (List.replicate n v):=aP (e:=eB) n v
theorem Nw (xs:List ByteArray)(v:ByteArray):ab eS xs++[[.lit (.string v)]]=ab eS (xs++[v]):=ar xs v
theorem PW (xs:List ByteArray)(i:Nat)(v:ByteArray):(ab eS xs).set i [.lit (.string v)]=ab eS (xs.set i v):=aQ xs i v
theorem PX (xs:List ByteArray):(ab eS xs).all (fun r=>r.length == 1)=true:=aR (e:=eS) (fun _=>rfl) xs
theorem PY (xs:List ByteArray):frsR (ab eS xs)=true:=bG (fun _=>rfl) xs
theorem Nx (xs:List ByteArray):bw (ab eS xs)=ab eS xs:=bi (fun _=>rfl) xs
theorem PZ (n:Nat)(v:ByteArray):List.replicate n [AV.lit (.string v)]=ab eS (List.replicate n v):=aP (e:=eS) n v
theorem LN (xs:List (List α))(v:List α):ab (eLO e) xs++[[.own (ab e v)]]=ab (eLO e) (xs++[v]):=ar (e:=eLO e) xs v
theorem Ny (xs:List (List α)):(ab (eLO e) xs).all (fun r=>r.length == 1)=true:=aR (e:=eLO e) (fun _=>rfl) xs
theorem Nz (h:∀ x,frsR (ab e x)=true)(xs:List (List α)):frsR (ab (eLO e) xs)=true:=bG (e:=eLO e) (fun x=>by simp only [eLO,frsC,frs,h x,Bool.and_self]) xs
theorem LO (h:∀ x,bw (ab e x)=ab e x)(xs:List (List α)):bw (ab (eLO e) xs)=ab (eLS e) xs:=bi (e:=eLO e) (fun x=>by simp only [eLO,eLS,dJ,toSl,h x]) xs
theorem NA (xs:List (List α)):(ab (eLS e) xs).all (fun r=>r.length == 1)=true:=aR (e:=eLS e) (fun _=>rfl) xs
theorem LP (xs:List (List α))(v:List α):ab (eLS e) xs++[[.sl (ab e v)]]=ab (eLS e) (xs++[v]):=ar (e:=eLS e) xs v
theorem LQ (xs:List (List α)):bw (ab (eLS e) xs)=ab (eLS e) xs:=bi (e:=eLS e) (fun x=>by simp only [eLS,dJ,toSl]) xs
theorem NB (xs:List (List α))(i:Nat)(v:List α):(ab (eLS e) xs).set i [.sl (ab e v)]=ab (eLS e) (xs.set i v):=aQ (e:=eLS e) xs i v
theorem Fu (n:Nat):List.replicate n [AV.sl []]=ab (eLS eI) (List.replicate n []):=aP (e:=eLS eI) n []
theorem Qa (v:Int):[[AV.lit (.int .i64 v)]]=ab eI [v]:=rfl
theorem NC (v:Int)(xs:List (Int)):[AV.lit (.int .i64 v)]::ab eI xs=ab eI (v::xs):=rfl
theorem Qb (v:Int):[[AV.lit (.int .u8 v)]]=ab (eK .u8) [v]:=rfl
theorem ND (v:Int)(xs:List (Int)):[AV.lit (.int .u8 v)]::ab (eK .u8) xs=ab (eK .u8) (v::xs):=rfl
theorem Qc (v:Bool):[[AV.lit (.bool v)]]=ab eB [v]:=rfl
theorem NE (v:Bool)(xs:List (Bool)):[AV.lit (.bool v)]::ab eB xs=ab eB (v::xs):=rfl
theorem Qd (v:ByteArray):[[AV.lit (.string v)]]=ab eS [v]:=rfl
theorem NF (v:ByteArray)(xs:List (ByteArray)):[AV.lit (.string v)]::ab eS xs=ab eS (v::xs):=rfl
theorem Kn (r rs:List (List AV)):bw ([.sl r]::rs)=[.sl r]::bw rs:=rfl
theorem NG (v:List α):[[AV.own (ab e v)]]=ab (eLO e) [v]:=rfl
theorem LR (v:List α)(xs:List (List α)):[AV.own (ab e v)]::ab (eLO e) xs=ab (eLO e) (v::xs):=rfl
theorem NH (v:List α):[[AV.sl (ab e v)]]=ab (eLS e) [v]:=rfl
theorem LS (v:List α)(xs:List (List α)):[AV.sl (ab e v)]::ab (eLS e) xs=ab (eLS e) (v::xs):=rfl
theorem NI (xs:List Int):nQ (ab eI xs)=true:=by
 induction xs with
 | nil=>rfl
 | cons x xs ih=>simp only [yi,nQ,eI,ih,Value.oneCell',Bool.and_self]
theorem Hc (xs ys:List α)(i:Nat):putL (ab e xs) i (ab e ys)=ab e (putL xs i ys):=by
 unfold putL
 rw [qb,qb]
 split
 ·simp [ab]
 ·rfl
theorem Fv (H:Hp)(x:α)(xs:List α):kZ H (.sl (ab e (x::xs)))=some false:=rfl
theorem LT (n:Nat):List.replicate n [AV.own []]=ab (eLO eI) (List.replicate n []):=aP (e:=eLO eI) n []
def mG (k:ByteArray):List (ByteArray × Bool)→Option Bool
 | []=>none
 | p::r=>if k == p.1 then some p.2 else mG k r
def setB (k:ByteArray)(v:Bool):List (ByteArray × Bool)→List (ByteArray × Bool)
 | []=>[(k,v)]
 | p::r=>if k == p.1 then (k,v)::r else p::setB k v r
def eM (es:List (ByteArray × Bool)):List (ByteArray × Value):=es.map (fun p=>(p.1,Value.bool p.2))
theorem Qe:eM []=[]:=rfl
theorem LU (k:ByteArray)(es:List (ByteArray × Bool)):mH k (eM es)=(mG k es).map Value.bool:=by
 induction es with
 | nil=>rfl
 | cons p es ih=>
  simp only [eM,List.map_cons,mH,mG] at ih ⊢
  split
  ·rfl
  ·exact ih
theorem NJ (k:ByteArray)(b:Bool)(es:List (ByteArray × Bool)):setE k (.bool b) (eM es)=eM (setB k b es):=by
 induction es with
 | nil=>rfl
 | cons p es ih=>
  simp only [eM,List.map_cons,setE,setB] at ih ⊢
  split
  ·simp
  ·simp [ih]
theorem Fw (ns:List Int):fJ (ab (eK .u8) ns)=some ns:=by
 induction ns with
 | nil=>rfl
 | cons n ns ih=>simp only [yi,eK,fJ,ih]
end
attribute [go_sem] Fu LQ LU NJ Qe NB Kn List.take_length Hc yj NI eI eK eB eS eLS eLO Fv Qa NC Qb ND Qc NE Qd NF NG LR NH LS Nq PK PL PM Nr PN Ns PO PP PQ Nt Nu PS PT PU Nv PV Nw PW PX PY Nx PZ LN Ny Nz LO NA LP Fw LT
end Go.Proofs.Qf
