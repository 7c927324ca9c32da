/- How lists of plain things lie in rows. Own work. -/
import Derived.Test.YtpkcmjnlnbddbaaGreatDoorXe32
set_option linter.all false
namespace Go.Proofs.Qe
def eI (x:Int):List AV:=[.lit (.int .i64 x)]
def eK (k:IntKind)(x:Int):List AV:=[.lit (.int k x)]
def eB (x:Bool):List AV:=[.lit (.bool x)]
def eS (x:ByteArray):List AV:=[.lit (.string x)]
def eLS {α:Type}(e:α→List AV)(xs:List α):List AV:=[.sl (ab e xs)]
def eLO {α:Type}(e:α→List AV)(xs:List α):List AV:=[.own (ab e xs)]
section
variable {α:Type} {e:α→List AV}
theorem Ar (x:α)(xs:List α):ab e (x::xs)=e x::ab e xs:=rfl
theorem au (xs:List α)(x:α):ab e xs++[e x]=ab e (xs++[x]):=by simp[ab]
theorem aQ (xs:List α)(i:Nat)(x:α):(ab e xs).set i (e x)=ab e (xs.set i x):=LA xs i x
theorem aT {n:Nat}(h:∀ x,(e x).length=n)(xs:List α):(ab e xs).all (fun r=>r.length == n)=true:=by
 simp only[ab,List.all_map,List.all_eq_true]
 intro x _
 simp[h x]
theorem Qm (xs:List Int)(v:Int):ab eI xs++[[.lit (.int .i64 v)]]=ab eI (xs++[v]):=au xs v
theorem Sv (xs:List Int)(i:Nat)(v:Int):(ab eI xs).set i [.lit (.int .i64 v)]=ab eI (xs.set i v):=aQ xs i v
theorem Sw (xs:List Int):(ab eI xs).all (fun r=>r.length == 1)=true:=aT (e:=eI) (fun _=>rfl) xs
theorem Sx (xs:List Int):frsR (ab eI xs)=true:=bR (fun _=>rfl) xs
theorem Qn (xs:List Int):bG (ab eI xs)=ab eI xs:=br (fun _=>rfl) xs
theorem Sy (n:Nat)(v:Int):List.replicate n [AV.lit (.int .i64 v)]=ab eI (List.replicate n v):=aO (e:=eI) n v
theorem Qo (xs:List Int)(v:Int):ab (eK .u8) xs++[[.lit (.int .u8 v)]]=ab (eK .u8) (xs++[v]):=au (e:=eK .u8) xs v
theorem Sz (xs:List Int)(i:Nat)(v:Int):(ab (eK .u8) xs).set i [.lit (.int .u8 v)]=ab (eK .u8) (xs.set i v):=aQ (e:=eK .u8) xs i v
theorem SA (xs:List Int):(ab (eK .u8) xs).all (fun r=>r.length == 1)=true:=aT (e:=eK .u8) (fun _=>rfl) xs
theorem SB (xs:List Int):frsR (ab (eK .u8) xs)=true:=bR (e:=eK .u8) (fun _=>rfl) xs
theorem Qp (xs:List Int):bG (ab (eK .u8) xs)=ab (eK .u8) xs:=br (e:=eK .u8) (fun _=>rfl) xs
theorem Qq (xs:List Bool)(v:Bool):ab eB xs++[[.lit (.bool v)]]=ab eB (xs++[v]):=au xs v
theorem SC (xs:List Bool)(i:Nat)(v:Bool):(ab eB xs).set i [.lit (.bool v)]=ab eB (xs.set i v):=aQ xs i v
theorem SD (xs:List Bool):(ab eB xs).all (fun r=>r.length == 1)=true:=aT (e:=eB) (fun _=>rfl) xs
theorem SE (xs:List Bool):frsR (ab eB xs)=true:=bR (fun _=>rfl) xs
theorem Qr (xs:List Bool):bG (ab eB xs)=ab eB xs:=br (fun _=>rfl) xs
theorem SF (n:Nat)(v:Bool):List.replicate n [AV.lit (.bool v)]=ab eB (List.replicate n v):=aO (e:=eB) n v
theorem Qs (xs:List ByteArray)(v:ByteArray):ab eS xs++[[.lit (.string v)]]=ab eS (xs++[v]):=au xs v
theorem SG (xs:List ByteArray)(i:Nat)(v:ByteArray):(ab eS xs).set i [.lit (.string v)]=ab eS (xs.set i v):=aQ xs i v
theorem SH (xs:List ByteArray):(ab eS xs).all (fun r=>r.length == 1)=true:=aT (e:=eS) (fun _=>rfl) xs
theorem SI (xs:List ByteArray):frsR (ab eS xs)=true:=bR (fun _=>rfl) xs
theorem Qt (xs:List ByteArray):bG (ab eS xs)=ab eS xs:=br (fun _=>rfl) xs
theorem SJ (n:Nat)(v:ByteArray):List.replicate n [AV.lit (.string v)]=ab eS (List.replicate n v):=aO (e:=eS) n v
theorem OL (xs:List (List α))(v:List α):ab (eLO e) xs++[[.own (ab e v)]]=ab (eLO e) (xs++[v]):=au (e:=eLO e) xs v
theorem Qu (xs:List (List α)):(ab (eLO e) xs).all (fun r=>r.length == 1)=true:=aT (e:=eLO e) (fun _=>rfl) xs
theorem Qv (h:∀ x,frsR (ab e x)=true)(xs:List (List α)):frsR (ab (eLO e) xs)=true:=bR (e:=eLO e) (fun x=>by simp only[eLO,frsC,frs,h x,Bool.and_self]) xs
theorem OM (h:∀ x,bG (ab e x)=ab e x)(xs:List (List α)):bG (ab (eLO e) xs)=ab (eLS e) xs:=br (e:=eLO e) (fun x=>by simp only[eLO,eLS,dX,toSl,h x]) xs
theorem Qw (xs:List (List α)):(ab (eLS e) xs).all (fun r=>r.length == 1)=true:=aT (e:=eLS e) (fun _=>rfl) xs
theorem ON (xs:List (List α))(v:List α):ab (eLS e) xs++[[.sl (ab e v)]]=ab (eLS e) (xs++[v]):=au (e:=eLS e) xs v
theorem OO (xs:List (List α)):bG (ab (eLS e) xs)=ab (eLS e) xs:=br (e:=eLS e) (fun x=>by simp only[eLS,dX,toSl]) xs
theorem Qy (xs:List (List α))(i:Nat)(v:List α):(ab (eLS e) xs).set i [.sl (ab e v)]=ab (eLS e) (xs.set i v):=aQ (e:=eLS e) xs i v
theorem Ia (n:Nat):List.replicate n [AV.sl []]=ab (eLS eI) (List.replicate n []):=aO (e:=eLS eI) n []
theorem SK (v:Int):[[AV.lit (.int .i64 v)]]=ab eI [v]:=rfl
theorem Qz (v:Int)(xs:List (Int)):[AV.lit (.int .i64 v)]::ab eI xs=ab eI (v::xs):=rfl
theorem SL (v:Int):[[AV.lit (.int .u8 v)]]=ab (eK .u8) [v]:=rfl
theorem QA (v:Int)(xs:List (Int)):[AV.lit (.int .u8 v)]::ab (eK .u8) xs=ab (eK .u8) (v::xs):=rfl
theorem SM (v:Bool):[[AV.lit (.bool v)]]=ab eB [v]:=rfl
theorem QB (v:Bool)(xs:List (Bool)):[AV.lit (.bool v)]::ab eB xs=ab eB (v::xs):=rfl
theorem SN (v:ByteArray):[[AV.lit (.string v)]]=ab eS [v]:=rfl
theorem QC (v:ByteArray)(xs:List (ByteArray)):[AV.lit (.string v)]::ab eS xs=ab eS (v::xs):=rfl
theorem Np (r rs:List (List AV)):bG ([.sl r]::rs)=[.sl r]::bG rs:=rfl
theorem QD (v:List α):[[AV.own (ab e v)]]=ab (eLO e) [v]:=rfl
theorem OP (v:List α)(xs:List (List α)):[AV.own (ab e v)]::ab (eLO e) xs=ab (eLO e) (v::xs):=rfl
theorem QE (v:List α):[[AV.sl (ab e v)]]=ab (eLS e) [v]:=rfl
theorem OQ (v:List α)(xs:List (List α)):[AV.sl (ab e v)]::ab (eLS e) xs=ab (eLS e) (v::xs):=rfl
theorem QF (xs:List Int):qn (ab eI xs)=true:=by
 induction xs with
 | nil=>rfl
 | cons x xs ih=>simp only[Ar,qn,eI,ih,Value.oneCell',Bool.and_self]
theorem JZ (xs ys:List α)(i:Nat):putL (ab e xs) i (ab e ys)=ab e (putL xs i ys):=by
 unfold putL
 rw[sp,sp]
 split
 ·simp[ab]
 ·rfl
theorem Ib (H:Hp)(x:α)(xs:List α):mG H (.sl (ab e (x::xs)))=some false:=rfl
theorem OR (n:Nat):List.replicate n [AV.own []]=ab (eLO eI) (List.replicate n []):=aO (e:=eLO eI) n []
def ph (k:ByteArray):List (ByteArray × Bool)→Option Bool
 | []=>none
 | p::r=>if k == p.1 then some p.2 else ph k r
def setB (k:ByteArray)(v:Bool):List (ByteArray × Bool)→List (ByteArray × Bool)
 | []=>[(k,v)]
 | p::r=>if k == p.1 then (k,v)::r else p::setB k v r
def eM (es:List (ByteArray × Bool)):List (ByteArray × Value):=es.map (fun p=>(p.1,Value.bool p.2))
theorem SO:eM []=[]:=rfl
theorem OT (k:ByteArray)(es:List (ByteArray × Bool)):pi k (eM es)=(ph k es).map Value.bool:=by
 induction es with
 | nil=>rfl
 | cons p es ih=>
  simp only[eM,List.map_cons,pi,ph]at ih ⊢
  split
  ·rfl
  ·exact ih
theorem QG (k:ByteArray)(b:Bool)(es:List (ByteArray × Bool)):setE k (.bool b) (eM es)=eM (setB k b es):=by
 induction es with
 | nil=>rfl
 | cons p es ih=>
  simp only[eM,List.map_cons,setE,setB]at ih ⊢
  split
  ·simp
  ·simp[ih]
theorem Ic (ns:List Int):gI (ab (eK .u8) ns)=some ns:=by
 induction ns with
 | nil=>rfl
 | cons n ns ih=>simp only[Ar,eK,gI,ih]
end
attribute[go_sem] Ia OO OT QG SO Qy Np List.take_length JZ As QF eI eK eB eS eLS eLO Ib SK Qz SL QA SM QB SN QC QD OP QE OQ Qm Sv Sw Sx Qn Sy Qo Sz SA SB Qp Qq SC SD SE Qr SF Qs SG SH SI Qt SJ OL Qu Qv OM Qw ON Ic OR
end Go.Proofs.Qe
