/- How lists of plain things lie in rows. Own work. -/
import Derived.Test.YtpodkllkinpfmaaGreatDoorXi32
set_option linter.all false
namespace Go.Proofs.Qi
def eI (x:Int):List AV:=[.lit (.int .i64 x)]
def eK (k:IntKind)(x:Int):List AV:=[.lit (.int k x)]
def eB (x:Bool):List AV:=[.lit (.bool x)]
def eS (x:ByteArray):List AV:=[.lit (.string x)]
def eLS {α:Type}(e:α→List AV)(xs:List α):List AV:=[.sl (ab e xs)]
def eLO {α:Type}(e:α→List AV)(xs:List α):List AV:=[.own (ab e xs)]
section
variable {α:Type} {e:α→List AV}
theorem zN (x:α)(xs:List α):ab e (x::xs)=e x::ab e xs:=rfl
theorem aq (xs:List α)(x:α):ab e xs++[e x]=ab e (xs++[x]):=by simp[ab]
theorem aM (xs:List α)(i:Nat)(x:α):(ab e xs).set i (e x)=ab e (xs.set i x):=Lo xs i x
theorem aQ {n:Nat}(h:∀ x,(e x).length=n)(xs:List α):(ab e xs).all (fun r=>r.length == n)=true:=by
 simp only[ab,List.all_map,List.all_eq_true]
 intro x _
 simp[h x]
theorem Qr (xs:List Int)(v:Int):ab eI xs++[[.lit (.int .i64 v)]]=ab eI (xs++[v]):=aq xs v
theorem SV (xs:List Int)(i:Nat)(v:Int):(ab eI xs).set i [.lit (.int .i64 v)]=ab eI (xs.set i v):=aM xs i v
theorem SW (xs:List Int):(ab eI xs).all (fun r=>r.length == 1)=true:=aQ (e:=eI) (fun _=>rfl) xs
theorem SX (xs:List Int):frsR (ab eI xs)=true:=bF (fun _=>rfl) xs
theorem Qs (xs:List Int):bC (ab eI xs)=ab eI xs:=bh (fun _=>rfl) xs
theorem SY (n:Nat)(v:Int):List.replicate n [AV.lit (.int .i64 v)]=ab eI (List.replicate n v):=aN (e:=eI) n v
theorem Qt (xs:List Int)(v:Int):ab (eK .u8) xs++[[.lit (.int .u8 v)]]=ab (eK .u8) (xs++[v]):=aq (e:=eK .u8) xs v
theorem SZ (xs:List Int)(i:Nat)(v:Int):(ab (eK .u8) xs).set i [.lit (.int .u8 v)]=ab (eK .u8) (xs.set i v):=aM (e:=eK .u8) xs i v
theorem Ta (xs:List Int):(ab (eK .u8) xs).all (fun r=>r.length == 1)=true:=aQ (e:=eK .u8) (fun _=>rfl) xs
theorem Tb (xs:List Int):frsR (ab (eK .u8) xs)=true:=bF (e:=eK .u8) (fun _=>rfl) xs
theorem Qu (xs:List Int):bC (ab (eK .u8) xs)=ab (eK .u8) xs:=bh (e:=eK .u8) (fun _=>rfl) xs
theorem Qv (xs:List Bool)(v:Bool):ab eB xs++[[.lit (.bool v)]]=ab eB (xs++[v]):=aq xs v
theorem Tc (xs:List Bool)(i:Nat)(v:Bool):(ab eB xs).set i [.lit (.bool v)]=ab eB (xs.set i v):=aM xs i v
theorem Td (xs:List Bool):(ab eB xs).all (fun r=>r.length == 1)=true:=aQ (e:=eB) (fun _=>rfl) xs
theorem Te (xs:List Bool):frsR (ab eB xs)=true:=bF (fun _=>rfl) xs
theorem Qw (xs:List Bool):bC (ab eB xs)=ab eB xs:=bh (fun _=>rfl) xs
theorem Tf (n:Nat)(v:Bool):List.replicate n [AV.lit (.bool v)]=ab eB (List.replicate n v):=aN (e:=eB) n v
theorem Qy (xs:List ByteArray)(v:ByteArray):ab eS xs++[[.lit (.string v)]]=ab eS (xs++[v]):=aq xs v
theorem Tg (xs:List ByteArray)(i:Nat)(v:ByteArray):(ab eS xs).set i [.lit (.string v)]=ab eS (xs.set i v):=aM xs i v
theorem Th (xs:List ByteArray):(ab eS xs).all (fun r=>r.length == 1)=true:=aQ (e:=eS) (fun _=>rfl) xs
theorem Ti (xs:List ByteArray):frsR (ab eS xs)=true:=bF (fun _=>rfl) xs
theorem Qz (xs:List ByteArray):bC (ab eS xs)=ab eS xs:=bh (fun _=>rfl) xs
theorem Tj (n:Nat)(v:ByteArray):List.replicate n [AV.lit (.string v)]=ab eS (List.replicate n v):=aN (e:=eS) n v
theorem OE (xs:List (List α))(v:List α):ab (eLO e) xs++[[.own (ab e v)]]=ab (eLO e) (xs++[v]):=aq (e:=eLO e) xs v
theorem QA (xs:List (List α)):(ab (eLO e) xs).all (fun r=>r.length == 1)=true:=aQ (e:=eLO e) (fun _=>rfl) xs
theorem QB (h:∀ x,frsR (ab e x)=true)(xs:List (List α)):frsR (ab (eLO e) xs)=true:=bF (e:=eLO e) (fun x=>by simp only[eLO,frsC,frs,h x,Bool.and_self]) xs
theorem OF (h:∀ x,bC (ab e x)=ab e x)(xs:List (List α)):bC (ab (eLO e) xs)=ab (eLS e) xs:=bh (e:=eLO e) (fun x=>by simp only[eLO,eLS,dA,toSl,h x]) xs
theorem QC (xs:List (List α)):(ab (eLS e) xs).all (fun r=>r.length == 1)=true:=aQ (e:=eLS e) (fun _=>rfl) xs
theorem OG (xs:List (List α))(v:List α):ab (eLS e) xs++[[.sl (ab e v)]]=ab (eLS e) (xs++[v]):=aq (e:=eLS e) xs v
theorem OH (xs:List (List α)):bC (ab (eLS e) xs)=ab (eLS e) xs:=bh (e:=eLS e) (fun x=>by simp only[eLS,dA,toSl]) xs
theorem QD (xs:List (List α))(i:Nat)(v:List α):(ab (eLS e) xs).set i [.sl (ab e v)]=ab (eLS e) (xs.set i v):=aM (e:=eLS e) xs i v
theorem Ij (n:Nat):List.replicate n [AV.sl []]=ab (eLS eI) (List.replicate n []):=aN (e:=eLS eI) n []
theorem Tk (v:Int):[[AV.lit (.int .i64 v)]]=ab eI [v]:=rfl
theorem QE (v:Int)(xs:List (Int)):[AV.lit (.int .i64 v)]::ab eI xs=ab eI (v::xs):=rfl
theorem Tl (v:Int):[[AV.lit (.int .u8 v)]]=ab (eK .u8) [v]:=rfl
theorem QF (v:Int)(xs:List (Int)):[AV.lit (.int .u8 v)]::ab (eK .u8) xs=ab (eK .u8) (v::xs):=rfl
theorem Tm (v:Bool):[[AV.lit (.bool v)]]=ab eB [v]:=rfl
theorem QG (v:Bool)(xs:List (Bool)):[AV.lit (.bool v)]::ab eB xs=ab eB (v::xs):=rfl
theorem Tn (v:ByteArray):[[AV.lit (.string v)]]=ab eS [v]:=rfl
theorem QH (v:ByteArray)(xs:List (ByteArray)):[AV.lit (.string v)]::ab eS xs=ab eS (v::xs):=rfl
theorem Nb (r rs:List (List AV)):bC ([.sl r]::rs)=[.sl r]::bC rs:=rfl
theorem QI (v:List α):[[AV.own (ab e v)]]=ab (eLO e) [v]:=rfl
theorem OI (v:List α)(xs:List (List α)):[AV.own (ab e v)]::ab (eLO e) xs=ab (eLO e) (v::xs):=rfl
theorem QJ (v:List α):[[AV.sl (ab e v)]]=ab (eLS e) [v]:=rfl
theorem OJ (v:List α)(xs:List (List α)):[AV.sl (ab e v)]::ab (eLS e) xs=ab (eLS e) (v::xs):=rfl
theorem QK (xs:List Int):oW (ab eI xs)=true:=by
 induction xs with
 | nil=>rfl
 | cons x xs ih=>simp only[zN,oW,eI,ih,Value.oneCell',Bool.and_self]
theorem JP (xs ys:List α)(i:Nat):putL (ab e xs) i (ab e ys)=ab e (putL xs i ys):=by
 unfold putL
 rw[qx,qx]
 split
 ·simp[ab]
 rfl
theorem Ik (H:Hp)(x:α)(xs:List α):mC H (.sl (ab e (x::xs)))=some false:=rfl
theorem OK (n:Nat):List.replicate n [AV.own []]=ab (eLO eI) (List.replicate n []):=aN (e:=eLO eI) n []
def nX (k:ByteArray):List (ByteArray × Bool)→Option Bool
 | []=>none
 | p::r=>if k == p.1 then some p.2 else nX k r
def setB (k:ByteArray)(v:Bool):List (ByteArray × Bool)→List (ByteArray × Bool)
 | []=>[(k,v)]
 | p::r=>if k == p.1 then (k,v)::r else p::setB k v r
def eM (es:List (ByteArray × Bool)):List (ByteArray × Value):=es.map (fun p=>(p.1,Value.bool p.2))
theorem To:eM []=[]:=rfl
theorem OL (k:ByteArray)(es:List (ByteArray × Bool)):nY k (eM es)=(nX k es).map Value.bool:=by
 induction es with
 | nil=>rfl
 | cons p es ih=>
  simp only[eM,List.map_cons,nY,nX]at ih ⊢
  split
  ·rfl
  exact ih
theorem QL (k:ByteArray)(b:Bool)(es:List (ByteArray × Bool)):setE k (.bool b) (eM es)=eM (setB k b es):=by
 induction es with
 | nil=>rfl
 | cons p es ih=>
  simp only[eM,List.map_cons,setE,setB]at ih ⊢
  split
  ·simp
  simp[ih]
theorem Il (ns:List Int):gQ (ab (eK .u8) ns)=some ns:=by
 induction ns with
 | nil=>rfl
 | cons n ns ih=>simp only[zN,eK,gQ,ih]
end
attribute[go_sem] Ij OH OL QL To QD Nb List.take_length JP zO QK eI eK eB eS eLS eLO Ik Tk QE Tl QF Tm QG Tn QH QI OI QJ OJ Qr SV SW SX Qs SY Qt SZ Ta Tb Qu Qv Tc Td Te Qw Tf Qy Tg Th Ti Qz Tj OE QA QB OF QC OG Il OK
end Go.Proofs.Qi
