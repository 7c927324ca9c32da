/- How lists of plain things lie in rows. Own work. -/
import Derived.Test.YtpkcmjnlnbddbaaGreatDoorXd32
set_option linter.all false
namespace Go.Proofs.Qd
def eI (x:Int):List AV:=[.lit (.int .i64 x)]
def eK (k:IntKind)(x:Int):List AV:=[.lit (.int k x)]
def eB (x:Bool):List AV:=[.lit (.bool x)]
def eS (x:ByteArray):List AV:=[.lit (.string x)]
def eLS {α:Type}(e:α→List AV)(xs:List α):List AV:=[.sl (ab e xs)]
def eLO {α:Type}(e:α→List AV)(xs:List α):List AV:=[.own (ab e xs)]
section
variable {α:Type} {e:α→List AV}
theorem xB (x:α)(xs:List α):ab e (x::xs)=e x::ab e xs:=rfl
theorem ar (xs:List α)(x:α):ab e xs++[e x]=ab e (xs++[x]):=by simp [ab]
theorem aP (xs:List α)(i:Nat)(x:α):(ab e xs).set i (e x)=ab e (xs.set i x):=Hz xs i x
theorem aS {n:Nat}(h:∀ x,(e x).length=n)(xs:List α):(ab e xs).all (fun r=>r.length == n)=true:=by
 simp only [ab,List.all_map,List.all_eq_true]
 intro x _
 simp [h x]
theorem MB (xs:List Int)(v:Int):ab eI xs++[[.lit (.int .i64 v)]]=ab eI (xs++[v]):=ar xs v
theorem OO (xs:List Int)(i:Nat)(v:Int):(ab eI xs).set i [.lit (.int .i64 v)]=ab eI (xs.set i v):=aP xs i v
theorem OP (xs:List Int):(ab eI xs).all (fun r=>r.length == 1)=true:=aS (e:=eI) (fun _=>rfl) xs
theorem OQ (xs:List Int):frsR (ab eI xs)=true:=bI (fun _=>rfl) xs
theorem MD (xs:List Int):bA (ab eI xs)=ab eI xs:=bl (fun _=>rfl) xs
theorem OR (n:Nat)(v:Int):List.replicate n [AV.lit (.int .i64 v)]=ab eI (List.replicate n v):=aO (e:=eI) n v
theorem ME (xs:List Int)(v:Int):ab (eK .u8) xs++[[.lit (.int .u8 v)]]=ab (eK .u8) (xs++[v]):=ar (e:=eK .u8) xs v
theorem OT (xs:List Int)(i:Nat)(v:Int):(ab (eK .u8) xs).set i [.lit (.int .u8 v)]=ab (eK .u8) (xs.set i v):=aP (e:=eK .u8) xs i v
theorem OU (xs:List Int):(ab (eK .u8) xs).all (fun r=>r.length == 1)=true:=aS (e:=eK .u8) (fun _=>rfl) xs
theorem OV (xs:List Int):frsR (ab (eK .u8) xs)=true:=bI (e:=eK .u8) (fun _=>rfl) xs
theorem MF (xs:List Int):bA (ab (eK .u8) xs)=ab (eK .u8) xs:=bl (e:=eK .u8) (fun _=>rfl) xs
theorem MG (xs:List Bool)(v:Bool):ab eB xs++[[.lit (.bool v)]]=ab eB (xs++[v]):=ar xs v
theorem OW (xs:List Bool)(i:Nat)(v:Bool):(ab eB xs).set i [.lit (.bool v)]=ab eB (xs.set i v):=aP xs i v
theorem OX (xs:List Bool):(ab eB xs).all (fun r=>r.length == 1)=true:=aS (e:=eB) (fun _=>rfl) xs
theorem OY (xs:List Bool):frsR (ab eB xs)=true:=bI (fun _=>rfl) xs
theorem MH (xs:List Bool):bA (ab eB xs)=ab eB xs:=bl (fun _=>rfl) xs
theorem OZ (n:Nat)(v:Bool):List.replicate n [AV.lit (.bool v)]=ab eB (List.replicate n v):=aO (e:=eB) n v
theorem MI (xs:List ByteArray)(v:ByteArray):ab eS xs++[[.lit (.string v)]]=ab eS (xs++[v]):=ar xs v
theorem Pa (xs:List ByteArray)(i:Nat)(v:ByteArray):(ab eS xs).set i [.lit (.string v)]=ab eS (xs.set i v):=aP xs i v
theorem Pb (xs:List ByteArray):(ab eS xs).all (fun r=>r.length == 1)=true:=aS (e:=eS) (fun _=>rfl) xs
theorem Pc (xs:List ByteArray):frsR (ab eS xs)=true:=bI (fun _=>rfl) xs
theorem MJ (xs:List ByteArray):bA (ab eS xs)=ab eS xs:=bl (fun _=>rfl) xs
theorem Pd (n:Nat)(v:ByteArray):List.replicate n [AV.lit (.string v)]=ab eS (List.replicate n v):=aO (e:=eS) n v
theorem KV (xs:List (List α))(v:List α):ab (eLO e) xs++[[.own (ab e v)]]=ab (eLO e) (xs++[v]):=ar (e:=eLO e) xs v
theorem MK (xs:List (List α)):(ab (eLO e) xs).all (fun r=>r.length == 1)=true:=aS (e:=eLO e) (fun _=>rfl) xs
theorem ML (h:∀ x,frsR (ab e x)=true)(xs:List (List α)):frsR (ab (eLO e) xs)=true:=bI (e:=eLO e) (fun x=>by simp only [eLO,frsC,frs,h x,Bool.and_self]) xs
theorem KW (h:∀ x,bA (ab e x)=ab e x)(xs:List (List α)):bA (ab (eLO e) xs)=ab (eLS e) xs:=bl (e:=eLO e) (fun x=>by simp only [eLO,eLS,dK,toSl,h x]) xs
theorem MM (xs:List (List α)):(ab (eLS e) xs).all (fun r=>r.length == 1)=true:=aS (e:=eLS e) (fun _=>rfl) xs
theorem KX (xs:List (List α))(v:List α):ab (eLS e) xs++[[.sl (ab e v)]]=ab (eLS e) (xs++[v]):=ar (e:=eLS e) xs v
theorem KY (xs:List (List α)):bA (ab (eLS e) xs)=ab (eLS e) xs:=bl (e:=eLS e) (fun x=>by simp only [eLS,dK,toSl]) xs
theorem MN (xs:List (List α))(i:Nat)(v:List α):(ab (eLS e) xs).set i [.sl (ab e v)]=ab (eLS e) (xs.set i v):=aP (e:=eLS e) xs i v
theorem EF (n:Nat):List.replicate n [AV.sl []]=ab (eLS eI) (List.replicate n []):=aO (e:=eLS eI) n []
theorem Pe (v:Int):[[AV.lit (.int .i64 v)]]=ab eI [v]:=rfl
theorem MO (v:Int)(xs:List (Int)):[AV.lit (.int .i64 v)]::ab eI xs=ab eI (v::xs):=rfl
theorem Pf (v:Int):[[AV.lit (.int .u8 v)]]=ab (eK .u8) [v]:=rfl
theorem MP (v:Int)(xs:List (Int)):[AV.lit (.int .u8 v)]::ab (eK .u8) xs=ab (eK .u8) (v::xs):=rfl
theorem Pg (v:Bool):[[AV.lit (.bool v)]]=ab eB [v]:=rfl
theorem MQ (v:Bool)(xs:List (Bool)):[AV.lit (.bool v)]::ab eB xs=ab eB (v::xs):=rfl
theorem Ph (v:ByteArray):[[AV.lit (.string v)]]=ab eS [v]:=rfl
theorem MR (v:ByteArray)(xs:List (ByteArray)):[AV.lit (.string v)]::ab eS xs=ab eS (v::xs):=rfl
theorem Jx (r rs:List (List AV)):bA ([.sl r]::rs)=[.sl r]::bA rs:=rfl
theorem MS (v:List α):[[AV.own (ab e v)]]=ab (eLO e) [v]:=rfl
theorem KZ (v:List α)(xs:List (List α)):[AV.own (ab e v)]::ab (eLO e) xs=ab (eLO e) (v::xs):=rfl
theorem MT (v:List α):[[AV.sl (ab e v)]]=ab (eLS e) [v]:=rfl
theorem La (v:List α)(xs:List (List α)):[AV.sl (ab e v)]::ab (eLS e) xs=ab (eLS e) (v::xs):=rfl
theorem MU (xs:List Int):nz (ab eI xs)=true:=by
 induction xs with
 | nil=>rfl
 | cons x xs ih=>simp only [xB,nz,eI,ih,Value.oneCell',Bool.and_self]
theorem Gn (xs ys:List α)(i:Nat):putL (ab e xs) i (ab e ys)=ab e (putL xs i ys):=by
 unfold putL
 rw [pC,pC]
 split
 ·simp [ab]
 ·rfl
theorem EG (H:Hp)(x:α)(xs:List α):kO H (.sl (ab e (x::xs)))=some false:=rfl
theorem Lb (n:Nat):List.replicate n [AV.own []]=ab (eLO eI) (List.replicate n []):=aO (e:=eLO eI) n []
def mr (k:ByteArray):List (ByteArray × Bool)→Option Bool
 | []=>none
 | p::r=>if k == p.1 then some p.2 else mr k r
def setB (k:ByteArray)(v:Bool):List (ByteArray × Bool)→List (ByteArray × Bool)
 | []=>[(k,v)]
 | p::r=>if k == p.1 then (k,v)::r else p::setB k v r
def eM (es:List (ByteArray × Bool)):List (ByteArray × Value):=es.map (fun p=>(p.1,Value.bool p.2))
theorem Pi:eM []=[]:=rfl
theorem Lc (k:ByteArray)(es:List (ByteArray × Bool)):ms k (eM es)=(mr k es).map Value.bool:=by
 induction es with
 | nil=>rfl
 | cons p es ih=>
  simp only [eM,List.map_cons,ms,mr] at ih ⊢
  split
  ·rfl
  ·exact ih
theorem MV (k:ByteArray)(b:Bool)(es:List (ByteArray × Bool)):setE k (.bool b) (eM es)=eM (setB k b es):=by
 induction es with
 | nil=>rfl
 | cons p es ih=>
  simp only [eM,List.map_cons,setE,setB] at ih ⊢
  split
  ·simp
  ·simp [ih]
theorem EH (ns:List Int):fN (ab (eK .u8) ns)=some ns:=by
 induction ns with
 | nil=>rfl
 | cons n ns ih=>simp only [xB,eK,fN,ih]
end
attribute [go_sem] EF KY Lc MV Pi MN Jx List.take_length Gn xC MU eI eK eB eS eLS eLO EG Pe MO Pf MP Pg MQ Ph MR MS KZ MT La MB OO OP OQ MD OR ME OT OU OV MF MG OW OX OY MH OZ MI Pa Pb Pc MJ Pd KV MK ML KW MM KX EH Lb
end Go.Proofs.Qd
