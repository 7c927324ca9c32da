/- How lists of plain things lie in rows. Own work. -/
import Derived.Test.YtpkcmjnlnbddbaaGreatDoorXa32
set_option linter.all false
namespace Go.Proofs.Qa
def eI (x:Int):List AV:=[.lit (.int .i64 x)]
def eK (k:IntKind)(x:Int):List AV:=[.lit (.int k x)]
def eB (x:Bool):List AV:=[.lit (.bool x)]
def eS (x:ByteArray):List AV:=[.lit (.string x)]
def eLS {α:Type}(e:α→List AV)(xs:List α):List AV:=[.sl (ab e xs)]
def eLO {α:Type}(e:α→List AV)(xs:List α):List AV:=[.own (ab e xs)]
section
variable {α:Type} {e:α→List AV}
theorem tD (x:α)(xs:List α):ab e (x::xs)=e x::ab e xs:=rfl
theorem aq (xs:List α)(x:α):ab e xs++[e x]=ab e (xs++[x]):=by simp [ab]
theorem aK (xs:List α)(i:Nat)(x:α):(ab e xs).set i (e x)=ab e (xs.set i x):=CF xs i x
theorem aN {n:Nat}(h:∀ x,(e x).length=n)(xs:List α):(ab e xs).all (fun r=>r.length == n)=true:=by
 simp only [ab,List.all_map,List.all_eq_true]
 intro x _
 simp [h x]
theorem GO (xs:List Int)(v:Int):ab eI xs++[[.lit (.int .i64 v)]]=ab eI (xs++[v]):=aq xs v
theorem IQ (xs:List Int)(i:Nat)(v:Int):(ab eI xs).set i [.lit (.int .i64 v)]=ab eI (xs.set i v):=aK xs i v
theorem IR (xs:List Int):(ab eI xs).all (fun r=>r.length == 1)=true:=aN (e:=eI) (fun _=>rfl) xs
theorem IS (xs:List Int):frsR (ab eI xs)=true:=bh (fun _=>rfl) xs
theorem GP (xs:List Int):bb (ab eI xs)=ab eI xs:=aT (fun _=>rfl) xs
theorem IT (n:Nat)(v:Int):List.replicate n [AV.lit (.int .i64 v)]=ab eI (List.replicate n v):=aJ (e:=eI) n v
theorem GQ (xs:List Int)(v:Int):ab (eK .u8) xs++[[.lit (.int .u8 v)]]=ab (eK .u8) (xs++[v]):=aq (e:=eK .u8) xs v
theorem IU (xs:List Int)(i:Nat)(v:Int):(ab (eK .u8) xs).set i [.lit (.int .u8 v)]=ab (eK .u8) (xs.set i v):=aK (e:=eK .u8) xs i v
theorem IV (xs:List Int):(ab (eK .u8) xs).all (fun r=>r.length == 1)=true:=aN (e:=eK .u8) (fun _=>rfl) xs
theorem IW (xs:List Int):frsR (ab (eK .u8) xs)=true:=bh (e:=eK .u8) (fun _=>rfl) xs
theorem GR (xs:List Int):bb (ab (eK .u8) xs)=ab (eK .u8) xs:=aT (e:=eK .u8) (fun _=>rfl) xs
theorem GS (xs:List Bool)(v:Bool):ab eB xs++[[.lit (.bool v)]]=ab eB (xs++[v]):=aq xs v
theorem IX (xs:List Bool)(i:Nat)(v:Bool):(ab eB xs).set i [.lit (.bool v)]=ab eB (xs.set i v):=aK xs i v
theorem IY (xs:List Bool):(ab eB xs).all (fun r=>r.length == 1)=true:=aN (e:=eB) (fun _=>rfl) xs
theorem IZ (xs:List Bool):frsR (ab eB xs)=true:=bh (fun _=>rfl) xs
theorem GT (xs:List Bool):bb (ab eB xs)=ab eB xs:=aT (fun _=>rfl) xs
theorem Ja (n:Nat)(v:Bool):List.replicate n [AV.lit (.bool v)]=ab eB (List.replicate n v):=aJ (e:=eB) n v
theorem GU (xs:List ByteArray)(v:ByteArray):ab eS xs++[[.lit (.string v)]]=ab eS (xs++[v]):=aq xs v
theorem Jb (xs:List ByteArray)(i:Nat)(v:ByteArray):(ab eS xs).set i [.lit (.string v)]=ab eS (xs.set i v):=aK xs i v
theorem Jc (xs:List ByteArray):(ab eS xs).all (fun r=>r.length == 1)=true:=aN (e:=eS) (fun _=>rfl) xs
theorem Jd (xs:List ByteArray):frsR (ab eS xs)=true:=bh (fun _=>rfl) xs
theorem GV (xs:List ByteArray):bb (ab eS xs)=ab eS xs:=aT (fun _=>rfl) xs
theorem Je (n:Nat)(v:ByteArray):List.replicate n [AV.lit (.string v)]=ab eS (List.replicate n v):=aJ (e:=eS) n v
theorem FC (xs:List (List α))(v:List α):ab (eLO e) xs++[[.own (ab e v)]]=ab (eLO e) (xs++[v]):=aq (e:=eLO e) xs v
theorem GW (xs:List (List α)):(ab (eLO e) xs).all (fun r=>r.length == 1)=true:=aN (e:=eLO e) (fun _=>rfl) xs
theorem GX (h:∀ x,frsR (ab e x)=true)(xs:List (List α)):frsR (ab (eLO e) xs)=true:=bh (e:=eLO e) (fun x=>by simp only [eLO,frsC,frs,h x,Bool.and_self]) xs
theorem FD (h:∀ x,bb (ab e x)=ab e x)(xs:List (List α)):bb (ab (eLO e) xs)=ab (eLS e) xs:=aT (e:=eLO e) (fun x=>by simp only [eLO,eLS,ct,toSl,h x]) xs
theorem GY (xs:List (List α)):(ab (eLS e) xs).all (fun r=>r.length == 1)=true:=aN (e:=eLS e) (fun _=>rfl) xs
theorem FE (xs:List (List α))(v:List α):ab (eLS e) xs++[[.sl (ab e v)]]=ab (eLS e) (xs++[v]):=aq (e:=eLS e) xs v
theorem FF (xs:List (List α)):bb (ab (eLS e) xs)=ab (eLS e) xs:=aT (e:=eLS e) (fun x=>by simp only [eLS,ct,toSl]) xs
theorem GZ (xs:List (List α))(i:Nat)(v:List α):(ab (eLS e) xs).set i [.sl (ab e v)]=ab (eLS e) (xs.set i v):=aK (e:=eLS e) xs i v
theorem Am (n:Nat):List.replicate n [AV.sl []]=ab (eLS eI) (List.replicate n []):=aJ (e:=eLS eI) n []
theorem Jf (v:Int):[[AV.lit (.int .i64 v)]]=ab eI [v]:=rfl
theorem Ha (v:Int)(xs:List (Int)):[AV.lit (.int .i64 v)]::ab eI xs=ab eI (v::xs):=rfl
theorem Jg (v:Int):[[AV.lit (.int .u8 v)]]=ab (eK .u8) [v]:=rfl
theorem Hb (v:Int)(xs:List (Int)):[AV.lit (.int .u8 v)]::ab (eK .u8) xs=ab (eK .u8) (v::xs):=rfl
theorem Jh (v:Bool):[[AV.lit (.bool v)]]=ab eB [v]:=rfl
theorem Hc (v:Bool)(xs:List (Bool)):[AV.lit (.bool v)]::ab eB xs=ab eB (v::xs):=rfl
theorem Ji (v:ByteArray):[[AV.lit (.string v)]]=ab eS [v]:=rfl
theorem Hd (v:ByteArray)(xs:List (ByteArray)):[AV.lit (.string v)]::ab eS xs=ab eS (v::xs):=rfl
theorem Ev (r rs:List (List AV)):bb ([.sl r]::rs)=[.sl r]::bb rs:=rfl
theorem He (v:List α):[[AV.own (ab e v)]]=ab (eLO e) [v]:=rfl
theorem FG (v:List α)(xs:List (List α)):[AV.own (ab e v)]::ab (eLO e) xs=ab (eLO e) (v::xs):=rfl
theorem Hf (v:List α):[[AV.sl (ab e v)]]=ab (eLS e) [v]:=rfl
theorem FH (v:List α)(xs:List (List α)):[AV.sl (ab e v)]::ab (eLS e) xs=ab (eLS e) (v::xs):=rfl
theorem Hg (xs:List Int):jK (ab eI xs)=true:=by
 induction xs with
 | nil=>rfl
 | cons x xs ih=>simp only [tD,jK,eI,ih,Value.oneCell',Bool.and_self]
theorem BB (xs ys:List α)(i:Nat):putL (ab e xs) i (ab e ys)=ab e (putL xs i ys):=by
 unfold putL
 rw [lm,lm]
 split
 ·simp [ab]
 ·rfl
theorem An (H:Hp)(x:α)(xs:List α):gX H (.sl (ab e (x::xs)))=some false:=rfl
theorem FI (n:Nat):List.replicate n [AV.own []]=ab (eLO eI) (List.replicate n []):=aJ (e:=eLO eI) n []
def CN (k:ByteArray):List (ByteArray × Bool)→Option Bool
 | []=>none
 | p::r=>if k == p.1 then some p.2 else CN k r
def setB (k:ByteArray)(v:Bool):List (ByteArray × Bool)→List (ByteArray × Bool)
 | []=>[(k,v)]
 | p::r=>if k == p.1 then (k,v)::r else p::setB k v r
def eM (es:List (ByteArray × Bool)):List (ByteArray × Value):=es.map (fun p=>(p.1,Value.bool p.2))
theorem Jj:eM []=[]:=rfl
theorem FJ (k:ByteArray)(es:List (ByteArray × Bool)):iT k (eM es)=(CN k es).map Value.bool:=by
 induction es with
 | nil=>rfl
 | cons p es ih=>
  simp only [eM,List.map_cons,iT,CN] at ih ⊢
  split
  ·rfl
  ·exact ih
theorem Hi (k:ByteArray)(b:Bool)(es:List (ByteArray × Bool)):setE k (.bool b) (eM es)=eM (setB k b es):=by
 induction es with
 | nil=>rfl
 | cons p es ih=>
  simp only [eM,List.map_cons,setE,setB] at ih ⊢
  split
  ·simp
  ·simp [ih]
theorem Ao (ns:List Int):dv (ab (eK .u8) ns)=some ns:=by
 induction ns with
 | nil=>rfl
 | cons n ns ih=>simp only [tD,eK,dv,ih]
end
attribute [go_sem] Am FF FJ Hi Jj GZ Ev List.take_length BB BC Hg eI eK eB eS eLS eLO An Jf Ha Jg Hb Jh Hc Ji Hd He FG Hf FH GO IQ IR IS GP IT GQ IU IV IW GR GS IX IY IZ GT Ja GU Jb Jc Jd GV Je FC GW GX FD GY FE Ao FI
end Go.Proofs.Qa
