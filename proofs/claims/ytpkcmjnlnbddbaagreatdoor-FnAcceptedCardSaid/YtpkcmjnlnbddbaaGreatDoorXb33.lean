/- How lists of plain things lie in rows. Own work. -/
import Derived.Test.YtpkcmjnlnbddbaaGreatDoorXb32
set_option linter.all false
namespace Go.Proofs.Qb
def eI (x:Int):List AV:=[.lit (.int .i64 x)]
def eK (k:IntKind)(x:Int):List AV:=[.lit (.int k x)]
def eB (x:Bool):List AV:=[.lit (.bool x)]
def eS (x:ByteArray):List AV:=[.lit (.string x)]
def eLS {α:Type}(e:α→List AV)(xs:List α):List AV:=[.sl (ab e xs)]
def eLO {α:Type}(e:α→List AV)(xs:List α):List AV:=[.own (ab e xs)]
section
variable {α:Type} {e:α→List AV}
theorem zi (x:α)(xs:List α):ab e (x::xs)=e x::ab e xs:=rfl
theorem au (xs:List α)(x:α):ab e xs++[e x]=ab e (xs++[x]):=by simp [ab]
theorem aU (xs:List α)(i:Nat)(x:α):(ab e xs).set i (e x)=ab e (xs.set i x):=JA xs i x
theorem aV {n:Nat}(h:∀ x,(e x).length=n)(xs:List α):(ab e xs).all (fun r=>r.length == n)=true:=by
 simp only [ab,List.all_map,List.all_eq_true]
 intro x _
 simp [h x]
theorem Ol (xs:List Int)(v:Int):ab eI xs++[[.lit (.int .i64 v)]]=ab eI (xs++[v]):=au xs v
theorem QD (xs:List Int)(i:Nat)(v:Int):(ab eI xs).set i [.lit (.int .i64 v)]=ab eI (xs.set i v):=aU xs i v
theorem QE (xs:List Int):(ab eI xs).all (fun r=>r.length == 1)=true:=aV (e:=eI) (fun _=>rfl) xs
theorem QF (xs:List Int):frsR (ab eI xs)=true:=bR (fun _=>rfl) xs
theorem Om (xs:List Int):bM (ab eI xs)=ab eI xs:=bz (fun _=>rfl) xs
theorem QG (n:Nat)(v:Int):List.replicate n [AV.lit (.int .i64 v)]=ab eI (List.replicate n v):=aT (e:=eI) n v
theorem On (xs:List Int)(v:Int):ab (eK .u8) xs++[[.lit (.int .u8 v)]]=ab (eK .u8) (xs++[v]):=au (e:=eK .u8) xs v
theorem QH (xs:List Int)(i:Nat)(v:Int):(ab (eK .u8) xs).set i [.lit (.int .u8 v)]=ab (eK .u8) (xs.set i v):=aU (e:=eK .u8) xs i v
theorem QI (xs:List Int):(ab (eK .u8) xs).all (fun r=>r.length == 1)=true:=aV (e:=eK .u8) (fun _=>rfl) xs
theorem QJ (xs:List Int):frsR (ab (eK .u8) xs)=true:=bR (e:=eK .u8) (fun _=>rfl) xs
theorem Oo (xs:List Int):bM (ab (eK .u8) xs)=ab (eK .u8) xs:=bz (e:=eK .u8) (fun _=>rfl) xs
theorem Oq (xs:List Bool)(v:Bool):ab eB xs++[[.lit (.bool v)]]=ab eB (xs++[v]):=au xs v
theorem QK (xs:List Bool)(i:Nat)(v:Bool):(ab eB xs).set i [.lit (.bool v)]=ab eB (xs.set i v):=aU xs i v
theorem QL (xs:List Bool):(ab eB xs).all (fun r=>r.length == 1)=true:=aV (e:=eB) (fun _=>rfl) xs
theorem QM (xs:List Bool):frsR (ab eB xs)=true:=bR (fun _=>rfl) xs
theorem Ot (xs:List Bool):bM (ab eB xs)=ab eB xs:=bz (fun _=>rfl) xs
theorem QN (n:Nat)(v:Bool):List.replicate n [AV.lit (.bool v)]=ab eB (List.replicate n v):=aT (e:=eB) n v
theorem Ou (xs:List ByteArray)(v:ByteArray):ab eS xs++[[.lit (.string v)]]=ab eS (xs++[v]):=au xs v
theorem QO (xs:List ByteArray)(i:Nat)(v:ByteArray):(ab eS xs).set i [.lit (.string v)]=ab eS (xs.set i v):=aU xs i v
theorem QP (xs:List ByteArray):(ab eS xs).all (fun r=>r.length == 1)=true:=aV (e:=eS) (fun _=>rfl) xs
theorem QQ (xs:List ByteArray):frsR (ab eS xs)=true:=bR (fun _=>rfl) xs
theorem Ov (xs:List ByteArray):bM (ab eS xs)=ab eS xs:=bz (fun _=>rfl) xs
theorem QR (n:Nat)(v:ByteArray):List.replicate n [AV.lit (.string v)]=ab eS (List.replicate n v):=aT (e:=eS) n v
theorem MO (xs:List (List α))(v:List α):ab (eLO e) xs++[[.own (ab e v)]]=ab (eLO e) (xs++[v]):=au (e:=eLO e) xs v
theorem Ow (xs:List (List α)):(ab (eLO e) xs).all (fun r=>r.length == 1)=true:=aV (e:=eLO e) (fun _=>rfl) xs
theorem Ox (h:∀ x,frsR (ab e x)=true)(xs:List (List α)):frsR (ab (eLO e) xs)=true:=bR (e:=eLO e) (fun x=>by simp only [eLO,frsC,frs,h x,Bool.and_self]) xs
theorem MP (h:∀ x,bM (ab e x)=ab e x)(xs:List (List α)):bM (ab (eLO e) xs)=ab (eLS e) xs:=bz (e:=eLO e) (fun x=>by simp only [eLO,eLS,dV,toSl,h x]) xs
theorem Oy (xs:List (List α)):(ab (eLS e) xs).all (fun r=>r.length == 1)=true:=aV (e:=eLS e) (fun _=>rfl) xs
theorem MQ (xs:List (List α))(v:List α):ab (eLS e) xs++[[.sl (ab e v)]]=ab (eLS e) (xs++[v]):=au (e:=eLS e) xs v
theorem MR (xs:List (List α)):bM (ab (eLS e) xs)=ab (eLS e) xs:=bz (e:=eLS e) (fun x=>by simp only [eLS,dV,toSl]) xs
theorem Oz (xs:List (List α))(i:Nat)(v:List α):(ab (eLS e) xs).set i [.sl (ab e v)]=ab (eLS e) (xs.set i v):=aU (e:=eLS e) xs i v
theorem Gx (n:Nat):List.replicate n [AV.sl []]=ab (eLS eI) (List.replicate n []):=aT (e:=eLS eI) n []
theorem QS (v:Int):[[AV.lit (.int .i64 v)]]=ab eI [v]:=rfl
theorem OA (v:Int)(xs:List (Int)):[AV.lit (.int .i64 v)]::ab eI xs=ab eI (v::xs):=rfl
theorem QT (v:Int):[[AV.lit (.int .u8 v)]]=ab (eK .u8) [v]:=rfl
theorem OB (v:Int)(xs:List (Int)):[AV.lit (.int .u8 v)]::ab (eK .u8) xs=ab (eK .u8) (v::xs):=rfl
theorem QU (v:Bool):[[AV.lit (.bool v)]]=ab eB [v]:=rfl
theorem OC (v:Bool)(xs:List (Bool)):[AV.lit (.bool v)]::ab eB xs=ab eB (v::xs):=rfl
theorem QV (v:ByteArray):[[AV.lit (.string v)]]=ab eS [v]:=rfl
theorem OD (v:ByteArray)(xs:List (ByteArray)):[AV.lit (.string v)]::ab eS xs=ab eS (v::xs):=rfl
theorem Lr (r rs:List (List AV)):bM ([.sl r]::rs)=[.sl r]::bM rs:=rfl
theorem OE (v:List α):[[AV.own (ab e v)]]=ab (eLO e) [v]:=rfl
theorem MS (v:List α)(xs:List (List α)):[AV.own (ab e v)]::ab (eLO e) xs=ab (eLO e) (v::xs):=rfl
theorem OF (v:List α):[[AV.sl (ab e v)]]=ab (eLS e) [v]:=rfl
theorem MT (v:List α)(xs:List (List α)):[AV.sl (ab e v)]::ab (eLS e) xs=ab (eLS e) (v::xs):=rfl
theorem OG (xs:List Int):pB (ab eI xs)=true:=by
 induction xs with
 | nil=>rfl
 | cons x xs ih=>simp only [zi,pB,eI,ih,Value.oneCell',Bool.and_self]
theorem Ik (xs ys:List α)(i:Nat):putL (ab e xs) i (ab e ys)=ab e (putL xs i ys):=by
 unfold putL
 rw [ry,ry]
 split
 ·simp [ab]
 ·rfl
theorem Gy (H:Hp)(x:α)(xs:List α):mn H (.sl (ab e (x::xs)))=some false:=rfl
theorem MU (n:Nat):List.replicate n [AV.own []]=ab (eLO eI) (List.replicate n []):=aT (e:=eLO eI) n []
def ot (k:ByteArray):List (ByteArray × Bool)→Option Bool
 | []=>none
 | p::r=>if k == p.1 then some p.2 else ot k r
def setB (k:ByteArray)(v:Bool):List (ByteArray × Bool)→List (ByteArray × Bool)
 | []=>[(k,v)]
 | p::r=>if k == p.1 then (k,v)::r else p::setB k v r
def eM (es:List (ByteArray × Bool)):List (ByteArray × Value):=es.map (fun p=>(p.1,Value.bool p.2))
theorem QW:eM []=[]:=rfl
theorem MV (k:ByteArray)(es:List (ByteArray × Bool)):ou k (eM es)=(ot k es).map Value.bool:=by
 induction es with
 | nil=>rfl
 | cons p es ih=>
  simp only [eM,List.map_cons,ou,ot] at ih ⊢
  split
  ·rfl
  ·exact ih
theorem OH (k:ByteArray)(b:Bool)(es:List (ByteArray × Bool)):setE k (.bool b) (eM es)=eM (setB k b es):=by
 induction es with
 | nil=>rfl
 | cons p es ih=>
  simp only [eM,List.map_cons,setE,setB] at ih ⊢
  split
  ·simp
  ·simp [ih]
theorem Gz (ns:List Int):gr (ab (eK .u8) ns)=some ns:=by
 induction ns with
 | nil=>rfl
 | cons n ns ih=>simp only [zi,eK,gr,ih]
end
attribute [go_sem] Gx MR MV OH QW Oz Lr List.take_length Ik zj OG eI eK eB eS eLS eLO Gy QS OA QT OB QU OC QV OD OE MS OF MT Ol QD QE QF Om QG On QH QI QJ Oo Oq QK QL QM Ot QN Ou QO QP QQ Ov QR MO Ow Ox MP Oy MQ Gz MU
end Go.Proofs.Qb
