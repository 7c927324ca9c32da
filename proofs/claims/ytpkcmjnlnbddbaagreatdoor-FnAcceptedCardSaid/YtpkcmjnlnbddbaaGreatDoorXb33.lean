/- How lists of plain things lie in rows. Own work. -/
import Derived.Test.YtpkcmjnlnbddbaaGreatDoorXb32
set_option linter.all false
namespace Go.Proofs.Qb
def eI (x:Int):List AV:=[.lit (.int .i64 x)]
def eK (k:IntKind)(x:Int):List AV:=[.lit (.int k x)]
def eB (x:Bool):List AV:=[.lit (.bool x)]
def eS (x:ByteArray):List AV:=[.lit (.string x)]
def eLS {α:Type}(e:α→List AV)(xs:List α):List AV:=[.sl (ab e xs)]
def eLO {α:Type}(e:α→List AV)(xs:List α):List AV:=[.own (ab e xs)]
section
variable {α:Type} {e:α→List AV}
theorem zb (x:α)(xs:List α):ab e (x::xs)=e x::ab e xs:=rfl
theorem au (xs:List α)(x:α):ab e xs++[e x]=ab e (xs++[x]):=by simp [ab]
theorem aT (xs:List α)(i:Nat)(x:α):(ab e xs).set i (e x)=ab e (xs.set i x):=Ju xs i x
theorem aV {n:Nat}(h:∀ x,(e x).length=n)(xs:List α):(ab e xs).all (fun r=>r.length == n)=true:=by
 simp only [ab,List.all_map,List.all_eq_true]
 intro x _
 simp [h x]
theorem Of (xs:List Int)(v:Int):ab eI xs++[[.lit (.int .i64 v)]]=ab eI (xs++[v]):=au xs v
theorem Qw (xs:List Int)(i:Nat)(v:Int):(ab eI xs).set i [.lit (.int .i64 v)]=ab eI (xs.set i v):=aT xs i v
theorem Qy (xs:List Int):(ab eI xs).all (fun r=>r.length == 1)=true:=aV (e:=eI) (fun _=>rfl) xs
theorem Qz (xs:List Int):frsR (ab eI xs)=true:=bR (fun _=>rfl) xs
theorem Og (xs:List Int):bM (ab eI xs)=ab eI xs:=bz (fun _=>rfl) xs
theorem QA (n:Nat)(v:Int):List.replicate n [AV.lit (.int .i64 v)]=ab eI (List.replicate n v):=aS (e:=eI) n v
theorem Oh (xs:List Int)(v:Int):ab (eK .u8) xs++[[.lit (.int .u8 v)]]=ab (eK .u8) (xs++[v]):=au (e:=eK .u8) xs v
theorem QB (xs:List Int)(i:Nat)(v:Int):(ab (eK .u8) xs).set i [.lit (.int .u8 v)]=ab (eK .u8) (xs.set i v):=aT (e:=eK .u8) xs i v
theorem QC (xs:List Int):(ab (eK .u8) xs).all (fun r=>r.length == 1)=true:=aV (e:=eK .u8) (fun _=>rfl) xs
theorem QD (xs:List Int):frsR (ab (eK .u8) xs)=true:=bR (e:=eK .u8) (fun _=>rfl) xs
theorem Oi (xs:List Int):bM (ab (eK .u8) xs)=ab (eK .u8) xs:=bz (e:=eK .u8) (fun _=>rfl) xs
theorem Oj (xs:List Bool)(v:Bool):ab eB xs++[[.lit (.bool v)]]=ab eB (xs++[v]):=au xs v
theorem QE (xs:List Bool)(i:Nat)(v:Bool):(ab eB xs).set i [.lit (.bool v)]=ab eB (xs.set i v):=aT xs i v
theorem QF (xs:List Bool):(ab eB xs).all (fun r=>r.length == 1)=true:=aV (e:=eB) (fun _=>rfl) xs
theorem QG (xs:List Bool):frsR (ab eB xs)=true:=bR (fun _=>rfl) xs
theorem Ok (xs:List Bool):bM (ab eB xs)=ab eB xs:=bz (fun _=>rfl) xs
theorem QH (n:Nat)(v:Bool):List.replicate n [AV.lit (.bool v)]=ab eB (List.replicate n v):=aS (e:=eB) n v
theorem Ol (xs:List ByteArray)(v:ByteArray):ab eS xs++[[.lit (.string v)]]=ab eS (xs++[v]):=au xs v
theorem QI (xs:List ByteArray)(i:Nat)(v:ByteArray):(ab eS xs).set i [.lit (.string v)]=ab eS (xs.set i v):=aT xs i v
theorem QJ (xs:List ByteArray):(ab eS xs).all (fun r=>r.length == 1)=true:=aV (e:=eS) (fun _=>rfl) xs
theorem QK (xs:List ByteArray):frsR (ab eS xs)=true:=bR (fun _=>rfl) xs
theorem Om (xs:List ByteArray):bM (ab eS xs)=ab eS xs:=bz (fun _=>rfl) xs
theorem QL (n:Nat)(v:ByteArray):List.replicate n [AV.lit (.string v)]=ab eS (List.replicate n v):=aS (e:=eS) n v
theorem MI (xs:List (List α))(v:List α):ab (eLO e) xs++[[.own (ab e v)]]=ab (eLO e) (xs++[v]):=au (e:=eLO e) xs v
theorem On (xs:List (List α)):(ab (eLO e) xs).all (fun r=>r.length == 1)=true:=aV (e:=eLO e) (fun _=>rfl) xs
theorem Oo (h:∀ x,frsR (ab e x)=true)(xs:List (List α)):frsR (ab (eLO e) xs)=true:=bR (e:=eLO e) (fun x=>by simp only [eLO,frsC,frs,h x,Bool.and_self]) xs
theorem MJ (h:∀ x,bM (ab e x)=ab e x)(xs:List (List α)):bM (ab (eLO e) xs)=ab (eLS e) xs:=bz (e:=eLO e) (fun x=>by simp only [eLO,eLS,dV,toSl,h x]) xs
theorem Oq (xs:List (List α)):(ab (eLS e) xs).all (fun r=>r.length == 1)=true:=aV (e:=eLS e) (fun _=>rfl) xs
theorem MK (xs:List (List α))(v:List α):ab (eLS e) xs++[[.sl (ab e v)]]=ab (eLS e) (xs++[v]):=au (e:=eLS e) xs v
theorem ML (xs:List (List α)):bM (ab (eLS e) xs)=ab (eLS e) xs:=bz (e:=eLS e) (fun x=>by simp only [eLS,dV,toSl]) xs
theorem Ot (xs:List (List α))(i:Nat)(v:List α):(ab (eLS e) xs).set i [.sl (ab e v)]=ab (eLS e) (xs.set i v):=aT (e:=eLS e) xs i v
theorem Gr (n:Nat):List.replicate n [AV.sl []]=ab (eLS eI) (List.replicate n []):=aS (e:=eLS eI) n []
theorem QM (v:Int):[[AV.lit (.int .i64 v)]]=ab eI [v]:=rfl
theorem Ou (v:Int)(xs:List (Int)):[AV.lit (.int .i64 v)]::ab eI xs=ab eI (v::xs):=rfl
theorem QN (v:Int):[[AV.lit (.int .u8 v)]]=ab (eK .u8) [v]:=rfl
theorem Ov (v:Int)(xs:List (Int)):[AV.lit (.int .u8 v)]::ab (eK .u8) xs=ab (eK .u8) (v::xs):=rfl
theorem QO (v:Bool):[[AV.lit (.bool v)]]=ab eB [v]:=rfl
theorem Ow (v:Bool)(xs:List (Bool)):[AV.lit (.bool v)]::ab eB xs=ab eB (v::xs):=rfl
theorem QP (v:ByteArray):[[AV.lit (.string v)]]=ab eS [v]:=rfl
theorem Ox (v:ByteArray)(xs:List (ByteArray)):[AV.lit (.string v)]::ab eS xs=ab eS (v::xs):=rfl
theorem Ll (r rs:List (List AV)):bM ([.sl r]::rs)=[.sl r]::bM rs:=rfl
theorem Oy (v:List α):[[AV.own (ab e v)]]=ab (eLO e) [v]:=rfl
theorem MM (v:List α)(xs:List (List α)):[AV.own (ab e v)]::ab (eLO e) xs=ab (eLO e) (v::xs):=rfl
theorem Oz (v:List α):[[AV.sl (ab e v)]]=ab (eLS e) [v]:=rfl
theorem MN (v:List α)(xs:List (List α)):[AV.sl (ab e v)]::ab (eLS e) xs=ab (eLS e) (v::xs):=rfl
theorem OA (xs:List Int):px (ab eI xs)=true:=by
 induction xs with
 | nil=>rfl
 | cons x xs ih=>simp only [zb,px,eI,ih,Value.oneCell',Bool.and_self]
theorem Ie (xs ys:List α)(i:Nat):putL (ab e xs) i (ab e ys)=ab e (putL xs i ys):=by
 unfold putL
 rw [rt,rt]
 split
 ·simp [ab]
 ·rfl
theorem Gs (H:Hp)(x:α)(xs:List α):ml H (.sl (ab e (x::xs)))=some false:=rfl
theorem MO (n:Nat):List.replicate n [AV.own []]=ab (eLO eI) (List.replicate n []):=aS (e:=eLO eI) n []
def om (k:ByteArray):List (ByteArray × Bool)→Option Bool
 | []=>none
 | p::r=>if k == p.1 then some p.2 else om k r
def setB (k:ByteArray)(v:Bool):List (ByteArray × Bool)→List (ByteArray × Bool)
 | []=>[(k,v)]
 | p::r=>if k == p.1 then (k,v)::r else p::setB k v r
def eM (es:List (ByteArray × Bool)):List (ByteArray × Value):=es.map (fun p=>(p.1,Value.bool p.2))
theorem QQ:eM []=[]:=rfl
theorem MP (k:ByteArray)(es:List (ByteArray × Bool)):oo k (eM es)=(om k es).map Value.bool:=by
 induction es with
 | nil=>rfl
 | cons p es ih=>
  simp only [eM,List.map_cons,oo,om] at ih ⊢
  split
  ·rfl
  ·exact ih
theorem OB (k:ByteArray)(b:Bool)(es:List (ByteArray × Bool)):setE k (.bool b) (eM es)=eM (setB k b es):=by
 induction es with
 | nil=>rfl
 | cons p es ih=>
  simp only [eM,List.map_cons,setE,setB] at ih ⊢
  split
  ·simp
  ·simp [ih]
theorem Gt (ns:List Int):gr (ab (eK .u8) ns)=some ns:=by
 induction ns with
 | nil=>rfl
 | cons n ns ih=>simp only [zb,eK,gr,ih]
end
attribute [go_sem] Gr ML MP OB QQ Ot Ll List.take_length Ie zd OA eI eK eB eS eLS eLO Gs QM Ou QN Ov QO Ow QP Ox Oy MM Oz MN Of Qw Qy Qz Og QA Oh QB QC QD Oi Oj QE QF QG Ok QH Ol QI QJ QK Om QL MI On Oo MJ Oq MK Gt MO
end Go.Proofs.Qb
