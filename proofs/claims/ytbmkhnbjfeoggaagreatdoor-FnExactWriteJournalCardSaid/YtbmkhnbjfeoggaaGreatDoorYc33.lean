/- How lists of plain things lie in rows. Own work. -/
import Derived.Test.YtbmkhnbjfeoggaaGreatDoorYc32
set_option linter.all false
namespace Go.Proofs.Qc
def eI (x:Int):List AV:=[.lit (.int .i64 x)]
def eK (k:IntKind)(x:Int):List AV:=[.lit (.int k x)]
def eB (x:Bool):List AV:=[.lit (.bool x)]
def eS (x:ByteArray):List AV:=[.lit (.string x)]
def eLS {α:Type}(e:α→List AV)(xs:List α):List AV:=[.sl (ab e xs)]
def eLO {α:Type}(e:α→List AV)(xs:List α):List AV:=[.own (ab e xs)]
section
variable {α:Type} {e:α→List AV}
theorem vi (x:α)(xs:List α):ab e (x::xs)=e x::ab e xs:=rfl
theorem aE (xs:List α)(x:α):ab e xs++[e x]=ab e (xs++[x]):=by simp [ab]
theorem aR (xs:List α)(i:Nat)(x:α):(ab e xs).set i (e x)=ab e (xs.set i x):=EX xs i x
theorem ba {n:Nat}(h:∀ x,(e x).length=n)(xs:List α):(ab e xs).all (fun r=>r.length == n)=true:=by
 simp only [ab,List.all_map,List.all_eq_true]
 intro x _
 simp [h x]
theorem Jd (xs:List Int)(v:Int):ab eI xs++[[.lit (.int .i64 v)]]=ab eI (xs++[v]):=aE xs v
theorem KO (xs:List Int)(i:Nat)(v:Int):(ab eI xs).set i [.lit (.int .i64 v)]=ab eI (xs.set i v):=aR xs i v
theorem KQ (xs:List Int):(ab eI xs).all (fun r=>r.length == 1)=true:=ba (e:=eI) (fun _=>rfl) xs
theorem KR (xs:List Int):frsR (ab eI xs)=true:=cy (fun _=>rfl) xs
theorem Je (xs:List Int):bo (ab eI xs)=ab eI xs:=bG (fun _=>rfl) xs
theorem KS (n:Nat)(v:Int):List.replicate n [AV.lit (.int .i64 v)]=ab eI (List.replicate n v):=aY (e:=eI) n v
theorem Jf (xs:List Int)(v:Int):ab (eK .u8) xs++[[.lit (.int .u8 v)]]=ab (eK .u8) (xs++[v]):=aE (e:=eK .u8) xs v
theorem KT (xs:List Int)(i:Nat)(v:Int):(ab (eK .u8) xs).set i [.lit (.int .u8 v)]=ab (eK .u8) (xs.set i v):=aR (e:=eK .u8) xs i v
theorem KU (xs:List Int):(ab (eK .u8) xs).all (fun r=>r.length == 1)=true:=ba (e:=eK .u8) (fun _=>rfl) xs
theorem KV (xs:List Int):frsR (ab (eK .u8) xs)=true:=cy (e:=eK .u8) (fun _=>rfl) xs
theorem Jg (xs:List Int):bo (ab (eK .u8) xs)=ab (eK .u8) xs:=bG (e:=eK .u8) (fun _=>rfl) xs
theorem Jh (xs:List Bool)(v:Bool):ab eB xs++[[.lit (.bool v)]]=ab eB (xs++[v]):=aE xs v
theorem KW (xs:List Bool)(i:Nat)(v:Bool):(ab eB xs).set i [.lit (.bool v)]=ab eB (xs.set i v):=aR xs i v
theorem KX (xs:List Bool):(ab eB xs).all (fun r=>r.length == 1)=true:=ba (e:=eB) (fun _=>rfl) xs
theorem KY (xs:List Bool):frsR (ab eB xs)=true:=cy (fun _=>rfl) xs
theorem Ji (xs:List Bool):bo (ab eB xs)=ab eB xs:=bG (fun _=>rfl) xs
theorem KZ (n:Nat)(v:Bool):List.replicate n [AV.lit (.bool v)]=ab eB (List.replicate n v):=aY (e:=eB) n v
theorem Jj (xs:List ByteArray)(v:ByteArray):ab eS xs++[[.lit (.string v)]]=ab eS (xs++[v]):=aE xs v
theorem La (xs:List ByteArray)(i:Nat)(v:ByteArray):(ab eS xs).set i [.lit (.string v)]=ab eS (xs.set i v):=aR xs i v
theorem Lb (xs:List ByteArray):(ab eS xs).all (fun r=>r.length == 1)=true:=ba (e:=eS) (fun _=>rfl) xs
theorem Lc (xs:List ByteArray):frsR (ab eS xs)=true:=cy (fun _=>rfl) xs
theorem Jk (xs:List ByteArray):bo (ab eS xs)=ab eS xs:=bG (fun _=>rfl) xs
theorem Ld (n:Nat)(v:ByteArray):List.replicate n [AV.lit (.string v)]=ab eS (List.replicate n v):=aY (e:=eS) n v
theorem HP (xs:List (List α))(v:List α):ab (eLO e) xs++[[.own (ab e v)]]=ab (eLO e) (xs++[v]):=aE (e:=eLO e) xs v
theorem Jl (xs:List (List α)):(ab (eLO e) xs).all (fun r=>r.length == 1)=true:=ba (e:=eLO e) (fun _=>rfl) xs
theorem Jm (h:∀ x,frsR (ab e x)=true)(xs:List (List α)):frsR (ab (eLO e) xs)=true:=cy (e:=eLO e) (fun x=>by simp only [eLO,frsC,frs,h x,Bool.and_self]) xs
theorem HQ (h:∀ x,bo (ab e x)=ab e x)(xs:List (List α)):bo (ab (eLO e) xs)=ab (eLS e) xs:=bG (e:=eLO e) (fun x=>by simp only [eLO,eLS,eX,toSl,h x]) xs
theorem Jn (xs:List (List α)):(ab (eLS e) xs).all (fun r=>r.length == 1)=true:=ba (e:=eLS e) (fun _=>rfl) xs
theorem HR (xs:List (List α))(v:List α):ab (eLS e) xs++[[.sl (ab e v)]]=ab (eLS e) (xs++[v]):=aE (e:=eLS e) xs v
theorem HS (xs:List (List α)):bo (ab (eLS e) xs)=ab (eLS e) xs:=bG (e:=eLS e) (fun x=>by simp only [eLS,eX,toSl]) xs
theorem Jo (xs:List (List α))(i:Nat)(v:List α):(ab (eLS e) xs).set i [.sl (ab e v)]=ab (eLS e) (xs.set i v):=aR (e:=eLS e) xs i v
theorem Ce (n:Nat):List.replicate n [AV.sl []]=ab (eLS eI) (List.replicate n []):=aY (e:=eLS eI) n []
theorem Le (v:Int):[[AV.lit (.int .i64 v)]]=ab eI [v]:=rfl
theorem Jp (v:Int)(xs:List (Int)):[AV.lit (.int .i64 v)]::ab eI xs=ab eI (v::xs):=rfl
theorem Lf (v:Int):[[AV.lit (.int .u8 v)]]=ab (eK .u8) [v]:=rfl
theorem Jq (v:Int)(xs:List (Int)):[AV.lit (.int .u8 v)]::ab (eK .u8) xs=ab (eK .u8) (v::xs):=rfl
theorem Lg (v:Bool):[[AV.lit (.bool v)]]=ab eB [v]:=rfl
theorem Jr (v:Bool)(xs:List (Bool)):[AV.lit (.bool v)]::ab eB xs=ab eB (v::xs):=rfl
theorem Lh (v:ByteArray):[[AV.lit (.string v)]]=ab eS [v]:=rfl
theorem Js (v:ByteArray)(xs:List (ByteArray)):[AV.lit (.string v)]::ab eS xs=ab eS (v::xs):=rfl
theorem GB (r rs:List (List AV)):bo ([.sl r]::rs)=[.sl r]::bo rs:=rfl
theorem Jt (v:List α):[[AV.own (ab e v)]]=ab (eLO e) [v]:=rfl
theorem HT (v:List α)(xs:List (List α)):[AV.own (ab e v)]::ab (eLO e) xs=ab (eLO e) (v::xs):=rfl
theorem Ju (v:List α):[[AV.sl (ab e v)]]=ab (eLS e) [v]:=rfl
theorem HU (v:List α)(xs:List (List α)):[AV.sl (ab e v)]::ab (eLS e) xs=ab (eLS e) (v::xs):=rfl
theorem Jv (xs:List Int):mj (ab eI xs)=true:=by
 induction xs with
 | nil=>rfl
 | cons x xs ih=>simp only [vi,mj,eI,ih,Value.oneCell',Bool.and_self]
theorem DJ (xs ys:List α)(i:Nat):putL (ab e xs) i (ab e ys)=ab e (putL xs i ys):=by
 unfold putL
 rw [ov,ov]
 split
 ·simp [ab]
 ·rfl
theorem Cf (H:Hp)(x:α)(xs:List α):jD H (.sl (ab e (x::xs)))=some false:=rfl
theorem HV (n:Nat):List.replicate n [AV.own []]=ab (eLO eI) (List.replicate n []):=aY (e:=eLO eI) n []
def Fe (k:ByteArray):List (ByteArray × Bool)→Option Bool
 | []=>none
 | p::r=>if k == p.1 then some p.2 else Fe k r
def setB (k:ByteArray)(v:Bool):List (ByteArray × Bool)→List (ByteArray × Bool)
 | []=>[(k,v)]
 | p::r=>if k == p.1 then (k,v)::r else p::setB k v r
def eM (es:List (ByteArray × Bool)):List (ByteArray × Value):=es.map (fun p=>(p.1,Value.bool p.2))
theorem Li:eM []=[]:=rfl
theorem HW (k:ByteArray)(es:List (ByteArray × Bool)):lf k (eM es)=(Fe k es).map Value.bool:=by
 induction es with
 | nil=>rfl
 | cons p es ih=>
  simp only [eM,List.map_cons,lf,Fe] at ih ⊢
  split
  ·rfl
  ·exact ih
theorem Jw (k:ByteArray)(b:Bool)(es:List (ByteArray × Bool)):setE k (.bool b) (eM es)=eM (setB k b es):=by
 induction es with
 | nil=>rfl
 | cons p es ih=>
  simp only [eM,List.map_cons,setE,setB] at ih ⊢
  split
  ·simp
  ·simp [ih]
theorem Cg (ns:List Int):eg (ab (eK .u8) ns)=some ns:=by
 induction ns with
 | nil=>rfl
 | cons n ns ih=>simp only [vi,eK,eg,ih]
end
attribute [go_sem] Ce HS HW Jw Li Jo GB List.take_length DJ DK Jv eI eK eB eS eLS eLO Cf Le Jp Lf Jq Lg Jr Lh Js Jt HT Ju HU Jd KO KQ KR Je KS Jf KT KU KV Jg Jh KW KX KY Ji KZ Jj La Lb Lc Jk Ld HP Jl Jm HQ Jn HR Cg HV
end Go.Proofs.Qc
