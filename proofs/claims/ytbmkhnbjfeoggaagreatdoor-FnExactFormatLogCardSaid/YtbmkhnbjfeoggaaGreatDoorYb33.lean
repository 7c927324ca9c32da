/- How lists of plain things lie in rows. Own work. -/
import Derived.Test.YtbmkhnbjfeoggaaGreatDoorYb32
set_option linter.all false
namespace Go.Proofs.Qb
def eI (x:Int):List AV:=[.lit (.int .i64 x)]
def eK (k:IntKind)(x:Int):List AV:=[.lit (.int k x)]
def eB (x:Bool):List AV:=[.lit (.bool x)]
def eS (x:ByteArray):List AV:=[.lit (.string x)]
def eLS {α:Type}(e:α→List AV)(xs:List α):List AV:=[.sl (ab e xs)]
def eLO {α:Type}(e:α→List AV)(xs:List α):List AV:=[.own (ab e xs)]
section
variable {α:Type} {e:α→List AV}
theorem vj (x:α)(xs:List α):ab e (x::xs)=e x::ab e xs:=rfl
theorem aD (xs:List α)(x:α):ab e xs++[e x]=ab e (xs++[x]):=by simp [ab]
theorem aU (xs:List α)(i:Nat)(x:α):(ab e xs).set i (e x)=ab e (xs.set i x):=EU xs i x
theorem bd {n:Nat}(h:∀ x,(e x).length=n)(xs:List α):(ab e xs).all (fun r=>r.length == n)=true:=by
 simp only [ab,List.all_map,List.all_eq_true]
 intro x _
 simp [h x]
theorem Jd (xs:List Int)(v:Int):ab eI xs++[[.lit (.int .i64 v)]]=ab eI (xs++[v]):=aD xs v
theorem KR (xs:List Int)(i:Nat)(v:Int):(ab eI xs).set i [.lit (.int .i64 v)]=ab eI (xs.set i v):=aU xs i v
theorem KS (xs:List Int):(ab eI xs).all (fun r=>r.length == 1)=true:=bd (e:=eI) (fun _=>rfl) xs
theorem KT (xs:List Int):frsR (ab eI xs)=true:=ct (fun _=>rfl) xs
theorem Je (xs:List Int):bq (ab eI xs)=ab eI xs:=bH (fun _=>rfl) xs
theorem KU (n:Nat)(v:Int):List.replicate n [AV.lit (.int .i64 v)]=ab eI (List.replicate n v):=bb (e:=eI) n v
theorem Jf (xs:List Int)(v:Int):ab (eK .u8) xs++[[.lit (.int .u8 v)]]=ab (eK .u8) (xs++[v]):=aD (e:=eK .u8) xs v
theorem KV (xs:List Int)(i:Nat)(v:Int):(ab (eK .u8) xs).set i [.lit (.int .u8 v)]=ab (eK .u8) (xs.set i v):=aU (e:=eK .u8) xs i v
theorem KW (xs:List Int):(ab (eK .u8) xs).all (fun r=>r.length == 1)=true:=bd (e:=eK .u8) (fun _=>rfl) xs
theorem KX (xs:List Int):frsR (ab (eK .u8) xs)=true:=ct (e:=eK .u8) (fun _=>rfl) xs
theorem Jg (xs:List Int):bq (ab (eK .u8) xs)=ab (eK .u8) xs:=bH (e:=eK .u8) (fun _=>rfl) xs
theorem Jh (xs:List Bool)(v:Bool):ab eB xs++[[.lit (.bool v)]]=ab eB (xs++[v]):=aD xs v
theorem KY (xs:List Bool)(i:Nat)(v:Bool):(ab eB xs).set i [.lit (.bool v)]=ab eB (xs.set i v):=aU xs i v
theorem KZ (xs:List Bool):(ab eB xs).all (fun r=>r.length == 1)=true:=bd (e:=eB) (fun _=>rfl) xs
theorem La (xs:List Bool):frsR (ab eB xs)=true:=ct (fun _=>rfl) xs
theorem Ji (xs:List Bool):bq (ab eB xs)=ab eB xs:=bH (fun _=>rfl) xs
theorem Lb (n:Nat)(v:Bool):List.replicate n [AV.lit (.bool v)]=ab eB (List.replicate n v):=bb (e:=eB) n v
theorem Jj (xs:List ByteArray)(v:ByteArray):ab eS xs++[[.lit (.string v)]]=ab eS (xs++[v]):=aD xs v
theorem Lc (xs:List ByteArray)(i:Nat)(v:ByteArray):(ab eS xs).set i [.lit (.string v)]=ab eS (xs.set i v):=aU xs i v
theorem Ld (xs:List ByteArray):(ab eS xs).all (fun r=>r.length == 1)=true:=bd (e:=eS) (fun _=>rfl) xs
theorem Le (xs:List ByteArray):frsR (ab eS xs)=true:=ct (fun _=>rfl) xs
theorem Jk (xs:List ByteArray):bq (ab eS xs)=ab eS xs:=bH (fun _=>rfl) xs
theorem Lf (n:Nat)(v:ByteArray):List.replicate n [AV.lit (.string v)]=ab eS (List.replicate n v):=bb (e:=eS) n v
theorem HM (xs:List (List α))(v:List α):ab (eLO e) xs++[[.own (ab e v)]]=ab (eLO e) (xs++[v]):=aD (e:=eLO e) xs v
theorem Jl (xs:List (List α)):(ab (eLO e) xs).all (fun r=>r.length == 1)=true:=bd (e:=eLO e) (fun _=>rfl) xs
theorem Jm (h:∀ x,frsR (ab e x)=true)(xs:List (List α)):frsR (ab (eLO e) xs)=true:=ct (e:=eLO e) (fun x=>by simp only [eLO,frsC,frs,h x,Bool.and_self]) xs
theorem HN (h:∀ x,bq (ab e x)=ab e x)(xs:List (List α)):bq (ab (eLO e) xs)=ab (eLS e) xs:=bH (e:=eLO e) (fun x=>by simp only [eLO,eLS,fx,toSl,h x]) xs
theorem Jn (xs:List (List α)):(ab (eLS e) xs).all (fun r=>r.length == 1)=true:=bd (e:=eLS e) (fun _=>rfl) xs
theorem HP (xs:List (List α))(v:List α):ab (eLS e) xs++[[.sl (ab e v)]]=ab (eLS e) (xs++[v]):=aD (e:=eLS e) xs v
theorem HQ (xs:List (List α)):bq (ab (eLS e) xs)=ab (eLS e) xs:=bH (e:=eLS e) (fun x=>by simp only [eLS,fx,toSl]) xs
theorem Jo (xs:List (List α))(i:Nat)(v:List α):(ab (eLS e) xs).set i [.sl (ab e v)]=ab (eLS e) (xs.set i v):=aU (e:=eLS e) xs i v
theorem Ci (n:Nat):List.replicate n [AV.sl []]=ab (eLS eI) (List.replicate n []):=bb (e:=eLS eI) n []
theorem Lg (v:Int):[[AV.lit (.int .i64 v)]]=ab eI [v]:=rfl
theorem Jp (v:Int)(xs:List (Int)):[AV.lit (.int .i64 v)]::ab eI xs=ab eI (v::xs):=rfl
theorem Lh (v:Int):[[AV.lit (.int .u8 v)]]=ab (eK .u8) [v]:=rfl
theorem Jq (v:Int)(xs:List (Int)):[AV.lit (.int .u8 v)]::ab (eK .u8) xs=ab (eK .u8) (v::xs):=rfl
theorem Li (v:Bool):[[AV.lit (.bool v)]]=ab eB [v]:=rfl
theorem Jr (v:Bool)(xs:List (Bool)):[AV.lit (.bool v)]::ab eB xs=ab eB (v::xs):=rfl
theorem Lj (v:ByteArray):[[AV.lit (.string v)]]=ab eS [v]:=rfl
theorem Js (v:ByteArray)(xs:List (ByteArray)):[AV.lit (.string v)]::ab eS xs=ab eS (v::xs):=rfl
theorem GB (r rs:List (List AV)):bq ([.sl r]::rs)=[.sl r]::bq rs:=rfl
theorem Jt (v:List α):[[AV.own (ab e v)]]=ab (eLO e) [v]:=rfl
theorem HR (v:List α)(xs:List (List α)):[AV.own (ab e v)]::ab (eLO e) xs=ab (eLO e) (v::xs):=rfl
theorem Ju (v:List α):[[AV.sl (ab e v)]]=ab (eLS e) [v]:=rfl
theorem HS (v:List α)(xs:List (List α)):[AV.sl (ab e v)]::ab (eLS e) xs=ab (eLS e) (v::xs):=rfl
theorem Jv (xs:List Int):mG (ab eI xs)=true:=by
 induction xs with
 | nil=>rfl
 | cons x xs ih=>simp only [vj,mG,eI,ih,Value.oneCell',Bool.and_self]
theorem DK (xs ys:List α)(i:Nat):putL (ab e xs) i (ab e ys)=ab e (putL xs i ys):=by
 unfold putL
 rw [lw,lw]
 split
 ·simp [ab]
 ·rfl
theorem Cj (H:Hp)(x:α)(xs:List α):jE H (.sl (ab e (x::xs)))=some false:=rfl
theorem HT (n:Nat):List.replicate n [AV.own []]=ab (eLO eI) (List.replicate n []):=bb (e:=eLO eI) n []
def Fd (k:ByteArray):List (ByteArray × Bool)→Option Bool
 | []=>none
 | p::r=>if k == p.1 then some p.2 else Fd k r
def setB (k:ByteArray)(v:Bool):List (ByteArray × Bool)→List (ByteArray × Bool)
 | []=>[(k,v)]
 | p::r=>if k == p.1 then (k,v)::r else p::setB k v r
def eM (es:List (ByteArray × Bool)):List (ByteArray × Value):=es.map (fun p=>(p.1,Value.bool p.2))
theorem Lk:eM []=[]:=rfl
theorem HU (k:ByteArray)(es:List (ByteArray × Bool)):lx k (eM es)=(Fd k es).map Value.bool:=by
 induction es with
 | nil=>rfl
 | cons p es ih=>
  simp only [eM,List.map_cons,lx,Fd] at ih ⊢
  split
  ·rfl
  ·exact ih
theorem Jw (k:ByteArray)(b:Bool)(es:List (ByteArray × Bool)):setE k (.bool b) (eM es)=eM (setB k b es):=by
 induction es with
 | nil=>rfl
 | cons p es ih=>
  simp only [eM,List.map_cons,setE,setB] at ih ⊢
  split
  ·simp
  ·simp [ih]
theorem Ck (ns:List Int):eD (ab (eK .u8) ns)=some ns:=by
 induction ns with
 | nil=>rfl
 | cons n ns ih=>simp only [vj,eK,eD,ih]
end
theorem rr {P:Program}{f:Nat}{α:Type}{e:α→List AV}{ys ys':List α}{xs:List Value}{Q:Value→List (List AV)→Prop}{m:Mark Q}{u:Value}(hl:ys'.length=ys.length)(hf:frsR (ab e ys')=true)
  (hc:ap P f (.ref 10000 0 0 ys.length::xs.map AV.lit) [(10000,0,.row true (ab e ys))] (.lit u) [(10000,0,.row true (ab e ys'))]) (hq:Q u (ab e ys')):ER P f (ab e ys) xs Q m:=
 ⟨u,ab e ys',by simpa using hl,hf,by simpa only [lw] using hc,hq⟩
attribute [go_sem] Ci HQ HU Jw Lk Jo GB List.take_length DK DL Jv eI eK eB eS eLS eLO Cj Lg Jp Lh Jq Li Jr Lj Js Jt HR Ju HS Jd KR KS KT Je KU Jf KV KW KX Jg Jh KY KZ La Ji Lb Jj Lc Ld Le Jk Lf HM Jl Jm HN Jn HP Ck HT
end Go.Proofs.Qb
