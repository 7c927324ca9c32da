/- How lists of plain things lie in rows. Own work. -/
import Derived.Test.YtghfphjfkdbpjaaGreatB32
set_option linter.all false
namespace Go.Proofs.QB
def eI (x:Int):List AV:=[.lit (.int .i64 x)]
def eK (k:IntKind)(x:Int):List AV:=[.lit (.int k x)]
def eB (x:Bool):List AV:=[.lit (.bool x)]
def eS (x:ByteArray):List AV:=[.lit (.string x)]
def eLS {α:Type}(e:α→List AV)(xs:List α):List AV:=[.sl (ae e xs)]
def eLO {α:Type}(e:α→List AV)(xs:List α):List AV:=[.own (ae e xs)]
section
variable {α:Type} {e:α→List AV}
theorem ze (x:α)(xs:List α):ae e (x::xs)=e x::ae e xs:=rfl
theorem nQ (xs:List α)(i:Nat)(x:α):(ae e xs).set i (e x)=ae e (xs.set i x):=HK xs i x
theorem iP {n:Nat}(h:∀ x,(e x).length=n)(xs:List α):(ae e xs).all (fun r=>r.length == n)=true:=by
 simp only [ae,List.all_map,List.all_eq_true]
 intro x _
 simp [h x]
theorem MQ (xs:List Int)(i:Nat)(v:Int):(ae eI xs).set i [.lit (.int .i64 v)]=ae eI (xs.set i v):=nQ xs i v
theorem MR (xs:List Int):(ae eI xs).all (fun r=>r.length == 1)=true:=iP (e:=eI) (fun _=>rfl) xs
theorem MS (xs:List Int):frsR (ae eI xs)=true:=ni (fun _=>rfl) xs
theorem Ln (xs:List Int):cT (ae eI xs)=ae eI xs:=mq (fun _=>rfl) xs
theorem MT (n:Nat)(v:Int):List.replicate n [AV.lit (.int .i64 v)]=ae eI (List.replicate n v):=jp (e:=eI) n v
theorem MU (xs:List Int):(ae (eK .u8) xs).all (fun r=>r.length == 1)=true:=iP (e:=eK .u8) (fun _=>rfl) xs
theorem MV (xs:List Bool):(ae eB xs).all (fun r=>r.length == 1)=true:=iP (e:=eB) (fun _=>rfl) xs
theorem MW (xs:List Bool):frsR (ae eB xs)=true:=ni (fun _=>rfl) xs
theorem Lo (xs:List (List α)):(ae (eLO e) xs).all (fun r=>r.length == 1)=true:=iP (e:=eLO e) (fun _=>rfl) xs
theorem Lp (h:∀ x,frsR (ae e x)=true)(xs:List (List α)):frsR (ae (eLO e) xs)=true:=ni (e:=eLO e) (fun x=>by simp only [eLO,frsC,frs,h x,Bool.and_self]) xs
theorem Kf (h:∀ x,cT (ae e x)=ae e x)(xs:List (List α)):cT (ae (eLO e) xs)=ae (eLS e) xs:=mq (e:=eLO e) (fun x=>by simp only [eLO,eLS,lN,toSl,h x]) xs
theorem Lq (xs:List (List α)):(ae (eLS e) xs).all (fun r=>r.length == 1)=true:=iP (e:=eLS e) (fun _=>rfl) xs
theorem Kg (xs:List (List α)):cT (ae (eLS e) xs)=ae (eLS e) xs:=mq (e:=eLS e) (fun x=>by simp only [eLS,lN,toSl]) xs
theorem Lr (xs:List (List α))(i:Nat)(v:List α):(ae (eLS e) xs).set i [.sl (ae e v)]=ae (eLS e) (xs.set i v):=nQ (e:=eLS e) xs i v
theorem EU (n:Nat):List.replicate n [AV.sl []]=ae (eLS eI) (List.replicate n []):=jp (e:=eLS eI) n []
theorem MX (v:Int):[[AV.lit (.int .i64 v)]]=ae eI [v]:=rfl
theorem Ls (v:Int)(xs:List (Int)):[AV.lit (.int .i64 v)]::ae eI xs=ae eI (v::xs):=rfl
theorem MY (v:Int):[[AV.lit (.int .u8 v)]]=ae (eK .u8) [v]:=rfl
theorem MZ (v:Bool):[[AV.lit (.bool v)]]=ae eB [v]:=rfl
theorem Na (v:ByteArray):[[AV.lit (.string v)]]=ae eS [v]:=rfl
theorem Lt (v:ByteArray)(xs:List (ByteArray)):[AV.lit (.string v)]::ae eS xs=ae eS (v::xs):=rfl
theorem IZ (r rs:List (List AV)):cT ([.sl r]::rs)=[.sl r]::cT rs:=rfl
theorem Lu (v:List α):[[AV.own (ae e v)]]=ae (eLO e) [v]:=rfl
theorem Kh (v:List α)(xs:List (List α)):[AV.sl (ae e v)]::ae (eLS e) xs=ae (eLS e) (v::xs):=rfl
theorem Lv (xs:List Int):qe (ae eI xs)=true:=by
 induction xs with
 | nil=>rfl
 | cons x xs ih=>simp only [ze,qe,eI,ih,Value.oneCell',Bool.and_self]
theorem Gw (xs ys:List α)(i:Nat):putL (ae e xs) i (ae e ys)=ae e (putL xs i ys):=by
 unfold putL
 rw [oG,oG]
 split
 ·simp [ae]
 ·rfl
def oH (k:ByteArray):List (ByteArray × Bool)→Option Bool
 | []=>none
 | p::r=>if k == p.1 then some p.2 else oH k r
def setB (k:ByteArray)(v:Bool):List (ByteArray × Bool)→List (ByteArray × Bool)
 | []=>[(k,v)]
 | p::r=>if k == p.1 then (k,v)::r else p::setB k v r
def eM (es:List (ByteArray × Bool)):List (ByteArray × Value):=es.map (fun p=>(p.1,Value.bool p.2))
theorem Nb:eM []=[]:=rfl
theorem Ki (k:ByteArray)(es:List (ByteArray × Bool)):oI k (eM es)=(oH k es).map Value.bool:=by
 induction es with
 | nil=>rfl
 | cons p es ih=>
  simp only [eM,List.map_cons,oI,oH] at ih ⊢
  split
  ·rfl
  ·exact ih
theorem Lw (k:ByteArray)(b:Bool)(es:List (ByteArray × Bool)):setE k (.bool b) (eM es)=eM (setB k b es):=by
 induction es with
 | nil=>rfl
 | cons p es ih=>
  simp only [eM,List.map_cons,setE,setB] at ih ⊢
  split
  ·simp
  ·simp [ih]
theorem EV (ns:List Int):gx (ae (eK .u8) ns)=some ns:=by
 induction ns with
 | nil=>rfl
 | cons n ns ih=>simp only [ze,eK,gx,ih]
end
theorem ww {P:Program}{f:Nat}{α:Type}{e:α→List AV}{ys ys':List α}{xs:List Value}{Q:Value→List (List AV)→Prop}{m:Mark Q}{u:Value}(hl:ys'.length=ys.length)(hf:frsR (ae e ys')=true)
  (hc:al P f (.ref 10000 0 0 ys.length::xs.map AV.lit) [(10000,0,.row true (ae e ys))] (.lit u) [(10000,0,.row true (ae e ys'))]) (hq:Q u (ae e ys')):HH P f (ae e ys) xs Q m:=
 ⟨u,ae e ys',by simpa using hl,hf,by simpa only [oG] using hc,hq⟩
attribute [go_sem] EU Kg Ki Lw Nb Lr IZ List.take_length Gw Gx Lv eI eK eB eS eLS eLO MX Ls MY MZ Na Lt Lu Kh MQ MR MS Ln MT MU MV MW Lo Lp Kf Lq EV
end Go.Proofs.QB
