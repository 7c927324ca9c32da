/- How lists of plain things lie in rows. Own work. -/
import Derived.Test.YtghfphjfkdbpjaaGreatW32
set_option linter.all false
namespace Go.Proofs.QW
def eI (x:Int):List AV:=[.lit (.int .i64 x)]
def eK (k:IntKind)(x:Int):List AV:=[.lit (.int k x)]
def eB (x:Bool):List AV:=[.lit (.bool x)]
def eLS {α:Type}(e:α→List AV)(xs:List α):List AV:=[.sl (ae e xs)]
def eLO {α:Type}(e:α→List AV)(xs:List α):List AV:=[.own (ae e xs)]
section
variable {α:Type} {e:α→List AV}
theorem yZ (x:α)(xs:List α):ae e (x::xs)=e x::ae e xs:=rfl
theorem oY (xs:List α)(i:Nat)(x:α):(ae e xs).set i (e x)=ae e (xs.set i x):=HZ xs i x
theorem jk {n:Nat}(h:∀ x,(e x).length=n)(xs:List α):(ae e xs).all (fun r=>r.length == n)=true:=by
 simp only [ae,List.all_map,List.all_eq_true]
 intro x _
 simp [h x]
theorem Ni (xs:List Int)(i:Nat)(v:Int):(ae eI xs).set i [.lit (.int .i64 v)]=ae eI (xs.set i v):=oY xs i v
theorem Nj (xs:List Int):(ae eI xs).all (fun r=>r.length == 1)=true:=jk (e:=eI) (fun _=>rfl) xs
theorem Nk (xs:List Int):frsR (ae eI xs)=true:=oh (fun _=>rfl) xs
theorem LL (xs:List Int):cX (ae eI xs)=ae eI xs:=nn (fun _=>rfl) xs
theorem Nl (n:Nat)(v:Int):List.replicate n [AV.lit (.int .i64 v)]=ae eI (List.replicate n v):=jE (e:=eI) n v
theorem Nm (xs:List Int):(ae (eK .u8) xs).all (fun r=>r.length == 1)=true:=jk (e:=eK .u8) (fun _=>rfl) xs
theorem Nn (xs:List Bool):(ae eB xs).all (fun r=>r.length == 1)=true:=jk (e:=eB) (fun _=>rfl) xs
theorem No (xs:List Bool):frsR (ae eB xs)=true:=oh (fun _=>rfl) xs
theorem LM (xs:List (List α)):(ae (eLO e) xs).all (fun r=>r.length == 1)=true:=jk (e:=eLO e) (fun _=>rfl) xs
theorem LN (h:∀ x,frsR (ae e x)=true)(xs:List (List α)):frsR (ae (eLO e) xs)=true:=oh (e:=eLO e) (fun x=>by simp only [eLO,frsC,frs,h x,Bool.and_self]) xs
theorem KE (h:∀ x,cX (ae e x)=ae e x)(xs:List (List α)):cX (ae (eLO e) xs)=ae (eLS e) xs:=nn (e:=eLO e) (fun x=>by simp only [eLO,eLS,mz,toSl,h x]) xs
theorem LO (xs:List (List α)):(ae (eLS e) xs).all (fun r=>r.length == 1)=true:=jk (e:=eLS e) (fun _=>rfl) xs
theorem KF (xs:List (List α)):cX (ae (eLS e) xs)=ae (eLS e) xs:=nn (e:=eLS e) (fun x=>by simp only [eLS,mz,toSl]) xs
theorem LP (xs:List (List α))(i:Nat)(v:List α):(ae (eLS e) xs).set i [.sl (ae e v)]=ae (eLS e) (xs.set i v):=oY (e:=eLS e) xs i v
theorem ET (n:Nat):List.replicate n [AV.sl []]=ae (eLS eI) (List.replicate n []):=jE (e:=eLS eI) n []
theorem Np (v:Int):[[AV.lit (.int .i64 v)]]=ae eI [v]:=rfl
theorem Nq (v:Int):[[AV.lit (.int .u8 v)]]=ae (eK .u8) [v]:=rfl
theorem Nr (v:Bool):[[AV.lit (.bool v)]]=ae eB [v]:=rfl
theorem Jy (r rs:List (List AV)):cX ([.sl r]::rs)=[.sl r]::cX rs:=rfl
theorem LQ (v:List α):[[AV.own (ae e v)]]=ae (eLO e) [v]:=rfl
theorem KG (v:List α)(xs:List (List α)):[AV.sl (ae e v)]::ae (eLS e) xs=ae (eLS e) (v::xs):=rfl
theorem LR (xs:List Int):qX (ae eI xs)=true:=by
 induction xs with
 | nil=>rfl
 | cons x xs ih=>simp only [yZ,qX,eI,ih,Value.oneCell',Bool.and_self]
theorem GB (xs ys:List α)(i:Nat):putL (ae e xs) i (ae e ys)=ae e (putL xs i ys):=by
 unfold putL
 rw [pL,pL]
 split
 ·simp [ae]
 ·rfl
def pM (k:ByteArray):List (ByteArray × Bool)→Option Bool
 | []=>none
 | p::r=>if k == p.1 then some p.2 else pM k r
def setB (k:ByteArray)(v:Bool):List (ByteArray × Bool)→List (ByteArray × Bool)
 | []=>[(k,v)]
 | p::r=>if k == p.1 then (k,v)::r else p::setB k v r
def eM (es:List (ByteArray × Bool)):List (ByteArray × Value):=es.map (fun p=>(p.1,Value.bool p.2))
theorem Ns:eM []=[]:=rfl
theorem KH (k:ByteArray)(es:List (ByteArray × Bool)):pN k (eM es)=(pM k es).map Value.bool:=by
 induction es with
 | nil=>rfl
 | cons p es ih=>
  simp only [eM,List.map_cons,pN,pM] at ih ⊢
  split
  ·rfl
  ·exact ih
theorem LS (k:ByteArray)(b:Bool)(es:List (ByteArray × Bool)):setE k (.bool b) (eM es)=eM (setB k b es):=by
 induction es with
 | nil=>rfl
 | cons p es ih=>
  simp only [eM,List.map_cons,setE,setB] at ih ⊢
  split
  ·simp
  ·simp [ih]
theorem EU (ns:List Int):gz (ae (eK .u8) ns)=some ns:=by
 induction ns with
 | nil=>rfl
 | cons n ns ih=>simp only [yZ,eK,gz,ih]
end
theorem wk {P:Program}{f:Nat}{α:Type}{e:α→List AV}{ys ys':List α}{xs:List Value}{Q:Value→List (List AV)→Prop}{m:Mark Q}{u:Value}(hl:ys'.length=ys.length)(hf:frsR (ae e ys')=true)
  (hc:ap P f (.ref 10000 0 0 ys.length::xs.map AV.lit) [(10000,0,.row true (ae e ys))] (.lit u) [(10000,0,.row true (ae e ys'))]) (hq:Q u (ae e ys')):HW P f (ae e ys) xs Q m:=
 ⟨u,ae e ys',by simpa using hl,hf,by simpa only [pL] using hc,hq⟩
attribute [go_sem] ET KF KH LS Ns LP Jy List.take_length GB za LR eI eK eB eLS eLO Np Nq Nr LQ KG Ni Nj Nk LL Nl Nm Nn No LM LN KE LO EU
end Go.Proofs.QW
