/- What a function computes,as a plain function that may fail: how a walk is led by it. Own work. -/
import Derived.Test.YtdhboohobflflaaGreatDoorXq30
set_option linter.all false
namespace Go.Proofs.Qq
def chk {α:Type}(c:Prop)[Decidable c](k:Option α):Option α:=if c then k else none
theorem du {α:Type}{c:Prop}[Decidable c]{k:Option α}{r:α}(h:chk c k=some r):c∧k=some r:=by
 unfold chk at h
 split at h
 ·exact⟨‹_›,h⟩
 cases h
theorem CK {α:Type}{c:Prop}[Decidable c](hc:c)(k:Option α):chk c k=k:=if_pos hc
def obnd {α β:Type}(o:Option α)(k:α→Option β):Option β:=match o with|some x=>k x|none=>none
theorem ae {α β:Type}{o:Option α}{k:α→Option β}{r:β}(h:obnd o k=some r):∃ x,o=some x∧k x=some r:=by
 cases o with
 | none=>cases h
 | some x=>exact⟨x,rfl,h⟩
theorem aO {α:Type}{c:Prop}[Decidable c]{A B:Option α}{r:α}(h:(if c then A else B)=some r):(c∧A=some r)∨(¬ c∧B=some r):=by
 by_cases hc:c
 ·rw[if_pos hc]at h;exact .inl ⟨hc,h⟩
 rw[if_neg hc]at h;exact .inr ⟨hc,h⟩
def getI {α:Type}(xs:List α)(n:Int):Option α:=if 0≤n then xs[n.toNat]? else none
theorem bC {α:Type}{xs:List α}{n:Int}{x:α}(h:getI xs n=some x):0≤n∧xs[n.toNat]?=some x∧n.toNat<xs.length:=by
 unfold getI at h
 split at h
 ·exact⟨‹_›,h,(List.getElem?_eq_some_iff.1 h).1⟩
 cases h
theorem aM {α:Type}{xs:List α}{k:Nat}{x:α}(h:getI xs (k:Int)=some x):xs[k]?=some x∧k<xs.length:=by
 obtain⟨_,h2,h3⟩:=bC h
 rw[Int.toNat_natCast]at h2 h3
 exact⟨h2,h3⟩
def getS (s:ByteArray)(n:Int):Option UInt8:=if 0≤n then s[n.toNat]? else none
theorem wu {s:ByteArray}{n:Int}{x:UInt8}(h:getS s n=some x):0≤n∧s[n.toNat]?=some x∧n.toNat<s.size:=by
 unfold getS at h
 split at h
 ·refine⟨‹_›,h,?_⟩
  rcases Nat.lt_or_ge n.toNat s.size with hlt|hge
  ·exact hlt
  rw[getElem?_neg s n.toNat (by simpa using hge)]at h;cases h
 cases h
theorem ik {s:ByteArray}{k:Nat}{x:UInt8}(h:getS s (k:Int)=some x):s[k]?=some x∧k<s.size:=by
 obtain⟨_,h2,h3⟩:=wu h
 rw[Int.toNat_natCast]at h2 h3
 exact⟨h2,h3⟩
def nilQ {α R:Type}[DecidableEq R](xs:List α)(A B:Option R):Option R:=match xs with
 | []=>if A=B then A else none
 | _::_=>B
theorem mQ {α R:Type}[DecidableEq R]{xs:List α}{A B:Option R}{r:R}(h:nilQ xs A B=some r):(xs=[]∧A=some r∧B=some r)∨(xs≠[]∧B=some r):=by
 cases xs with
 | nil=>
  unfold nilQ at h
  by_cases hAB:A=B
  ·rw[if_pos hAB]at h
   exact .inl ⟨rfl,h,by rw[← hAB];exact h⟩
  rw[if_neg hAB]at h;cases h
 | cons x xs=>exact .inr ⟨List.cons_ne_nil _ _,h⟩
theorem lF {α:Type}{e:α→List AV}{xs:List α}(h:xs≠[])(H:Hp):fa H (.sl (ab e xs))=some false:=by
 cases xs with
 | nil=>contradiction
 | cons x xs=>rfl
theorem yB (H:Hp):fa H (.lit (.slice none 0 0))=some true:=rfl
theorem xH (H:Hp)(r:List AV)(rs:List (List AV)):fa H (.sl (r::rs))=some false:=rfl
theorem wF (H:Hp):fa H (.sl [])=none:=rfl
theorem yC (H:Hp)(id ver i n:Nat):fa H (.ref id ver i n)=match hget H id with
 | some (v,_)=>if v=ver then (if 0<n then some false else none) else none
 | none=>none:=rfl
def KC (k:List AV):Prop:=(∀ H,trL [] H true k=some k)∧∀ ρ,renL ρ k=k
inductive Step (σ ρ:Type) where
 | next (s:σ)
 | done (r:ρ)
inductive Iter {σ ρ:Type} (body:σ→Option (Step σ ρ)):Nat→σ→ρ→Prop
 | done {s r}:body s=some (.done r)→Iter body 0 s r
 | next {n s s' r}:body s=some (.next s')→Iter body n s' r→Iter body (n+1) s r
def tQ {σ ρ:Type}(body:σ→Option (Step σ ρ))(n:Nat):σ→Option ρ:=Nat.rec (motive:=fun _=>σ→Option ρ) (fun _=>none) (fun _ ih s=>match body s with
 | some (.next s')=>ih s'
 | some (.done r)=>some r
 | none=>none) n
def aD {σ ρ:Type}(body:σ→Option (Step σ ρ))(s:σ):Option ρ:=tQ body 100000 s
theorem lG {σ ρ:Type}(body:σ→Option (Step σ ρ))(n:Nat)(s:σ):tQ body (n+1) s=(match body s with
 | some (.next s')=>tQ body n s'
 | some (.done r)=>some r
 | none=>none):=rfl
theorem zp {σ ρ:Type}{body:σ→Option (Step σ ρ)}{n:Nat}:∀ {s:σ} {r:ρ},tQ body n s=some r→∃ m,Iter body m s r:=by
 induction n with
 | zero=>intro s r h;cases h
 | succ n ih=>
  intro s r h
  rw[lG]at h
  split at h
  ·rename_i s' hs
   obtain⟨m,hm⟩:=ih h
   exact⟨_,.next hs hm⟩
  ·rename_i r' hs
   cases h
   exact⟨_,.done hs⟩
  cases h
def Goes {σ ρ:Type}(body:σ→Option (Step σ ρ))(r:ρ)(n:Nat):Step σ ρ→Prop
 | .next s'=>∃ m,m<n∧Iter body m s' r
 | .done r'=>r'=r
def CA {σ ρ:Type}(body:σ→Option (Step σ ρ))(r:ρ)(n:Nat)(S:σ→St)(st:St):Prop:=∃ m,m<n∧∃ s1,Iter body m s1 r∧st=S s1
theorem ak {σ ρ:Type}{A:St→(Exit→St→Prop)→Prop}{Q:Exit→St→Prop}{m1:Mark A}{m2:Mark Q}{st:St}(acts:List Ax)(S:σ→St){body:σ→Option (Step σ ρ)}{s0:σ}{r:ρ}
  (h:aD body s0=some r) (h0:fx acts (fun st1=>st1=S s0) st)
  (hb:∀ n s b,body s=some b→Goes body r n b→A (S s) (fun e st'=>match e with
   | .normal=>fx acts (CA body r n S) st'
   | e=>Q e st')):xi A Q m1 m2 st:=by
 obtain⟨n0,hn0⟩:=zp h
 refine⟨acts,fun n st1=>∃ s1,Iter body n s1 r∧st1=S s1,n0,?_,?_⟩
 ·unfold fx at h0 ⊢
  split at h0
  ·rename_i st' he
   exact⟨s0,hn0,h0⟩
  exact h0
 rintro n st1 ⟨s1,hi,rfl⟩
 cases hi with
 | done hd=>exact hb _ _ _ hd rfl
 | next hd hi=>exact hb _ _ _ hd ⟨_,Nat.lt_succ_self _,hi⟩
theorem cE {σ ρ:Type}{body:σ→Option (Step σ ρ)}{r:ρ}{n:Nat}{S:σ→St}{s':σ}{st:St}(hg:Goes body r n (.next s'))(hs:st=S s'):CA body r n S st:=by
 obtain⟨m,hm,hi⟩:=hg
 exact⟨m,hm,s',hi,hs⟩
theorem aI {σ ρ:Type}{body:σ→Option (Step σ ρ)}{r v:ρ}{n:Nat}(hg:Goes body r n (.done v)):r=v:=Eq.symm hg
section
variable {P:Program} {md:Nat→List AV→Md} {T:Nat→Ty} {nt:Nat} {hi:Hint}
def tR (P:Program)(md:Nat→List AV→Md)(T:Nat→Ty)(nt:Nat)(hi:Hint)(c:Code)(st:St)(Q:Exit→St→Prop):Prop:=bg P md T nt hi c st Q
def bd:Code→Option Nat
 | .region id _ _=>some id
 | .seq x _=>bd x
 | .block _ x=>bd x
 | _=>none
theorem mY {st st1:St}:∀ {c:Code} {id:Nat} {Q:Exit→St→Prop},bd c=some id→cO (hi.acts id) st=some st1→cO (hi.acts id) st1=some st1→bg P md T nt hi c st1 Q→bg P md T nt hi c st Q
 | .region id ops draw,id',Q,hf,h1,h2,h=>by
  simp only[bd,Option.some.injEq]at hf
  subst hf
  simp only[bg,iz,h1,h2]at h ⊢
  exact h
 | .seq x y,id,Q,hf,h1,h2,h=>by
  simp only[bd]at hf
  simp only[bg]at h ⊢
  exact mY hf h1 h2 h
 | .block i x,id,Q,hf,h1,h2,h=>by
  simp only[bd]at hf
  simp only[bg]at h ⊢
  exact mY hf h1 h2 h
 | .skip,_,_,hf,_,_,_=>by simp[bd]at hf
 | .cond ..,_,_,hf,_,_,_=>by simp[bd]at hf
 | .loop _,_,_,hf,_,_,_=>by simp[bd]at hf
 | .exit _,_,_,hf,_,_,_=>by simp[bd]at hf
 | .ret,_,_,hf,_,_,_=>by simp[bd]at hf
 | .scope _,_,_,hf,_,_,_=>by simp[bd]at hf
 | .rangeFunc ..,_,_,hf,_,_,_=>by simp[bd]at hf
 | .label _,_,_,hf,_,_,_=>by simp[bd]at hf
 | .goto _,_,_,hf,_,_,_=>by simp[bd]at hf
 | .refuse _,_,_,hf,_,_,_=>by simp[bd]at hf
theorem cut {V:Type}(J:V→St)(pre:V→Prop){x y:Code}{st:St}{Q:Exit→St→Prop}(hy:∀ v,pre v→bg P md T nt hi y (J v) Q)
 (hx:(∀ v,pre v→tR P md T nt hi y (J v) Q)→bg P md T nt hi x st (fun e st'=>match e with
  | .normal=>tR P md T nt hi y st' Q
  | e=>Q e st')):bg P md T nt hi (.seq x y) st Q:=hx hy
theorem join {V:Type}{J:V→St}{pre:V→Prop}{y:Code}{Q:Exit→St→Prop}(hJ:∀ v,pre v→tR P md T nt hi y (J v) Q){st:St}(id:Nat)(v:V)(hf:bd y=some id)(hv:pre v)
  (h1:cO (hi.acts id) st=some (J v)) (h2:cO (hi.acts id) (J v)=some (J v)):tR P md T nt hi y st Q:=
 mY hf h1 h2 (hJ v hv)
end
def zq {α β:Type}:Option α→(α→Option β)→Option β→Option β
 | some a,f,_=>f a
 | none,_,g=>g
theorem tS {α β:Type}{o:Option α}{f:α→Option β}{g:Option β}{r:β}(h:zq o f g=some r):(∃ a,o=some a∧f a=some r)∨(o=none∧g=some r):=by
 cases o with
 | none=>exact .inr ⟨rfl,h⟩
 | some a=>exact .inl ⟨a,rfl,h⟩
end Go.Proofs.Qq
