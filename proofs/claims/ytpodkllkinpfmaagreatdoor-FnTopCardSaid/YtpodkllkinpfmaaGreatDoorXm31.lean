/- What a function computes,as a plain function that may fail: how a walk is led by it. Own work. -/
import Derived.Test.YtpodkllkinpfmaaGreatDoorXm30
set_option linter.all false
namespace Go.Proofs.Qm
def chk {α:Type}(c:Prop)[Decidable c](k:Option α):Option α:=if c then k else none
theorem iK {α:Type}{c:Prop}[Decidable c]{k:Option α}{r:α}(h:chk c k=some r):c∧k=some r:=by
 unfold chk at h
 split at h
 ·exact⟨‹_›,h⟩
 cases h
theorem aF {α:Type}{c:Prop}[Decidable c](hc:c)(k:Option α):chk c k=k:=if_pos hc
def obnd {α β:Type}(o:Option α)(k:α→Option β):Option β:=match o with|some x=>k x|none=>none
theorem af {α β:Type}{o:Option α}{k:α→Option β}{r:β}(h:obnd o k=some r):∃ x,o=some x∧k x=some r:=by
 cases o with
 | none=>cases h
 | some x=>exact⟨x,rfl,h⟩
theorem bl {α:Type}{c:Prop}[Decidable c]{A B:Option α}{r:α}(h:(if c then A else B)=some r):(c∧A=some r)∨(¬ c∧B=some r):=by
 by_cases hc:c
 ·rw[if_pos hc]at h;exact .inl ⟨hc,h⟩
 rw[if_neg hc]at h;exact .inr ⟨hc,h⟩
def getI {α:Type}(xs:List α)(n:Int):Option α:=if 0≤n then xs[n.toNat]? else none
theorem eU {α:Type}{xs:List α}{n:Int}{x:α}(h:getI xs n=some x):0≤n∧xs[n.toNat]?=some x∧n.toNat<xs.length:=by
 unfold getI at h
 split at h
 ·exact⟨‹_›,h,(List.getElem?_eq_some_iff.1 h).1⟩
 cases h
theorem bD {α:Type}{xs:List α}{k:Nat}{x:α}(h:getI xs (k:Int)=some x):xs[k]?=some x∧k<xs.length:=by
 obtain⟨_,h2,h3⟩:=eU h
 rw[Int.toNat_natCast]at h2 h3
 exact⟨h2,h3⟩
def getS (s:ByteArray)(n:Int):Option UInt8:=if 0≤n then s[n.toNat]? else none
theorem Qb {s:ByteArray}{n:Int}{x:UInt8}(h:getS s n=some x):0≤n∧s[n.toNat]?=some x∧n.toNat<s.size:=by
 unfold getS at h
 split at h
 ·refine⟨‹_›,h,?_⟩
  rcases Nat.lt_or_ge n.toNat s.size with hlt|hge
  ·exact hlt
  rw[getElem?_neg s n.toNat (by simpa using hge)]at h;cases h
 cases h
open Classical in
noncomputable def nilQ {α R:Type}(xs:List α)(A B:Option R):Option R:=if xs=[] then (if A=B then A else none) else B
theorem HS {α R:Type}{xs:List α}{A B:Option R}{r:R}(h:nilQ xs A B=some r):(xs=[]∧A=some r∧B=some r)∨(xs≠[]∧B=some r):=by
 unfold nilQ at h
 split at h
 ·split at h
  ·rename_i h1 h2
   exact .inl ⟨h1,h,by rw[← h2];exact h⟩
  cases h
 exact .inr ⟨‹_›,h⟩
theorem Ef {α:Type}{e:α→List AV}{xs:List α}(h:xs≠[])(H:Hp):nM H (.sl (ab e xs))=some false:=by
 cases xs with
 | nil=>contradiction
 | cons x xs=>rfl
theorem MA (H:Hp):nM H (.lit (.slice none 0 0))=some true:=rfl
theorem Kz (H:Hp)(r:List AV)(rs:List (List AV)):nM H (.sl (r::rs))=some false:=rfl
theorem IB (H:Hp):nM H (.sl [])=none:=rfl
theorem MB (H:Hp)(id ver i n:Nat):nM H (.ref id ver i n)=match hget H id with
 | some (v,_)=>if v=ver then (if 0<n then some false else none) else none
 | none=>none:=rfl
def KC (k:List AV):Prop:=(∀ H,trL [] H true k=some k)∧∀ ρ,renL ρ k=k
inductive Step (σ ρ:Type) where
 | next (s:σ)
 | done (r:ρ)
inductive Iter {σ ρ:Type} (body:σ→Option (Step σ ρ)):Nat→σ→ρ→Prop
 | done {s r}:body s=some (.done r)→Iter body 0 s r
 | next {n s s' r}:body s=some (.next s')→Iter body n s' r→Iter body (n+1) s r
open Classical in
noncomputable def ak {σ ρ:Type}(body:σ→Option (Step σ ρ))(s:σ):Option ρ:=
 if h:∃ r n,Iter body n s r then some h.choose else none
theorem Iter.det {σ ρ:Type}{body:σ→Option (Step σ ρ)}{n m:Nat}{s:σ}{r t:ρ}(h:Iter body n s r)(g:Iter body m s t):r=t:=by
 induction h generalizing m with
 | done h=>cases g with
  | done g=>rw[h]at g;cases g;rfl
  | next g _=>rw[h]at g;cases g
 | next h _ ih=>cases g with
  | done g=>rw[h]at g;cases g
  | next g g2=>rw[h]at g;cases g;exact ih g2
theorem mT {σ ρ:Type}{body:σ→Option (Step σ ρ)}{s:σ}{r:ρ}:ak body s=some r↔∃ n,Iter body n s r:=by
 unfold ak
 constructor
 ·intro h
  split at h
  ·rename_i hx
   cases h
   exact hx.choose_spec
  cases h
 intro⟨n,h⟩
 have hx:∃ r n,Iter body n s r:=⟨r,n,h⟩
 rw[dif_pos hx]
 obtain⟨m,hm⟩:=hx.choose_spec
 rw[hm.det h]
theorem bc {σ ρ:Type}(body:σ→Option (Step σ ρ))(s:σ):ak body s=(match body s with
  | some (.next s')=>ak body s'
  | some (.done r)=>some r
  | none=>none):=by
 apply Option.ext
 intro r
 rw[mT]
 constructor
 ·rintro⟨n,h⟩
  cases h with
  | done h=>rw[h]
  | next h g=>rw[h];exact mT.2 ⟨_,g⟩
 intro h
 split at h
 ·rename_i s' hs
  obtain⟨n,g⟩:=mT.1 h
  exact⟨_,.next hs g⟩
 ·rename_i r' hs
  cases h
  exact⟨_,.done hs⟩
 cases h
def Goes {σ ρ:Type}(body:σ→Option (Step σ ρ))(r:ρ)(n:Nat):Step σ ρ→Prop
 | .next s'=>∃ m,m<n∧Iter body m s' r
 | .done r'=>r'=r
def TH {σ ρ:Type}(body:σ→Option (Step σ ρ))(r:ρ)(n:Nat)(S:σ→St)(st:St):Prop:=∃ m,m<n∧∃ s1,Iter body m s1 r∧st=S s1
theorem ai {σ ρ:Type}{A:St→(Exit→St→Prop)→Prop}{Q:Exit→St→Prop}{m1:Mark A}{m2:Mark Q}{st:St}(acts:List Ax)(S:σ→St){body:σ→Option (Step σ ρ)}{s0:σ}{r:ρ}
  (h:ak body s0=some r) (h0:nT acts (fun st1=>st1=S s0) st)
  (hb:∀ n s b,body s=some b→Goes body r n b→A (S s) (fun e st'=>match e with
   | .normal=>nT acts (TH body r n S) st'
   | e=>Q e st')):Jk A Q m1 m2 st:=by
 obtain⟨n0,hn0⟩:=mT.1 h
 refine⟨acts,fun n st1=>∃ s1,Iter body n s1 r∧st1=S s1,n0,?_,?_⟩
 ·unfold nT at h0 ⊢
  split at h0
  ·rename_i st' he
   exact⟨s0,hn0,h0⟩
  exact h0
 rintro n st1 ⟨s1,hi,rfl⟩
 cases hi with
 | done hd=>exact hb _ _ _ hd rfl
 | next hd hi=>exact hb _ _ _ hd ⟨_,Nat.lt_succ_self _,hi⟩
theorem iL {σ ρ:Type}{body:σ→Option (Step σ ρ)}{r:ρ}{n:Nat}{S:σ→St}{s':σ}{st:St}(hg:Goes body r n (.next s'))(hs:st=S s'):TH body r n S st:=by
 obtain⟨m,hm,hi⟩:=hg
 exact⟨m,hm,s',hi,hs⟩
theorem aJ {σ ρ:Type}{body:σ→Option (Step σ ρ)}{r v:ρ}{n:Nat}(hg:Goes body r n (.done v)):r=v:=Eq.symm hg
section
variable {P:Program} {md:Nat→List AV→Md} {T:Nat→Ty} {nt:Nat} {hi:Hint}
def Eg (P:Program)(md:Nat→List AV→Md)(T:Nat→Ty)(nt:Nat)(hi:Hint)(c:Code)(st:St)(Q:Exit→St→Prop):Prop:=cQ P md T nt hi c st Q
def cq:Code→Option Nat
 | .region id _ _=>some id
 | .seq x _=>cq x
 | .block _ x=>cq x
 | _=>none
theorem uw {st st1:St}:∀ {c:Code} {id:Nat} {Q:Exit→St→Prop},cq c=some id→je (hi.acts id) st=some st1→je (hi.acts id) st1=some st1→cQ P md T nt hi c st1 Q→cQ P md T nt hi c st Q
 | .region id ops draw,id',Q,hf,h1,h2,h=>by
  simp only[cq,Option.some.injEq]at hf
  subst hf
  simp only[cQ,pQ,h1,h2]at h ⊢
  exact h
 | .seq x y,id,Q,hf,h1,h2,h=>by
  simp only[cq]at hf
  simp only[cQ]at h ⊢
  exact uw hf h1 h2 h
 | .block i x,id,Q,hf,h1,h2,h=>by
  simp only[cq]at hf
  simp only[cQ]at h ⊢
  exact uw hf h1 h2 h
 | .skip,_,_,hf,_,_,_=>by simp[cq]at hf
 | .cond ..,_,_,hf,_,_,_=>by simp[cq]at hf
 | .loop _,_,_,hf,_,_,_=>by simp[cq]at hf
 | .exit _,_,_,hf,_,_,_=>by simp[cq]at hf
 | .ret,_,_,hf,_,_,_=>by simp[cq]at hf
 | .scope _,_,_,hf,_,_,_=>by simp[cq]at hf
 | .rangeFunc ..,_,_,hf,_,_,_=>by simp[cq]at hf
 | .label _,_,_,hf,_,_,_=>by simp[cq]at hf
 | .goto _,_,_,hf,_,_,_=>by simp[cq]at hf
 | .refuse _,_,_,hf,_,_,_=>by simp[cq]at hf
theorem cut {V:Type}(J:V→St)(pre:V→Prop){x y:Code}{st:St}{Q:Exit→St→Prop}(hy:∀ v,pre v→cQ P md T nt hi y (J v) Q)
 (hx:(∀ v,pre v→Eg P md T nt hi y (J v) Q)→cQ P md T nt hi x st (fun e st'=>match e with
  | .normal=>Eg P md T nt hi y st' Q
  | e=>Q e st')):cQ P md T nt hi (.seq x y) st Q:=hx hy
theorem join {V:Type}{J:V→St}{pre:V→Prop}{y:Code}{Q:Exit→St→Prop}(hJ:∀ v,pre v→Eg P md T nt hi y (J v) Q){st:St}(id:Nat)(v:V)(hf:cq y=some id)(hv:pre v)
  (h1:je (hi.acts id) st=some (J v)) (h2:je (hi.acts id) (J v)=some (J v)):Eg P md T nt hi y st Q:=
 uw hf h1 h2 (hJ v hv)
end
def Jm {α β:Type}:Option α→(α→Option β)→Option β→Option β
 | some a,f,_=>f a
 | none,_,g=>g
theorem Eh {α β:Type}{o:Option α}{f:α→Option β}{g:Option β}{r:β}(h:Jm o f g=some r):(∃ a,o=some a∧f a=some r)∨(o=none∧g=some r):=by
 cases o with
 | none=>exact .inr ⟨rfl,h⟩
 | some a=>exact .inl ⟨a,rfl,h⟩
end Go.Proofs.Qm
