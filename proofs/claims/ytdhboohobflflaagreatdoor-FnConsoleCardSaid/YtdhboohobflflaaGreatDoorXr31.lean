/- Rows of things of one kind. Own work. -/
import Derived.Test.YtdhboohobflflaaGreatDoorXr24
set_option linter.all false
namespace Go.Proofs.Qr
def ab {α:Type}(e:α→List AV)(xs:List α):List (List AV):=xs.map e
section
variable {α:Type} {e:α→List AV}
@[simp] theorem na (xs:List α):(ab e xs).length=xs.length:=by simp[ab]
@[simp] theorem Da (xs:List α)(i:Nat):(ab e xs)[i]?=xs[i]?.map e:=by simp[ab]
@[simp] theorem Cf (xs:List α)(n:Nat):(ab e xs).take n=ab e (xs.take n):=by simp[ab]
@[simp] theorem Cg (xs:List α)(n:Nat):(ab e xs).drop n=ab e (xs.drop n):=by simp[ab]
theorem Db (xs:List α)(i:Nat)(x:α):(ab e xs).set i (e x)=ab e (xs.set i x):=by simp[ab,List.map_set]
theorem zX (xs ys:List α):ab e xs++ab e ys=ab e (xs++ys):=by simp[ab]
theorem Dc:ab e []=[]:=rfl
theorem aJ (n:Nat)(x:α):List.replicate n (e x)=ab e (List.replicate n x):=by simp[ab]
theorem bd (h:∀ x,frsC (e x)=true)(xs:List α):frsR (ab e xs)=true:=by
 induction xs with
 | nil=>rfl
 | cons x xs ih=>
  simp only[ab,List.map_cons,frsR,Bool.and_eq_true]at ih ⊢
  exact⟨h x,ih⟩
theorem aU {f:α→List AV}(h:∀ x,bP (e x)=f x)(xs:List α):bc (ab e xs)=ab f xs:=by
 induction xs with
 | nil=>rfl
 | cons x xs ih=>
  simp only[ab,List.map_cons,bc]at ih ⊢
  rw[h x,ih]
def half (z:α)(xs:List α)(i:Nat):List α:=xs.take i++List.replicate (xs.length - i) z
@[simp] theorem LE (z:α)(xs:List α)(i:Nat)(h:i≤xs.length):(half z xs i).length=xs.length:=by simp[half];omega
def GT (e:α→List AV)(zr:List AV)(xs:List α)(i:Nat):List (List AV):=ab e (xs.take i)++List.replicate (xs.length - i) zr
@[simp] theorem Ja (zr:List AV)(xs:List α)(i:Nat):(GT e zr xs i).length=min i xs.length+(xs.length - i):=by simp[GT]
theorem Jb {n:Int}(h1:-9223372036854775808≤n)(h2:n<9223372036854775808):IntKind.wrap .i64 n=n:=by
 simp[IntKind.wrap,IntKind.bits,IntKind.signed];omega
def Jc:Nat→List AV→Md:=fun _ _=>⟨[],false⟩
end
def fnId:List AV→Nat
 | []=>0
 | a::r=>(match a with
  | .fn f _=>f
  | _=>fnId r)
end Go.Proofs.Qr
set_option linter.all false
namespace Go.Proofs.Qr
def chk {α:Type}(c:Prop)[Decidable c](k:Option α):Option α:=if c then k else none
theorem cN {α:Type}{c:Prop}[Decidable c]{k:Option α}{r:α}(h:chk c k=some r):c∧k=some r:=by
 unfold chk at h
 split at h
 ·exact⟨‹_›,h⟩
 cases h
theorem yK {α:Type}{c:Prop}[Decidable c](hc:c)(k:Option α):chk c k=k:=if_pos hc
def obnd {α β:Type}(o:Option α)(k:α→Option β):Option β:=match o with|some x=>k x|none=>none
theorem ae {α β:Type}{o:Option α}{k:α→Option β}{r:β}(h:obnd o k=some r):∃ x,o=some x∧k x=some r:=by
 cases o with
 | none=>cases h
 | some x=>exact⟨x,rfl,h⟩
theorem aN {α:Type}{c:Prop}[Decidable c]{A B:Option α}{r:α}(h:(if c then A else B)=some r):(c∧A=some r)∨(¬ c∧B=some r):=by
 by_cases hc:c
 ·rw[if_pos hc]at h;exact .inl ⟨hc,h⟩
 rw[if_neg hc]at h;exact .inr ⟨hc,h⟩
def getI {α:Type}(xs:List α)(n:Int):Option α:=if 0≤n then xs[n.toNat]? else none
theorem bz {α:Type}{xs:List α}{n:Int}{x:α}(h:getI xs n=some x):0≤n∧xs[n.toNat]?=some x∧n.toNat<xs.length:=by
 unfold getI at h
 split at h
 ·exact⟨‹_›,h,(List.getElem?_eq_some_iff.1 h).1⟩
 cases h
theorem aR {α:Type}{xs:List α}{k:Nat}{x:α}(h:getI xs (k:Int)=some x):xs[k]?=some x∧k<xs.length:=by
 obtain⟨_,h2,h3⟩:=bz h
 rw[Int.toNat_natCast]at h2 h3
 exact⟨h2,h3⟩
def getS (s:ByteArray)(n:Int):Option UInt8:=if 0≤n then s[n.toNat]? else none
theorem zK {s:ByteArray}{n:Int}{x:UInt8}(h:getS s n=some x):0≤n∧s[n.toNat]?=some x∧n.toNat<s.size:=by
 unfold getS at h
 split at h
 ·refine⟨‹_›,h,?_⟩
  rcases Nat.lt_or_ge n.toNat s.size with hlt|hge
  ·exact hlt
  rw[getElem?_neg s n.toNat (by simpa using hge)]at h;cases h
 cases h
theorem kg {s:ByteArray}{k:Nat}{x:UInt8}(h:getS s (k:Int)=some x):s[k]?=some x∧k<s.size:=by
 obtain⟨_,h2,h3⟩:=zK h
 rw[Int.toNat_natCast]at h2 h3
 exact⟨h2,h3⟩
def nilQ {α R:Type}[DecidableEq R](xs:List α)(A B:Option R):Option R:=match xs with
 | []=>if A=B then A else none
 | _::_=>B
theorem pQ {α R:Type}[DecidableEq R]{xs:List α}{A B:Option R}{r:R}(h:nilQ xs A B=some r):(xs=[]∧A=some r∧B=some r)∨(xs≠[]∧B=some r):=by
 cases xs with
 | nil=>
  unfold nilQ at h
  by_cases hAB:A=B
  ·rw[if_pos hAB]at h
   exact .inl ⟨rfl,h,by rw[← hAB];exact h⟩
  rw[if_neg hAB]at h;cases h
 | cons x xs=>exact .inr ⟨List.cons_ne_nil _ _,h⟩
theorem oB {α:Type}{e:α→List AV}{xs:List α}(h:xs≠[])(H:Hp):gN H (.sl (ab e xs))=some false:=by
 cases xs with
 | nil=>contradiction
 | cons x xs=>rfl
theorem Ch (H:Hp):gN H (.lit (.slice none 0 0))=some true:=rfl
theorem Bi (H:Hp)(r:List AV)(rs:List (List AV)):gN H (.sl (r::rs))=some false:=rfl
theorem zY (H:Hp):gN H (.sl [])=none:=rfl
theorem Ci (H:Hp)(id ver i n:Nat):gN H (.ref id ver i n)=match hget H id with
 | some (v,_)=>if v=ver then (if 0<n then some false else none) else none
 | none=>none:=rfl
def KC (k:List AV):Prop:=(∀ H,trL [] H true k=some k)∧∀ ρ,renL ρ k=k
inductive Step (σ ρ:Type) where
 | next (s:σ)
 | done (r:ρ)
inductive Iter {σ ρ:Type} (body:σ→Option (Step σ ρ)):Nat→σ→ρ→Prop
 | done {s r}:body s=some (.done r)→Iter body 0 s r
 | next {n s s' r}:body s=some (.next s')→Iter body n s' r→Iter body (n+1) s r
def tR {σ ρ:Type}(body:σ→Option (Step σ ρ))(n:Nat):σ→Option ρ:=Nat.rec (motive:=fun _=>σ→Option ρ) (fun _=>none) (fun _ ih s=>match body s with
 | some (.next s')=>ih s'
 | some (.done r)=>some r
 | none=>none) n
def aw {σ ρ:Type}(body:σ→Option (Step σ ρ))(s:σ):Option ρ:=tR body 100000 s
theorem iU {σ ρ:Type}(body:σ→Option (Step σ ρ))(n:Nat)(s:σ):tR body (n+1) s=(match body s with
 | some (.next s')=>tR body n s'
 | some (.done r)=>some r
 | none=>none):=rfl
theorem Dd {σ ρ:Type}{body:σ→Option (Step σ ρ)}{n:Nat}:∀ {s:σ} {r:ρ},tR body n s=some r→∃ m,Iter body m s r:=by
 induction n with
 | zero=>intro s r h;cases h
 | succ n ih=>
  intro s r h
  rw[iU]at h
  split at h
  ·rename_i s' hs
   obtain⟨m,hm⟩:=ih h
   exact⟨_,.next hs hm⟩
  ·rename_i r' hs
   cases h
   exact⟨_,.done hs⟩
  cases h
def Goes {σ ρ:Type}(body:σ→Option (Step σ ρ))(r:ρ)(n:Nat):Step σ ρ→Prop
 | .next s'=>∃ m,m<n∧Iter body m s' r
 | .done r'=>r'=r
def GU {σ ρ:Type}(body:σ→Option (Step σ ρ))(r:ρ)(n:Nat)(S:σ→St)(st:St):Prop:=∃ m,m<n∧∃ s1,Iter body m s1 r∧st=S s1
theorem aj {σ ρ:Type}{A:St→(Exit→St→Prop)→Prop}{Q:Exit→St→Prop}{m1:Mark A}{m2:Mark Q}{st:St}(acts:List Ax)(S:σ→St){body:σ→Option (Step σ ρ)}{s0:σ}{r:ρ}
  (h:aw body s0=some r) (h0:hN acts (fun st1=>st1=S s0) st)
  (hb:∀ n s b,body s=some b→Goes body r n b→A (S s) (fun e st'=>match e with
   | .normal=>hN acts (GU body r n S) st'
   | e=>Q e st')):AE A Q m1 m2 st:=by
 obtain⟨n0,hn0⟩:=Dd h
 refine⟨acts,fun n st1=>∃ s1,Iter body n s1 r∧st1=S s1,n0,?_,?_⟩
 ·unfold hN at h0 ⊢
  split at h0
  ·rename_i st' he
   exact⟨s0,hn0,h0⟩
  exact h0
 rintro n st1 ⟨s1,hi,rfl⟩
 cases hi with
 | done hd=>exact hb _ _ _ hd rfl
 | next hd hi=>exact hb _ _ _ hd ⟨_,Nat.lt_succ_self _,hi⟩
theorem cy {σ ρ:Type}{body:σ→Option (Step σ ρ)}{r:ρ}{n:Nat}{S:σ→St}{s':σ}{st:St}(hg:Goes body r n (.next s'))(hs:st=S s'):GU body r n S st:=by
 obtain⟨m,hm,hi⟩:=hg
 exact⟨m,hm,s',hi,hs⟩
theorem aG {σ ρ:Type}{body:σ→Option (Step σ ρ)}{r v:ρ}{n:Nat}(hg:Goes body r n (.done v)):r=v:=Eq.symm hg
section
variable {P:Program} {md:Nat→List AV→Md} {T:Nat→Ty} {nt:Nat} {hi:Hint}
def xd (P:Program)(md:Nat→List AV→Md)(T:Nat→Ty)(nt:Nat)(hi:Hint)(c:Code)(st:St)(Q:Exit→St→Prop):Prop:=bp P md T nt hi c st Q
def bk:Code→Option Nat
 | .region id _ _=>some id
 | .seq x _=>bk x
 | .block _ x=>bk x
 | _=>none
theorem pY {st st1:St}:∀ {c:Code} {id:Nat} {Q:Exit→St→Prop},bk c=some id→dM (hi.acts id) st=some st1→dM (hi.acts id) st1=some st1→bp P md T nt hi c st1 Q→bp P md T nt hi c st Q
 | .region id ops draw,id',Q,hf,h1,h2,h=>by
  simp only[bk,Option.some.injEq]at hf
  subst hf
  simp only[bp,ky,h1,h2]at h ⊢
  exact h
 | .seq x y,id,Q,hf,h1,h2,h=>by
  simp only[bk]at hf
  simp only[bp]at h ⊢
  exact pY hf h1 h2 h
 | .block i x,id,Q,hf,h1,h2,h=>by
  simp only[bk]at hf
  simp only[bp]at h ⊢
  exact pY hf h1 h2 h
 | .skip,_,_,hf,_,_,_=>by simp[bk]at hf
 | .cond ..,_,_,hf,_,_,_=>by simp[bk]at hf
 | .loop _,_,_,hf,_,_,_=>by simp[bk]at hf
 | .exit _,_,_,hf,_,_,_=>by simp[bk]at hf
 | .ret,_,_,hf,_,_,_=>by simp[bk]at hf
 | .scope _,_,_,hf,_,_,_=>by simp[bk]at hf
 | .rangeFunc ..,_,_,hf,_,_,_=>by simp[bk]at hf
 | .label _,_,_,hf,_,_,_=>by simp[bk]at hf
 | .goto _,_,_,hf,_,_,_=>by simp[bk]at hf
 | .refuse _,_,_,hf,_,_,_=>by simp[bk]at hf
theorem cut {V:Type}(J:V→St)(pre:V→Prop){x y:Code}{st:St}{Q:Exit→St→Prop}(hy:∀ v,pre v→bp P md T nt hi y (J v) Q)
 (hx:(∀ v,pre v→xd P md T nt hi y (J v) Q)→bp P md T nt hi x st (fun e st'=>match e with
  | .normal=>xd P md T nt hi y st' Q
  | e=>Q e st')):bp P md T nt hi (.seq x y) st Q:=hx hy
theorem join {V:Type}{J:V→St}{pre:V→Prop}{y:Code}{Q:Exit→St→Prop}(hJ:∀ v,pre v→xd P md T nt hi y (J v) Q){st:St}(id:Nat)(v:V)(hf:bk y=some id)(hv:pre v)
  (h1:dM (hi.acts id) st=some (J v)) (h2:dM (hi.acts id) (J v)=some (J v)):xd P md T nt hi y st Q:=
 pY hf h1 h2 (hJ v hv)
end
def De {α β:Type}:Option α→(α→Option β)→Option β→Option β
 | some a,f,_=>f a
 | none,_,g=>g
theorem xe {α β:Type}{o:Option α}{f:α→Option β}{g:Option β}{r:β}(h:De o f g=some r):(∃ a,o=some a∧f a=some r)∨(o=none∧g=some r):=by
 cases o with
 | none=>exact .inr ⟨rfl,h⟩
 | some a=>exact .inl ⟨a,rfl,h⟩
end Go.Proofs.Qr
