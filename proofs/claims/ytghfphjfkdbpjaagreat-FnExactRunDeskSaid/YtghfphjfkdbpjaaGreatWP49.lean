/- The reference's game reckons winning too. Own work. -/
import Derived.Test.YtghfphjfkdbpjaaGreatWP33
set_option linter.all false
set_option maxRecDepth 100000
namespace Go.Proofs.QW
open Go
abbrev RecS:=GShow→GState→Option Bool
def xU (s:GShow)(t:Int)(rec:RecS):Prop:=∀ x,aF s x=true→x.now=t→rec s x=some (win s x)
theorem xV {s:GShow}(hs:aQ s){rec:RecS}{y:GState}(hr:xU s (y.now+1) rec)(h:MomR s y){nodes:List Int}(hn:nodes∈decL s y):gO rec s y nodes=some (bD (win s) s y nodes):=by
 obtain ⟨ha,hl7,hm⟩:=dh h.right hn
 have hv:=(aW h.val).1
 have h7:=h.right.nodes
 have hln:=h.len
 have hnow:=h.now
 have hh:=h.right.hor
 have hp:∀ p,p∈aA s nodes→1≤p∧p≤3:=fun p hp=>⟨(bE hp).1,(bE hp).2.1⟩
 have hl3:=nZ s nodes
 have ho:=FK (ps:=aA s nodes) (by omega)
 unfold gO
 rw [uw hs h hl7 hm]
 simp only [obnd]
 rw [xl (xS s nodes) hp hl3]
 simp only
 have key:=gU (body:=iZ rec (((obsL (aA s nodes)).length:Nat):Int) s.nodes s.ties s.horizon (decX y nodes).now (decX y nodes).times (decX y nodes).values (aA s nodes) (obsL (aA s nodes)))
  (obsL (aA s nodes)) (fun vs=>win s (obsX (decX y nodes) (aA s nodes) vs)) (fun i=>(i:Int)) (rT:=.inl ()) (rF:=.inr false) ?_ ?_ ?_
 ·rw [show ((0:Nat):Int)=0 from rfl] at key
  rw [key]
  unfold bD
  cases (obsL (aA s nodes)).all (fun vs=>win s (obsX (decX y nodes) (aA s nodes) vs)) <;> rfl
 all_goals first
  | (
   intro i hi hq
   obtain ⟨h1,h2⟩:=tK (List.getElem_mem hi)
   have hob:=vU h hm h1 h2
   have e:=hr _ hob rfl
   unfold iZ
   try simp only
   rw [if_pos (by omega),au hi]
   simp only [obnd]
   rw [show (GState.mk (decX y nodes).now (decX y nodes).times (decX y nodes).values)=decX y nodes from rfl,(np (decX y nodes) (aA s nodes) _ (by show 0≤y.now∧y.now≤1000;omega) (by show (bb _ _ _ _).length≤_;rw [bZ];omega) hv hp h1 (by omega)).2]
   simp only
   rw [show (GShow.mk s.nodes s.ties s.horizon)=s from rfl,e,hq]
   first | rfl | (simp only [if_true];rw [wr (by omega) (by omega)];rfl))
  | (
   unfold iZ
   try simp only
   rw [if_neg (by omega)])
theorem Lc {s:GShow}(hs:aQ s){rec:RecS}{y:GState}(hr:xU s (y.now+1) rec)(h:MomR s y):kL rec s y=some (anyB (win s) s y):=by
 have h7:=vR h.right y
 have hpow:=pS h7
 have hpos:0<2^(enL s y).length:=Nat.pow_pos (by omega)
 unfold kL
 rw [xa hs h]
 simp only [obnd]
 rw [wru (by omega),an (by omega),Int.toNat_natCast,me h7,wr (by omega) (by omega)]
 have hlen:(decL s y).length=2^(enL s y).length:=by unfold decL;simp
 have hget:∀ j (hj:j<(decL s y).length),(decL s y)[j]=lz s y j:=by
  intro j hj
  have:(decL s y)[j]?=some (lz s y j):=by
   unfold decL
   rw [List.getElem?_map,List.getElem?_range (by omega)];rfl
  rw [List.getElem?_eq_getElem hj] at this
  exact Option.some.inj this
 have key:=jr (body:=gP rec s.nodes s.ties s.horizon y.now y.times y.values (enL s y)) (decL s y) (bD (win s) s y) (fun j=>((2^(enL s y).length:Nat):Int) - 1 - (j:Int)) (rT:=.inl ()) (fun _=>.inr true) ?_ ?_ ?_
 ·simp only [Int.natCast_zero,Int.sub_zero] at key
  rw [key]
  unfold anyB
  have hany:(decL s y).any (bD (win s) s y)=((decL s y).findIdx? (bD (win s) s y)).isSome:=(List.findIdx?_isSome).symm
  rw [hany]
  cases (decL s y).findIdx? (bD (win s) s y) <;> rfl
 ·intro j hj hq
  have hmem:=List.getElem_mem hj
  have e:=xV hs hr h hmem
  rw [hget j hj] at e hq
  have hd:lz s y j=sel (cf (((2^(enL s y).length:Nat):Int) - 1 - (j:Int))) (enL s y) (enL s y).length:=by
   unfold lz
   rw [show ((2^(enL s y).length - 1 - j:Nat):Int)=((2^(enL s y).length:Nat):Int) - 1 - (j:Int) by omega]
  unfold gP
  try simp only
  rw [if_pos (by omega),rL _ _ (by omega),← hd]
  simp only [obnd]
  rw [show (GShow.mk s.nodes s.ties s.horizon)=s from rfl,show (GState.mk y.now y.times y.values)=y from rfl,e,hq]
  simp only [Bool.false_eq_true,if_false]
  rw [wr (by omega) (by omega)]
  congr 2
  omega
 ·intro j hj hq
  have hmem:=List.getElem_mem hj
  have e:=xV hs hr h hmem
  rw [hget j hj] at e hq
  have hd:lz s y j=sel (cf (((2^(enL s y).length:Nat):Int) - 1 - (j:Int))) (enL s y) (enL s y).length:=by
   unfold lz
   rw [show ((2^(enL s y).length - 1 - j:Nat):Int)=((2^(enL s y).length:Nat):Int) - 1 - (j:Int) by omega]
  unfold gP
  try simp only
  rw [if_pos (by omega),rL _ _ (by omega),← hd]
  simp only [obnd]
  rw [show (GShow.mk s.nodes s.ties s.horizon)=s from rfl,show (GState.mk y.now y.times y.values)=y from rfl,e,hq]
  rfl
 ·unfold gP
  try simp only
  rw [if_neg (by omega)]
theorem DC {s:GShow}(hs:aQ s){rec:RecS}{x:GState}(hx:aF s x=true)(hr:xU s (x.now+1) rec):kM rec s x=some (win s x):=by
 have hR:=bi hx
 have hv:=(aW hR.val).1
 have h6:=tQ hR.ok x
 have hmm:=uq s x
 have hpow:=pS (m:=(mayL s x).length) (by omega)
 unfold kM
 rw [xT hs hR]
 simp only [obnd]
 have hw:=FO hx
 unfold mg at hw
 cases hb:fg s x
 ·rw [hb] at hw
  simp only [Bool.false_eq_true,if_false] at hw ⊢
  rw [Bt hs hR]
  simp only
  cases ho:lb s x
  ·rw [ho] at hw
   simp only [Bool.false_eq_true,if_false] at hw ⊢
   obtain ⟨b,eb,hbw⟩:=GQ hs hx
   rw [eb]
   simp only
   cases b
   ·simp only [Bool.false_eq_true,if_false]
    rw [wY hx]
    simp only
    have hh:x.now≤s.horizon:=by
     unfold fg at hb
     rw [Bool.or_eq_false_iff,ho] at hb
     have:=hb.2
     simp only [Bool.not_false,Bool.and_true,decide_eq_false_iff_not] at this
     omega
    have hends:bu s x=(List.range (2^(mayL s x).length)).map (kZ s x):=by unfold bu;rw [if_neg (by omega)]
    have hlen:(bu s x).length=2^(mayL s x).length:=by rw [hends];simp
    have hget:∀ j (hj:j<(bu s x).length),(bu s x)[j]=kZ s x j:=by
     intro j hj
     have:(bu s x)[j]?=some (kZ s x j):=by
      rw [hends,List.getElem?_map,List.getElem?_range (by omega)];rfl
     rw [List.getElem?_eq_getElem hj] at this
     exact Option.some.inj this
    have step:∀ j (hj:j<(bu s x).length),gQ rec s.nodes s.ties s.horizon x.now x.times x.values (kY s x) (mayL s x) (j:Int)=(if anyB (win s) s (endX s x (bu s x)[j])=true then some (.next ((j:Int)+1)) else some (.done (.inr false))):=by
     intro j hj
     have hmem:=List.getElem_mem hj
     obtain ⟨a1,a2,a3⟩:=kc hR.ok hmem
     have hM:=mh hx hmem
     have e:=Lc hs (y:=endX s x (bu s x)[j]) hr hM
     obtain ⟨f1,f2,f3,f4,f5,f6⟩:=sH hR.ok x j
     rw [hget j hj] at e a2 a3 ⊢
     unfold gQ
     try simp only
     rw [wru (by omega),an (by omega),Int.toNat_natCast,me (by omega),if_pos (by omega),rL _ _ (by omega)]
     simp only [obnd]
     rw [f2]
     simp only
     rw [show (GShow.mk s.nodes s.ties s.horizon)=s from rfl,show (GState.mk x.now x.times x.values)=x from rfl,xQ hx (by omega) (by omega) a3]
     simp only
     rw [e]
     simp only
     rw [wr (by omega) (by omega)]
    have key:=gU (body:=gQ rec s.nodes s.ties s.horizon x.now x.times x.values (kY s x) (mayL s x)) (bu s x) (fun ties=>anyB (win s) s (endX s x ties)) (fun i=>(i:Int)) (rT:=.inl ()) (rF:=.inr false) ?_ ?_ ?_
    ·rw [show ((0:Nat):Int)=0 from rfl] at key
     rw [key,hw]
     cases (bu s x).all (fun ties=>anyB (win s) s (endX s x ties)) <;> rfl
    ·intro i hi hq
     rw [step i hi,hq];rfl
    ·intro i hi hq
     rw [step i hi,hq];rfl
    ·unfold gQ
     try simp only
     rw [wru (by omega),an (by omega),Int.toNat_natCast,me (by omega),if_neg (by omega)]
   ·simp only [if_true]
    rw [hbw rfl]
  ·rw [ho] at hw
   rw [hw];rfl
 ·rw [hb] at hw
  rw [hw];rfl
theorem xb {s:GShow}(hs:aQ s):∀ (n:Nat) (t:Int),12≤(n:Int)+t→xU s t (kO n)
 | 0,t,h=>by
  intro x hx ht
  have:=(bi hx).now
  have:=(bi hx).right.hor
  omega
 | n+1,t,h=>by
  intro x hx ht
  exact DC hs hx (by rw [ht];exact xb hs n (t+1) (by omega))
theorem GR {s:GShow}(hs:aQ s)(t:Int)(h:0≤t):xU s t m_spec_l15Win:=xb hs 40 t (by omega)
theorem Bw {s:GShow}(hs:aQ s){y:GState}(h:MomR s y){nodes:List Int}(hn:nodes∈decL s y):oE s y nodes=some (bD (win s) s y nodes):=
 xV hs (GR hs _ (by have:=h.now;omega)) h hn
end Go.Proofs.QW
set_option maxRecDepth 100000
namespace Go.Proofs.QW
open Go
theorem Cp {α:Type}{l:List α}{n:Nat}{x:α}(h:n<l.length):(l.set n x).take (n+1)=l.take n++[x]:=by
 have e:(l.set n x).take n=l.take n:=by
  apply List.ext_getElem?
  intro i
  rw [List.getElem?_take,List.getElem?_take]
  split
  ·rw [List.getElem?_set_ne (by omega)]
  ·rfl
 rw [cI (by simp;exact h),e]
 simp
theorem IN {α:Type}{xs ys:List α}{i:Nat}(h:i+ys.length≤xs.length):(putL xs i ys).take i=xs.take i:=by
 unfold putL
 rw [if_pos h,List.append_assoc,List.take_append_of_le_length (by rw [List.length_take];omega),List.take_take]
 simp
theorem IP {α β ρ:Type}(xs:List α)(q:α→Bool)(I:β→Prop)(body:Int × β→Option (Step (Int × β) ρ))(rT:β→ρ)(rF:Int→β→ρ)
  (h1:∀ i (hi:i<xs.length) k,I k→∃ k',I k'∧body ((i:Int),k)=some (if q xs[i]=true then .done (rF (i:Int) k') else .next ((i:Int)+1,k')))
  (h2:∀ k,I k→body ((xs.length:Int),k)=some (.done (rT k))) (k:β) (hk:I k) :
  ∃ k',I k'∧aq body (0,k)=some (if 0≤aM xs q then rF (aM xs q) k' else rT k'):=by
 have key:=cN (body:=body) (s0:=((0:Int),k)) xs.length (fun i st=>st.1=(i:Int)∧I st.2∧∀ j (hj:j<xs.length),j<i→q xs[j]=false)
  (fun r=>∃ k',I k'∧r=(if 0≤aM xs q then rF (aM xs q) k' else rT k')) ⟨rfl,hk,fun j _ h=>absurd h (by omega)⟩ ?_ ?_
 ·obtain ⟨r,hr,hp⟩:=key
  obtain ⟨k',h3,rfl⟩:=hp
  exact ⟨k',h3,hr⟩
 ·rintro i ⟨a,k⟩ hi ⟨rfl,hI,hall⟩
  obtain ⟨k',hk',hb⟩:=h1 i hi k hI
  cases hq:q xs[i]
  ·rw [hq,if_neg (by simp)] at hb
   refine .inl ⟨_,hb,rfl,hk',fun j hj hlt=>?_⟩
   rcases Nat.lt_or_ge j i with h | h
   ·exact hall j hj h
   ·obtain rfl:j=i:=by omega
    exact hq
  ·rw [hq,if_pos rfl] at hb
   refine .inr ⟨_,hb,k',hk',?_⟩
   have:aM xs q=(i:Int):=by
    unfold aM
    have:xs.findIdx? q=some i:=by
     rw [List.findIdx?_eq_some_iff_getElem]
     exact ⟨hi,hq,fun j hj=>by simp [hall j (by omega) hj]⟩
    rw [this]
   rw [this,if_pos (by omega)]
 ·rintro ⟨a,k⟩ ⟨rfl,hI,hall⟩
  refine ⟨_,h2 k hI,k,hI,?_⟩
  rw [if_neg]
  intro h0
  obtain ⟨j,hj,_,hq,_⟩:=js h0
  rw [hall j hj hj] at hq
  cases hq
theorem CS {α:Type}{xs:List α}{q:α→Bool}(h:¬ 0≤aM xs q):aM xs q=-1∧xs.any q=false:=by
 constructor
 ·unfold aM at h ⊢
  cases hf:xs.findIdx? q with
  | none=>rfl
  | some j=>rw [hf] at h;simp at h
 ·rw [← ol];exact decide_eq_false h
section
variable {s:GShow} {y:GState}
theorem Lu (hs:aQ s)(h:MomR s y){nodes:List Int}(hn:nodes∈decL s y){known:List (ByteArray × Bool)}(hk:bV s known) :
  ∃ known',bV s known'∧dR nodes s known y=some (!bD (win s) s y nodes,known'):=by
 obtain ⟨k',hk',e⟩:=zo (Hz hs _ (by have:=h.now;omega)) h hn hk
 refine ⟨k',hk',?_⟩
 unfold dR nW
 rw [e];rfl
theorem Cq (hs:aQ s)(h:MomR s y)(xs:List (List Int))(hx:∀ nd,nd∈xs→nd∈decL s y)(hl:xs.length≤128){known:List (ByteArray × Bool)}(hk:bV s known) :
  ∃ known',bV s known'∧bc xs s known y=some (aM xs (fun nd=>!bD (win s) s y nd),xs,known'):=by
 unfold bc
 have key:=IP xs (fun nd=>!bD (win s) s y nd) (bV s) (aX ((xs.length:Nat):Int) xs s.nodes s.ties s.horizon y.now y.times y.values)
  (fun k=>.inl k) (fun i k=>.inr (i,xs,k)) ?_ ?_ known hk
 ·obtain ⟨k',hk',e⟩:=key
  rw [e]
  refine ⟨k',hk',?_⟩
  simp only [obnd]
  by_cases h0:0≤aM xs (fun nd=>!bD (win s) s y nd)
  ·rw [if_pos h0]
  ·rw [if_neg h0,(CS h0).1]
 ·intro i hi k hk
  obtain ⟨k',hk',e⟩:=Lu hs h (hx _ (List.getElem_mem hi)) hk
  refine ⟨k',hk',?_⟩
  unfold aX
  try simp only
  rw [if_pos (by omega),au hi]
  simp only [obnd]
  rw [show (GShow.mk s.nodes s.ties s.horizon)=s from rfl,show (GState.mk y.now y.times y.values)=y from rfl,e]
  simp only
  rw [wr (by omega) (by omega)]
  cases bD (win s) s y xs[i] <;> rfl
 ·intro k _
  unfold aX
  try simp only
  rw [if_neg (by omega)]
theorem Bx (hs:aQ s)(h:MomR s y)(xs:List (List Int))(hx:∀ nd,nd∈xs→nd∈decL s y)(hl:xs.length≤128){known:List (ByteArray × Bool)}(hk:bV s known) :
  ∃ known',bV s known'∧ba xs s known y=some (xs.filter (fun nd=>bD (win s) s y nd),known'):=by
 obtain ⟨k1,hk1,e1⟩:=Cq hs h xs hx hl hk
 have hfn:xs.filter (fun nd=>bD (win s) s y nd)=xs.filter (fun nd=>!(!bD (win s) s y nd)):=by simp
 rw [hfn]
 unfold ba
 rw [e1]
 simp only [obnd]
 generalize hq':(fun nd=>!bD (win s) s y nd)=q at *
 have hq:∀ nd,q nd=!bD (win s) s y nd:=fun nd=>by rw [← hq']
 have hff:(fun nd=>!(!bD (win s) s y nd))=(fun x=>!q x):=by funext nd;rw [hq]
 rw [hff]
 by_cases h0:0≤aM xs q
 ·obtain ⟨i0,hi0,he,hq0,hno⟩:=js h0
  rw [he,if_neg (by omega),wr (x:=(i0:Int)+1) (by omega) (by omega)]
  have htake:(xs.take i0).filter (fun x=>!q x)=xs.take i0:=by
   rw [List.filter_eq_self]
   intro x hm
   obtain ⟨j,hj,rfl⟩:=List.getElem_of_mem hm
   rw [List.length_take] at hj
   rw [List.getElem_take,hno j (by omega)];rfl
  have inv:∃ r,aq (aV xs.length s.nodes s.ties s.horizon y.now y.times y.values) ((i0:Int),(i0:Int)+1,xs,k1)=some r∧(r.1=(((xs.filter (fun x=>!q x)).length:Nat):Int)∧r.2.1.length=xs.length∧r.2.1.take (xs.filter (fun x=>!q x)).length=xs.filter (fun x=>!q x)∧bV s r.2.2):=by
   refine cN (xs.length - (i0+1)) (fun (k:Nat) (s':Int × Int × List (List Int) × List (ByteArray × Bool))=>s'.2.1=((i0+1+k:Nat):Int)∧s'.1=((((xs.take (i0+1+k)).filter (fun x=>!q x)).length:Nat):Int)∧s'.2.2.1.length=xs.length ∧
    s'.2.2.1.take ((xs.take (i0+1+k)).filter (fun x=>!q x)).length=(xs.take (i0+1+k)).filter (fun x=>!q x)∧(∀ j,i0+1+k≤j→s'.2.2.1[j]?=xs[j]?)∧((xs.take (i0+1+k)).filter (fun x=>!q x)).length<i0+1+k∧bV s s'.2.2.2) _ ?_ ?_ ?_
   ·have e1:(xs.take (i0+1)).filter (fun x=>!q x)=xs.take i0:=by
     rw [cI hi0,List.filter_append,htake]
     simp [hq0]
    have hl:(xs.take i0).length=i0:=by rw [List.length_take];omega
    refine ⟨by simp only;omega,?_,rfl,?_,fun _ _=>rfl,?_,hk1⟩
    ·simp only [Nat.add_zero];rw [e1,hl]
    ·simp only [Nat.add_zero];rw [e1,hl]
    ·simp only [Nat.add_zero];rw [e1,hl];omega
   ·rintro k ⟨v5,v6,v0,kn⟩ hk ⟨h1,h2,h3,h4,h5,h6,h7⟩
    simp only at h1 h2 h3 h4 h5 h6 h7
    have hj:i0+1+k<xs.length:=by omega
    have hg:getI v0 v6=some xs[i0+1+k]:=by
     unfold getI
     rw [h1,if_pos (by omega),Int.toNat_natCast,h5 _ (Nat.le_refl _),List.getElem?_eq_getElem hj]
    obtain ⟨kn',hkn',ec⟩:=Lu hs h (hx _ (List.getElem_mem hj)) h7
    left
    unfold aV
    simp only
    rw [if_pos (by omega),an (by omega),hg,wr (x:=v6+1) (by omega) (by omega)]
    simp only [obnd]
    rw [show (GShow.mk s.nodes s.ties s.horizon)=s from rfl,show (GState.mk y.now y.times y.values)=y from rfl,ec,← hq]
    simp only
    cases hqq:q xs[i0+1+k]
    ·have e2:(xs.take (i0+1+(k+1))).filter (fun x=>!q x)=(xs.take (i0+1+k)).filter (fun x=>!q x)++[xs[i0+1+k]]:=by
      rw [show i0+1+(k+1)=i0+1+k+1 by omega,cI hj,List.filter_append]
      simp [hqq]
     have hv5:getI v0 v5=some v0[((xs.take (i0+1+k)).filter (fun x=>!q x)).length]:=by rw [h2,au (by omega)]
     rw [if_neg (by simp),an (by omega),hv5,wr (x:=v5+1) (by omega) (by omega)]
     refine ⟨_,rfl,by simp only;omega,?_,?_,?_,?_,?_,hkn'⟩
     ·simp only;rw [e2,List.length_append,h2];simp
     ·simp only [List.length_set];exact h3
     ·simp only;rw [e2,List.length_append,h2,Int.toNat_natCast]
      simp only [List.length_cons,List.length_nil,Nat.zero_add]
      rw [Cp (by omega),h4]
     ·intro j hj'
      simp only
      rw [h2,Int.toNat_natCast,List.getElem?_set_ne (by omega)]
      exact h5 j (by omega)
     ·rw [e2,List.length_append];simp;omega
    ·have e2:(xs.take (i0+1+(k+1))).filter (fun x=>!q x)=(xs.take (i0+1+k)).filter (fun x=>!q x):=by
      rw [show i0+1+(k+1)=i0+1+k+1 by omega,cI hj,List.filter_append]
      simp [hqq]
     rw [if_pos rfl]
     refine ⟨_,rfl,by simp only;omega,?_,h3,?_,fun j hj'=>h5 j (by omega),?_,hkn'⟩
     ·simp only;rw [e2];exact h2
     ·simp only;rw [e2];exact h4
     ·rw [e2];omega
   ·rintro ⟨v5,v6,v0,kn⟩ ⟨h1,h2,h3,h4,h5,h6,h7⟩
    simp only at h1 h2 h3 h4 h7
    have hall:i0+1+(xs.length - (i0+1))=xs.length:=by omega
    rw [hall] at h1 h2 h4
    rw [List.take_length] at h2 h4
    unfold aV
    simp only
    rw [if_neg (by omega)]
    exact ⟨_,rfl,h2,h3,h4,h7⟩
  obtain ⟨⟨v5,v0,kn⟩,hr,h1,h2,h3,h4⟩:=inv
  rw [hr]
  simp only at h1 h2 h3 h4 ⊢
  have hle:=List.length_filter_le (fun x=>!q x) xs
  subst h1
  simp only [Int.toNat_natCast]
  rw [an (by omega),an (by omega),an (by omega),an (by omega),an (by rw [za];omega),an (by omega),IN (by rw [List.length_replicate];omega),h3]
  exact ⟨kn,h4,rfl⟩
 ·obtain ⟨h2,h1⟩:=CS h0
  rw [if_pos h2,an (Nat.le_refl _),List.take_length]
  refine ⟨k1,hk1,?_⟩
  congr 2
  symm
  rw [List.filter_eq_self]
  intro x hm
  rw [List.any_eq_false] at h1
  have:=h1 x hm
  cases hqx:q x
  ·rfl
  ·exact absurd hqx this
theorem Ld (hs:aQ s)(h:MomR s y){known:List (ByteArray × Bool)}(hk:bV s known) :
  ∃ known',bV s known'∧jP s known y=some ((decL s y).filter (bD (win s) s y),known'):=by
 obtain ⟨k',hk',e⟩:=Bx hs h (decL s y) (fun _ h=>h) (sA h.right y) hk
 refine ⟨k',hk',?_⟩
 unfold jP
 rw [uv hs h]
 simp only [obnd]
 rw [e]
end
def nI (lazy:Bool)(l:List (List Int))(p:List Int→Bool):Option (List Int):=if lazy=true then l.reverse.find? p else l.find? p
theorem Le (l:List (List Int))(p:List Int→Bool)(lazy:Bool)(hl:l.length≤128) :
  nX (l.filter p) lazy=some (match nI lazy l p with | some nd=>(nd,true) | none=>([],false)):=by
 have hle:=List.length_filter_le p l
 unfold nX nI
 have e1:l.find? p=(l.filter p).head?:=(List.head?_filter).symm
 have e2:l.reverse.find? p=(l.filter p).getLast?:=by rw [← List.head?_filter,List.filter_reverse,List.head?_reverse]
 rw [e1,e2]
 generalize l.filter p=m at *
 by_cases h0:m=[]
 ·subst h0
  rw [if_pos (by simp)]
  cases lazy <;> rfl
 ·have hpos:0<m.length:=List.length_pos_iff.2 h0
  rw [if_neg (by omega)]
  cases lazy
  ·simp only [Bool.false_eq_true,if_false]
   have:getI m ((0:Nat):Int)=some m[0]:=au hpos
   rw [show ((0:Nat):Int)=0 from rfl] at this
   rw [this,List.head?_eq_getElem?,List.getElem?_eq_getElem hpos];rfl
  ·simp only [if_true]
   rw [wr (by omega) (by omega),show ((m.length:Nat):Int) - 1=((m.length - 1:Nat):Int) by omega,au (by omega),List.getLast?_eq_getElem?,List.getElem?_eq_getElem (by omega)];rfl
end Go.Proofs.QW
set_option maxRecDepth 100000
namespace Go.Proofs.QW
open Go
theorem IQ (log:List GEntry)(hl:log.length≤1048576)(he:∀ e,e∈log→FitE e):lL log=some log:=by
 unfold lL
 have key:aq (iP log ((log.length:Nat):Int)) (((0:Nat):Int),log.take 0)=some log:=by
  refine aG log.length (fun i=>((i:Int),log.take i)) ?_ ?_
  ·intro i hi
   have hf:=he _ (List.getElem_mem hi)
   unfold iP
   try simp only
   rw [if_pos (by omega),au hi]
   simp only [obnd]
   rw [iy _ hf.ties,iy _ hf.nodes,iy _ hf.values]
   simp only
   rw [an (by rw [List.length_take];omega),an (by rw [List.length_take];omega),wr (by omega) (by omega),List.take_succ_eq_append_getElem hi];rfl
  ·unfold iP
   try simp only
   rw [if_neg (by omega),List.take_length]
 simp only [Int.natCast_zero,List.take_zero] at key
 rw [key];rfl
theorem zp (d:GDesk)(h:FitD d):iB d=some d:=by
 unfold iB
 rw [GG _ h.sh]
 simp only [obnd]
 rw [rM _ h.st.times h.st.values]
 simp only
 rw [IQ _ h.log h.entry]
theorem tL (d:GDesk)(h:FitD d):eY d=some d:=by
 have hl:=h.log
 unfold eY
 rw [Iz _ h.sh]
 simp only [obnd]
 rw [rN _ h.st.times h.st.values]
 simp only
 have key:aq (dD d.log ((d.log.length:Nat):Int) d.show_.horizon d.state.now d.lazy d.show_.nodes d.show_.ties d.state.times d.state.values) (((0:Nat):Int),d.log.take 0)=some d.log:=by
  refine aG d.log.length (fun i=>((i:Int),d.log.take i)) ?_ ?_
  ·intro i hi
   have hf:=h.entry _ (List.getElem_mem hi)
   have f1:=hf.ties
   have f2:=hf.nodes
   have f3:=hf.values
   unfold dD
   try simp only
   rw [if_pos (by omega),au hi]
   simp only [obnd]
   unfold nG
   rw [an (by omega),an (by omega),an (by omega),an (by omega),an (by omega),an (by omega)]
   simp only
   rw [an (by rw [List.length_take];omega),an (by rw [List.length_take];omega),wr (by omega) (by omega),List.take_succ_eq_append_getElem hi];rfl
  ·unfold dD
   try simp only
   rw [if_neg (by omega),List.take_length]
 simp only [Int.natCast_zero,List.take_zero] at key
 rw [key]
def pmB (values:List Int):Bool:=decide (values.length=3)&&values.all (fun v=>decide (v=1) || decide (v=-1))
noncomputable def bl (d:GDesk)(ties values:List Int):Int:=
 if la d=true then (if pmB values=true then (if fg d.show_ d.state=true then 2 else if lb d.show_ d.state=true then 2 else if d.show_.horizon<d.state.now then 2 else if ties∈bu d.show_ d.state then 0 else 3) else 1) else 1
def cJ (values ps:List Int):List Int:=ps.map (fun p=>tm values (p - 1))
def litL (values ps:List Int):List Int:=ps.map (fun p=>p*tm values (p - 1))
noncomputable def finD (d:GDesk)(ties values nodes:List Int):GDesk:=
 ⟨d.show_,obsX (decX (endX d.show_ d.state ties) nodes) (aA d.show_ nodes) (cJ values (aA d.show_ nodes)),d.lazy,d.log++[⟨d.state.now,ties,nodes,litL values (aA d.show_ nodes)⟩]⟩
noncomputable def pU (d:GDesk)(ties values:List Int)(refused:Int)(c:Option (List Int)):GDesk × List Int × Int:=
 if bl d ties values=0 then (match c with | some nd=>(finD d ties values nd,nd,0) | none=>(d,[],refused)) else (d,[],bl d ties values)
theorem lf {d:GDesk}(h:la d=true):aF d.show_ d.state=true:=by
 unfold la at h
 simp only [Bool.and_eq_true] at h
 exact h.1.1.1
theorem qI {d:GDesk}{ties values:List Int}(h:bl d ties values=0):la d=true∧pmB values=true∧ties∈bu d.show_ d.state∧fg d.show_ d.state=false∧lb d.show_ d.state=false∧¬ d.show_.horizon<d.state.now:=by
 unfold bl at h
 split at h
 ·rename_i h1
  split at h
  ·rename_i h2
   split at h
   ·omega
   ·rename_i h3
    split at h
    ·omega
    ·rename_i h4
     split at h
     ·omega
     ·rename_i h5
      split at h
      ·rename_i h6
       exact ⟨h1,h2,h6,by simpa using h3,by simpa using h4,h5⟩
      ·omega
  ·omega
 ·omega
theorem FR {values:List Int}(h:pmB values=true):values.length=3∧∀ v,v∈values→v=1∨v=-1:=by
 unfold pmB at h
 rw [Bool.and_eq_true,decide_eq_true_eq,List.all_eq_true] at h
 exact ⟨h.1,fun v hv=>by have:=h.2 v hv;simpa using this⟩
theorem IR {values:List Int}(h:pmB values=true){k:Int}(h0:0≤k)(h1:k<3):tm values k=1∨tm values k=-1:=by
 obtain ⟨h2,h3⟩:=FR h
 unfold tm
 rw [List.getElem?_eq_getElem (show k.toNat<values.length by omega)]
 exact h3 _ (List.getElem_mem _)
theorem Pd {values:List Int}(h3:values.length=3):values.any (fun v=>!(decide (v=1) || decide (v=-1)))=!pmB values:=by
 unfold pmB
 rw [decide_eq_true h3,Bool.true_and,List.any_eq_not_all_not]
 simp
theorem FS (v:Int):gi v=some (!(decide (v=1) || decide (v=-1))):=by
 unfold gi
 by_cases h:v=1
 ·rw [if_pos h,decide_eq_true h];rfl
 ·rw [if_neg h,decide_eq_false h]
  by_cases h2:v=-1
  ·rw [decide_eq_true h2,decide_eq_false (by simpa using h2)];rfl
  ·rw [decide_eq_false h2,decide_eq_true h2];rfl
theorem GS {values ps:List Int}(hv:pmB values=true)(hp:∀ p,p∈ps→1≤p∧p≤3)(hl:ps.length≤3):kF ps (cJ values ps)=some (litL values ps):=by
 unfold kF
 have key:aq (il (cJ values ps) ps ((ps.length:Nat):Int)) (((0:Nat):Int),litL values (ps.take 0))=some (litL values ps):=by
  refine aG ps.length (fun i=>((i:Int),litL values (ps.take i))) ?_ ?_
  ·intro i hi
   have hb:=hp _ (List.getElem_mem hi)
   have ht:=IR hv (k:=ps[i] - 1) (by omega) (by omega)
   have hl1:(litL values (ps.take i)).length≤3:=by unfold litL;rw [List.length_map,List.length_take];omega
   have hsl:(cJ values ps).length=ps.length:=by unfold cJ;simp
   unfold il
   try simp only
   rw [if_pos (by omega),au hi,au (show i<(cJ values ps).length by omega)]
   simp only [obnd]
   have hs:(cJ values ps)[i]'(by omega)=tm values (ps[i] - 1):=by unfold cJ;simp
   rw [hs,an (by omega),an (by omega),wr (x:=(i:Int)+1) (by omega) (by omega),wr (x:=ps[i]*tm values (ps[i] - 1)) (by rcases ht with h | h <;> rw [h] <;> omega) (by rcases ht with h | h <;> rw [h] <;> omega)]
   congr 3
   unfold litL
   rw [List.take_succ_eq_append_getElem hi,List.map_append];rfl
  ·unfold il
   try simp only
   rw [if_neg (by omega),List.take_length]
 simp only [Int.natCast_zero,List.take_zero] at key
 rw [show litL values []=[] from rfl] at key
 rw [key];rfl
theorem wG {values ps:List Int}(hv:pmB values=true)(hp:∀ p,p∈ps→1≤p∧p≤3):(cJ values ps).length=ps.length∧∀ v,v∈cJ values ps→v=1∨v=-1:=by
 refine ⟨by unfold cJ;simp,fun v hm=>?_⟩
 unfold cJ at hm
 rw [List.mem_map] at hm
 obtain ⟨p,hpm,rfl⟩:=hm
 have:=hp p hpm
 exact IR hv (by omega) (by omega)
theorem xW (d:GDesk)(ties values:List Int)(refused:Int)(d':GDesk)(hf:FitD d)(ht:ties.length≤1048576)(hvl:values.length≤1048576)(c:Option (List Int))(hmem:∀ nd,c=some nd→nd∈decL d.show_ (endX d.show_ d.state ties))
  (hc:bl d ties values=0→∃ r,ik d.show_ [] (endX d.show_ d.state ties) d'=some r∧r.2.1=c.isSome∧∀ nd,c=some nd→r.1=nd) :
  bA d ties values refused d'=some (pU d ties values refused c):=by
 have hs:=hf.sh.small
 have hlog:=hf.log
 have hg0:=@qI d ties values
 unfold pU
 unfold bA
 rw [zp d hf]
 simp only [obnd]
 rw [zj d hf]
 simp only
 cases hd:la d
 ·have e:bl d ties values=1:=by unfold bl;rw [hd];rfl
  rw [e];rfl
 have hx:=lf hd
 have hR:=bi hx
 simp only [if_true]
 by_cases h3:values.length=3
 rotate_left
 ·have e:bl d ties values=1:=by unfold bl pmB;rw [hd,decide_eq_false h3];rfl
  rw [if_neg (by omega),e];rfl
 rw [if_pos (by omega),mI values _ (fun v=>!(decide (v=1) || decide (v=-1))) (by unfold Cnt;omega) (fun v _=>FS v),Pd h3]
 simp only
 cases hp:pmB values
 ·have e:bl d ties values=1:=by unfold bl;rw [hd,hp];rfl
  rw [e];rfl
 simp only [Bool.not_true,Bool.false_eq_true,if_false]
 rw [zl hs hR]
 simp only
 cases hb:fg d.show_ d.state
 rotate_left
 ·have e:bl d ties values=2:=by unfold bl;rw [hd,hp,hb];rfl
  rw [e];rfl
 simp only [Bool.false_eq_true,if_false]
 rw [wF hs hR]
 simp only
 cases ho:lb d.show_ d.state
 rotate_left
 ·have e:bl d ties values=2:=by unfold bl;rw [hd,hp,hb,ho];rfl
  rw [e];rfl
 simp only [Bool.false_eq_true,if_false]
 by_cases hh:d.show_.horizon<d.state.now
 ·have e:bl d ties values=2:=by unfold bl;rw [hd,hp,hb,ho,if_pos hh];rfl
  rw [if_pos hh,e];rfl
 rw [if_neg hh,wA hx]
 simp only
 have hel:=tc (x:=d.state) hR.ok
 rw [zN _ _ (by unfold Cnt;omega) (by unfold Cnt;omega)]
 simp only
 by_cases hm:ties∈bu d.show_ d.state
 rotate_left
 ·have e:bl d ties values=3:=by unfold bl;rw [hd,hp,hb,ho,if_neg hh,if_neg hm];rfl
  rw [decide_eq_false hm,e];rfl
 have e:bl d ties values=0:=by unfold bl;rw [hd,hp,hb,ho,if_neg hh,if_pos hm];rfl
 obtain ⟨a1,a2,a3⟩:=kc hR.ok hm
 have hM:=mh hx hm
 have hv3:=(aW hR.val).1
 rw [decide_eq_true hm,if_pos rfl,zP hx (by omega) (by omega) a3]
 simp only
 unfold oD
 simp only
 obtain ⟨r,e1,e2,e3⟩:=hc e
 rw [e1,e]
 simp only [if_true]
 rw [e2]
 cases c with
 | none=>rfl
 | some nd=>
  have hn:=hmem nd rfl
  obtain ⟨n1,n2,n3⟩:=dh hM.right hn
  have hps:∀ p,p∈aA d.show_ nd→1≤p∧p≤3:=fun p hp=>⟨(bE hp).1,(bE hp).2.1⟩
  have hpl:=nZ d.show_ nd
  simp only [Option.isSome_some,if_true]
  rw [e3 nd rfl,wD hM n1 n2 n3]
  simp only
  have key:aq (aZ ties values nd (((aA d.show_ nd).length:Nat):Int) d.show_.horizon d.state.now d.lazy d.state.now d.state.times d.state.values (decX (endX d.show_ d.state ties) nd).now d.show_.nodes d.show_.ties d.state.times d.state.values d.log (decX (endX d.show_ d.state ties) nd).times (decX (endX d.show_ d.state ties) nd).values (aA d.show_ nd)) (((0:Nat):Int),cJ values ((aA d.show_ nd).take 0))=some (cJ values (aA d.show_ nd)):=by
   refine aG (aA d.show_ nd).length (fun i=>((i:Int),cJ values ((aA d.show_ nd).take i))) ?_ ?_
   ·intro i hi
    have hb:=hps _ (List.getElem_mem hi)
    have hsl:(cJ values ((aA d.show_ nd).take i)).length≤3:=by unfold cJ;rw [List.length_map,List.length_take];omega
    unfold aZ
    try simp only
    rw [if_pos (by omega),au hi]
    simp only [obnd]
    rw [wr (x:=(aA d.show_ nd)[i] - 1) (by omega) (by omega),bv (by omega) (by omega)]
    simp only
    rw [an (by omega),an (by omega),wr (by omega) (by omega)]
    congr 3
    unfold cJ
    rw [List.take_succ_eq_append_getElem hi,List.map_append];rfl
   ·unfold aZ
    try simp only
    rw [if_neg (by omega),List.take_length]
  simp only [Int.natCast_zero,List.take_zero] at key
  rw [show cJ values []=[] from rfl] at key
  rw [key]
  simp only
  obtain ⟨s1,s2⟩:=wG hp hps
  have hnow:=hR.now
  have hhor:=hR.right.hor
  have hln:=hM.len
  have h7:=hM.right.nodes
  rw [(np (decX (endX d.show_ d.state ties) nd) (aA d.show_ nd) (cJ values (aA d.show_ nd)) (by show 0≤d.state.now∧d.state.now≤1000;omega) (by show (bb _ _ _ _).length≤_;rw [bZ];omega) hv3 hps s1 (by omega)).1]
  simp only
  rw [iy _ ht,iy _ (by omega),GS hp hps hpl]
  simp only
  rw [an (by omega),an (by omega)]
  rfl
end Go.Proofs.QW
set_option maxRecDepth 100000
namespace Go.Proofs.QW
open Go
def szE (e:GEntry):Int:=1+(e.ties.length:Int)+(e.nodes.length:Int)+(e.values.length:Int)
def kE (k:Int):List GEntry→Nat→Int
 | _,0=>k
 | [],_+1=>k
 | e::r,i+1=>kE (k+szE e) r i
theorem yx:∀ (k:Int) (l:List GEntry) (i:Nat) (hi:i<l.length),kE k l (i+1)=kE k l i+szE l[i]
 | k,e::r,0,_=>by
  show kE (k+szE e) r 0=k+szE e
  cases r <;> rfl
 | k,e::r,i+1,hi=>by
  show kE (k+szE e) r (i+1)=kE (k+szE e) r i+szE (r[i]'(by simpa using hi))
  exact yx _ r i (by simpa using hi)
 | _,[],_,hi=>by simp at hi
def eE (k:Int)(e:GEntry):GEntry:=⟨k,mkI (k+1) e.ties.length,mkI (k+1+(e.ties.length:Int)) e.nodes.length,mkI (k+1+(e.ties.length:Int)+(e.nodes.length:Int)) e.values.length⟩
def HA:GEntry:=⟨0,[],[],[]⟩
def aE (k:Int)(l:List GEntry)(i:Nat):List GEntry:=(List.range l.length).map (fun j=>if j<i then eE (kE k l j) (l.getD j HA) else l.getD j HA)
theorem ux (k:Int)(l:List GEntry)(i:Nat):(aE k l i).length=l.length:=by simp [aE]
theorem Mn (k:Int)(l:List GEntry):aE k l 0=l:=by
 apply List.ext_getElem?
 intro n
 unfold aE
 rw [List.getElem?_map]
 by_cases hn:n<l.length
 ·rw [List.getElem?_range hn,List.getElem?_eq_getElem hn]
  simp [List.getD_eq_getElem?_getD,List.getElem?_eq_getElem hn]
 ·rw [List.getElem?_eq_none (by simpa using hn),List.getElem?_eq_none (by omega)];rfl
theorem xX {k:Int}{l:List GEntry}{i j:Nat}(hj:j<l.length):(aE k l i)[j]?=some (if j<i then eE (kE k l j) l[j] else l[j]):=by
 unfold aE
 rw [List.getElem?_map,List.getElem?_range hj]
 simp [List.getD_eq_getElem?_getD,List.getElem?_eq_getElem hj]
theorem Pe {k:Int}{l:List GEntry}{i:Nat}(hi:i<l.length):(aE k l i).set i (eE (kE k l i) l[i])=aE k l (i+1):=by
 apply List.ext_getElem?
 intro n
 rw [List.getElem?_set]
 by_cases hn:n<l.length
 ·rw [ux]
  by_cases h:i=n
  ·subst h;rw [if_pos rfl,if_pos hn,xX hn,if_pos (by omega)]
  ·rw [if_neg h,xX hn,xX hn]
   by_cases h2:n<i
   ·rw [if_pos h2,if_pos (by omega)]
   ·rw [if_neg h2,if_neg (by omega)]
 ·rw [List.getElem?_eq_none (show (aE k l (i+1)).length≤n by rw [ux];omega)]
  by_cases h:i=n
  ·omega
  ·rw [if_neg h,List.getElem?_eq_none (by rw [ux];omega)]
theorem zR {α:Type}{l:List α}{i:Nat}{x:α}(h:i<l.length):getI (l.set i x) (i:Int)=some x:=by
 rw [au (by simpa using h)]
 simp
theorem HB {α:Type}{l:List α}{i:Nat}{x:α}(h:l[i]?=some x):getI l (i:Int)=some x:=by
 obtain ⟨h1,h2⟩:=List.getElem?_eq_some_iff.1 h
 rw [au h1,h2]
theorem kE_b {k:Int}{l:List GEntry}(hf:∀ e,e∈l→FitE e):∀ i,i≤l.length→k≤kE k l i∧kE k l i≤k+3145730*(i:Int):=by
 intro i
 induction i with
 | zero=>intro _;cases l <;> exact ⟨Int.le_refl _,by show k≤_;omega⟩
 | succ i ih=>
  intro hi
  have h1:=ih (by omega)
  have h2:=hf _ (List.getElem_mem (show i<l.length by omega))
  have a:=h2.ties
  have b:=h2.nodes
  have c:=h2.values
  rw [yx k l i (by omega)]
  unfold szE
  omega
theorem DD (l:List GEntry)(k:Int)(hl:l.length≤1048576)(hf:∀ e,e∈l→FitE e)(h0:0≤k)(hk:k≤36028797018963968):je l k=some (kE k l l.length,aE k l l.length):=by
 unfold je
 have key:aq dw (kE k l 0,((0:Nat):Int),aE k l 0)=some (kE k l l.length,aE k l l.length):=by
  refine aG l.length (fun i=>(kE k l i,(i:Int),aE k l i)) ?_ ?_
  ·intro i hi
   have hE:=hf _ (List.getElem_mem hi)
   have a:=hE.ties
   have b:=hE.nodes
   have c:=hE.values
   have hb:=kE_b (k:=k) hf i (by omega)
   have hlen:=ux k l i
   unfold dw
   try simp only
   rw [if_pos (by omega),HB (xX hi),if_neg (Nat.lt_irrefl i)]
   simp only [obnd,Int.toNat_natCast]
   rw [zR (by omega)]
   simp only
   rw [wr (x:=kE k l i+1) (by omega) (by omega),gY _ _ a (by omega) (by omega)]
   simp only
   rw [an (oJ _ _),List.set_set,zR (by omega)]
   simp only
   rw [gY _ _ b (by omega) (by omega)]
   simp only
   rw [an (oJ _ _),List.set_set,zR (by omega)]
   simp only
   rw [gY _ _ c (by omega) (by omega)]
   simp only
   rw [an (oJ _ _),List.set_set,wr (x:=(i:Int)+1) (by omega) (by omega)]
   have e1:kE k l i+1+(l[i].ties.length:Int)+(l[i].nodes.length:Int)+(l[i].values.length:Int)=kE k l (i+1):=by
    rw [yx k l i hi];unfold szE;omega
   rw [e1,← Pe hi]
   rfl
  ·unfold dw
   try simp only
   rw [if_neg (by rw [ux];omega)]
 rw [Mn] at key
 have:kE k l 0=k:=by cases l <;> rfl
 rw [this] at key
 change obnd (aq dw (k,((0:Nat):Int),l)) _=_
 rw [key];rfl
theorem DE (l:List GEntry)(k:Int)(hl:l.length≤1048576)(hf:∀ e,e∈l→FitE e)(h0:0≤k)(hk:k≤36028797018963968):jg (aE k l l.length) k=some (kE k l l.length):=by
 unfold jg
 have hlen:=ux k l l.length
 have key:aq (dx (aE k l l.length)) (kE k l 0,((0:Nat):Int))=some (.inl (kE k l l.length)):=by
  refine aG l.length (fun i=>(kE k l i,(i:Int))) ?_ ?_
  ·intro i hi
   have hE:=hf _ (List.getElem_mem hi)
   have a:=hE.ties
   have b:=hE.nodes
   have c:=hE.values
   have hb:=kE_b (k:=k) hf i (by omega)
   unfold dx
   try simp only
   rw [if_pos (by omega),HB (xX hi),if_pos hi]
   simp only [obnd]
   rw [if_pos (show (eE (kE k l i) l[i]).now=kE k l i from rfl),wr (x:=kE k l i+1) (by omega) (by omega)]
   unfold eE
   simp only
   rw [nq _ _ a (by omega) (by omega)]
   simp only
   rw [if_neg (by omega),nq _ _ b (by omega) (by omega)]
   simp only
   rw [if_neg (by omega),nq _ _ c (by omega) (by omega)]
   simp only
   rw [if_neg (by omega),wr (x:=(i:Int)+1) (by omega) (by omega)]
   have e1:kE k l i+1+(l[i].ties.length:Int)+(l[i].nodes.length:Int)+(l[i].values.length:Int)=kE k l (i+1):=by
    rw [yx k l i hi];unfold szE;omega
   rw [e1];rfl
  ·unfold dx
   try simp only
   rw [if_neg (by omega)]
 have:kE k l 0=k:=by cases l <;> rfl
 rw [this] at key
 change obnd (aq (dx (aE k l l.length)) (k,((0:Nat):Int))) _=_
 rw [key];rfl
theorem vW (d:GDesk)(h:FitD d):∃ q,iI d 1=some q∧0≤q.1∧q.1≤9007199254740992∧q.2.1.length=d.show_.nodes.length∧q.2.2.1.length=d.show_.ties.length∧q.2.2.2.1.length=d.state.times.length ∧
  q.2.2.2.2.1.length=d.state.values.length∧q.2.2.2.2.2.length=d.log.length∧iJ ⟨⟨q.2.1,q.2.2.1,d.show_.horizon⟩,⟨d.state.now,q.2.2.2.1,q.2.2.2.2.1⟩,d.lazy,q.2.2.2.2.2⟩ 1=some q.1:=by
 obtain ⟨q',m1,m2,m3,m4,m5,m6⟩:=Dv d.show_ 1 h.sh (by omega) (by omega)
 obtain ⟨q2,n1,_,n3⟩:=IC d.show_ 1 h.sh (by omega) (by omega)
 rw [m1] at n1
 obtain rfl:=Option.some.inj n1
 have h1:=h.st.times
 have h2:=h.st.values
 have h3:=h.log
 unfold iI mF
 rw [m1]
 simp only [obnd]
 rw [gY d.state.times q'.1 h1 m2 (by omega)]
 simp only
 rw [gY d.state.values _ h2 (by omega) (by omega)]
 simp only
 rw [DD d.log _ h3 h.entry (by omega) (by omega)]
 have hb:=kE_b (k:=q'.1+(d.state.times.length:Int)+(d.state.values.length:Int)) h.entry d.log.length (Nat.le_refl _)
 refine ⟨_,rfl,by simp only;omega,by simp only;omega,m4,m5,oJ _ _,oJ _ _,ux _ _ _,?_⟩
 unfold iJ mG
 simp only [m6,obnd]
 rw [if_neg (by omega),nq _ _ h1 m2 (by omega)]
 simp only
 rw [if_neg (by omega),nq _ _ h2 (by omega) (by omega)]
 simp only
 rw [if_neg (by omega)]
 simp only
 rw [if_neg (by omega),DE d.log _ h3 h.entry (by omega) (by omega)]
 simp only
 rw [if_neg (by omega)]
end Go.Proofs.QW
set_option maxRecDepth 100000
namespace Go.Proofs.QW
open Go
noncomputable def ve (d:GDesk)(ties:List Int):Option (List Int):=nI d.lazy (decL d.show_ (endX d.show_ d.state ties)) (bD (win d.show_) d.show_ (endX d.show_ d.state ties))
theorem vf {lazy:Bool}{l:List (List Int)}{p:List Int→Bool}{nd:List Int}(h:nI lazy l p=some nd):nd∈l∧p nd=true:=by
 unfold nI at h
 split at h
 ·exact ⟨by simpa using List.mem_of_find?_eq_some h,List.find?_some h⟩
 ·exact ⟨List.mem_of_find?_eq_some h,List.find?_some h⟩
theorem DF (d:GDesk)(ties values:List Int)(hf:FitD d)(ht:ties.length≤1048576)(hv:values.length≤1048576):kG d ties values=some (pU d ties values 5 (ve d ties)):=by
 have hs:=hf.sh.small
 unfold kG
 rw [xW d ties values 5 d hf ht hv (ve d ties) (fun nd h=>(vf h).1) ?_]
 ·rfl
 ·intro h0
  obtain ⟨g1,_,g3,_⟩:=qI h0
  have hM:=mh (lf g1) g3
  have hl:=sA hM.right (endX d.show_ d.state ties)
  unfold ik ve
  cases hz:d.lazy
  ·simp only [Bool.false_eq_true,if_false]
   obtain ⟨k',_,e⟩:=Bv hs (y:=endX d.show_ d.state ties) (Hz hs _ (by have:=hM.now;omega)) hM (CQ d.show_)
   unfold oU
   rw [e]
   simp only [obnd]
   refine ⟨_,rfl,?_⟩
   unfold nI
   simp only [Bool.false_eq_true,if_false]
   cases (decL d.show_ (endX d.show_ d.state ties)).find? (bD (win d.show_) d.show_ (endX d.show_ d.state ties)) with
   | none=>exact ⟨rfl,fun nd h=>by cases h⟩
   | some nd=>exact ⟨rfl,fun nd' h=>by cases h;rfl⟩
  ·simp only [if_true]
   obtain ⟨k',_,e⟩:=Ld hs hM (CQ d.show_)
   rw [e]
   simp only [obnd]
   rw [Le _ _ _ hl]
   simp only
   refine ⟨_,rfl,?_⟩
   cases nI true (decL d.show_ (endX d.show_ d.state ties)) (bD (win d.show_) d.show_ (endX d.show_ d.state ties)) with
   | none=>exact ⟨rfl,fun nd h=>by cases h⟩
   | some nd=>exact ⟨rfl,fun nd' h=>by cases h;rfl⟩
theorem yP {s:GShow}{x:GState}(hs:aQ s)(hx:aF s x=true)(ties:List Int)(ht:ties.length≤1048576):cP s x ties=some (if ties∈bu s x then (endX s x ties,true) else (mf,false)):=by
 have hR:=bi hx
 have hv3:=(aW hR.val).1
 have hln:=hR.len
 have h7:=hR.right.nodes
 have hel:=tc (x:=x) hR.ok
 unfold cP
 rw [xP hs hx (by omega) (by omega)]
 simp only [obnd]
 rw [zO _ _ (by unfold Cnt;omega) (fun l hl=>by have:=(kc hR.ok hl).2.1;unfold Cnt;omega)]
 simp only
 by_cases hm:ties∈bu s x
 ·obtain ⟨a1,a2,a3⟩:=kc hR.ok hm
  rw [decide_eq_true hm,if_pos rfl,if_pos hm,xQ hx (by omega) (by omega) a3]
 ·rw [decide_eq_false hm,if_neg (by simp),if_neg hm];rfl
theorem GT (d:GDesk)(ties values:List Int)(hf:FitD d)(ht:ties.length≤1048576)(hvl:values.length≤1048576):kK d ties values=some (if bl d ties values=0 then (endX d.show_ d.state ties,0) else (mf,bl d ties values)):=by
 have hs:=hf.sh.small
 unfold kK
 rw [zk d hf]
 simp only [obnd]
 cases hd:la d
 ·have e:bl d ties values=1:=by unfold bl;rw [hd];rfl
  rw [e];rfl
 have hx:=lf hd
 have hR:=bi hx
 simp only [if_true]
 by_cases h3:values.length=3
 rotate_left
 ·have e:bl d ties values=1:=by unfold bl pmB;rw [hd,decide_eq_false h3];rfl
  rw [if_neg (by omega),e];rfl
 rw [if_pos (by omega)]
 have key:=gU (body:=eR ties values ((values.length:Nat):Int) d.show_.nodes d.show_.ties d.show_.horizon d.state.now d.state.times d.state.values d.lazy d.log) values (fun v=>decide (v=1) || decide (v=-1)) (fun i=>(i:Int)) (rT:=.inl ()) (rF:=.inr (GState.mk 0 [] [],1)) ?_ ?_ ?_
 ·rw [show ((0:Nat):Int)=0 from rfl] at key
  rw [key]
  simp only
  cases hp:pmB values
  ·have e:bl d ties values=1:=by unfold bl;rw [hd,hp];rfl
   have hall:values.all (fun v=>decide (v=1) || decide (v=-1))=false:=by unfold pmB at hp;rwa [decide_eq_true h3,Bool.true_and] at hp
   rw [hall,e];rfl
  have hall:values.all (fun v=>decide (v=1) || decide (v=-1))=true:=by unfold pmB at hp;rwa [decide_eq_true h3,Bool.true_and] at hp
  rw [hall]
  simp only [if_true]
  rw [xT hs hR]
  simp only
  cases hb:fg d.show_ d.state
  rotate_left
  ·have e:bl d ties values=2:=by unfold bl;rw [hd,hp,hb];rfl
   rw [e];rfl
  simp only [Bool.false_eq_true,if_false]
  rw [Bt hs hR]
  simp only
  cases ho:lb d.show_ d.state
  rotate_left
  ·have e:bl d ties values=2:=by unfold bl;rw [hd,hp,hb,ho];rfl
   rw [e];rfl
  simp only [Bool.false_eq_true,if_false]
  by_cases hh:d.show_.horizon<d.state.now
  ·have e:bl d ties values=2:=by unfold bl;rw [hd,hp,hb,ho,if_pos hh];rfl
   rw [if_pos hh,e];rfl
  rw [if_neg hh,yP hs hx ties ht]
  simp only
  by_cases hm:ties∈bu d.show_ d.state
  ·have e:bl d ties values=0:=by unfold bl;rw [hd,hp,hb,ho,if_neg hh,if_pos hm];rfl
   rw [if_pos hm,e];rfl
  ·have e:bl d ties values=3:=by unfold bl;rw [hd,hp,hb,ho,if_neg hh,if_neg hm];rfl
   rw [if_neg hm,e];rfl
 ·intro i hi hq
  unfold eR
  try simp only
  rw [if_pos (by omega),au hi]
  simp only [obnd]
  rw [wr (by omega) (by omega)]
  by_cases h1:values[i]=1
  ·rw [if_pos h1];rfl
  ·rw [if_neg h1,if_pos (by simpa [h1] using hq)];rfl
 ·intro i hi hq
  unfold eR
  try simp only
  rw [if_pos (by omega),au hi]
  simp only [obnd]
  rw [Bool.or_eq_false_iff,decide_eq_false_iff_not,decide_eq_false_iff_not] at hq
  rw [if_neg hq.1,if_neg hq.2]
 ·unfold eR
  try simp only
  rw [if_neg (by omega)]
theorem FT (d:GDesk)(ties values nd:List Int)(hf:FitD d)(ht:ties.length≤1048576)(h0:bl d ties values=0)(hn:nd∈decL d.show_ (endX d.show_ d.state ties)) :
  jV d ties (endX d.show_ d.state ties) nd values=some (finD d ties values nd):=by
 have hs:=hf.sh.small
 have hlog:=hf.log
 obtain ⟨g1,hp,g3,_⟩:=qI h0
 have hx:=lf g1
 have hR:=bi hx
 have hM:=mh hx g3
 have hv3:=(aW hR.val).1
 obtain ⟨p3,_⟩:=FR hp
 obtain ⟨n1,n2,n3⟩:=dh hM.right hn
 have hps:∀ p,p∈aA d.show_ nd→1≤p∧p≤3:=fun p hp=>⟨(bE hp).1,(bE hp).2.1⟩
 have hpl:=nZ d.show_ nd
 unfold jV
 rw [tL d hf]
 simp only [obnd]
 rw [uw hs hM n2 n3]
 simp only
 have key:aq (gu ties nd values (((aA d.show_ nd).length:Nat):Int) (endX d.show_ d.state ties).now (endX d.show_ d.state ties).times (endX d.show_ d.state ties).values d.show_.horizon d.state.now d.lazy (decX (endX d.show_ d.state ties) nd).now d.show_.nodes d.show_.ties d.state.times d.state.values d.log (decX (endX d.show_ d.state ties) nd).times (decX (endX d.show_ d.state ties) nd).values (aA d.show_ nd)) (((0:Nat):Int),cJ values ((aA d.show_ nd).take 0),litL values ((aA d.show_ nd).take 0))=some (cJ values (aA d.show_ nd),litL values (aA d.show_ nd)):=by
  refine aG (aA d.show_ nd).length (fun i=>((i:Int),cJ values ((aA d.show_ nd).take i),litL values ((aA d.show_ nd).take i))) ?_ ?_
  ·intro i hi
   have hb:=hps _ (List.getElem_mem hi)
   have htm:=IR hp (k:=(aA d.show_ nd)[i] - 1) (by omega) (by omega)
   have hsl:(cJ values ((aA d.show_ nd).take i)).length≤3:=by unfold cJ;rw [List.length_map,List.length_take];omega
   have hll:(litL values ((aA d.show_ nd).take i)).length≤3:=by unfold litL;rw [List.length_map,List.length_take];omega
   unfold gu
   try simp only
   rw [if_pos (by omega),au hi]
   simp only [obnd]
   rw [wr (x:=(aA d.show_ nd)[i] - 1) (by omega) (by omega),bv (by omega) (by omega)]
   simp only
   rw [an (by omega),an (by omega),an (by omega),an (by omega),wr (x:=(i:Int)+1) (by omega) (by omega),wr (x:=(aA d.show_ nd)[i]*tm values ((aA d.show_ nd)[i] - 1)) (by rcases htm with h | h <;> rw [h] <;> omega) (by rcases htm with h | h <;> rw [h] <;> omega)]
   have e1:cJ values ((aA d.show_ nd).take (i+1))=cJ values ((aA d.show_ nd).take i)++[tm values ((aA d.show_ nd)[i] - 1)]:=by
    unfold cJ;rw [List.take_succ_eq_append_getElem hi,List.map_append];rfl
   have e2:litL values ((aA d.show_ nd).take (i+1))=litL values ((aA d.show_ nd).take i)++[(aA d.show_ nd)[i]*tm values ((aA d.show_ nd)[i] - 1)]:=by
    unfold litL;rw [List.take_succ_eq_append_getElem hi,List.map_append];rfl
   rw [e1,e2];rfl
  ·unfold gu
   try simp only
   rw [if_neg (by omega),List.take_length]
 simp only [Int.natCast_zero,List.take_zero] at key
 rw [show cJ values []=[] from rfl,show litL values []=[] from rfl] at key
 rw [key]
 simp only
 obtain ⟨s1,s2⟩:=wG hp hps
 have hnow:=hR.now
 have hhor:=hR.right.hor
 have hln:=hM.len
 have h7:=hM.right.nodes
 rw [an (by omega),an (by omega),an (by omega),an (by omega),an (by omega),an (by omega),(np (decX (endX d.show_ d.state ties) nd) (aA d.show_ nd) (cJ values (aA d.show_ nd)) (by show 0≤d.state.now∧d.state.now≤1000;omega) (by show (bb _ _ _ _).length≤_;rw [bZ];omega) hv3 hps s1 (by omega)).2]
 rfl
theorem FU (d:GDesk)(y:GState)(without:Int)(hf:FitD d)(hM:MomR d.show_ y):jU d y without=some (match nI d.lazy (decL d.show_ y) (fun nd=>!decide (without∈nd)&&bD (win d.show_) d.show_ y nd) with | some nd=>(nd,true) | none=>([],false)):=by
 have hs:=hf.sh.small
 have hl:=sA hM.right y
 unfold jU
 rw [vS hs hM]
 simp only [obnd]
 have hlen:∀ {nd},nd∈decL d.show_ y→nd.length≤7:=fun h=>(dh hM.right h).2.1
 have e0:nI d.lazy (decL d.show_ y) (fun nd=>!decide (without∈nd)&&bD (win d.show_) d.show_ y nd)=(if d.lazy=true then (decL d.show_ y).reverse else decL d.show_ y).find? (fun nd=>!decide (without∈nd)&&bD (win d.show_) d.show_ y nd):=by
  unfold nI;split <;> rfl
 rw [e0]
 generalize hpd:(fun nd=>!decide (without∈nd)&&bD (win d.show_) d.show_ y nd)=p
 have hp0:∀ nd,p nd=(!decide (without∈nd)&&bD (win d.show_) d.show_ y nd):=fun nd=>by rw [← hpd]
 clear hpd
 generalize hL:(if d.lazy=true then (decL d.show_ y).reverse else decL d.show_ y)=L
 have hel:L.length=(decL d.show_ y).length:=by rw [← hL];split <;> simp
 have g1:d.lazy=false→∀ i (hi:i<L.length),L[i]=(decL d.show_ y)[i]'(by omega):=by
  intro hz i hi
  subst hL
  simp [hz]
 have g2:d.lazy=true→∀ i (hi:i<L.length),L[i]=(decL d.show_ y)[(decL d.show_ y).length - 1 - i]'(by omega):=by
  intro hz i hi
  subst hL
  simp [hz]
 clear hL
 have step:∀ i (hi:i<L.length),dT without (((decL d.show_ y).length:Nat):Int) d.show_.nodes d.show_.ties d.show_.horizon d.state.now d.state.times d.state.values d.lazy d.log y.now y.times y.values (decL d.show_ y) (i:Int)=(if p L[i]=true then some (.done (.inr (L[i],true))) else some (.next ((i:Int)+1))):=by
  intro i hi
  rw [hel] at hi
  unfold dT
  try simp only
  rw [if_pos (by omega),au hi]
  simp only [obnd]
  rw [wr (x:=(i:Int)+1) (by omega) (by omega)]
  cases hz:d.lazy
  ·simp only [Bool.false_eq_true,if_false]
   rw [g1 hz i (by omega),hp0]
   have hmem:=List.getElem_mem hi
   have h7:=hlen hmem
   rw [ob _ _ (by unfold Cnt;omega)]
   simp only
   by_cases hw:without∈(decL d.show_ y)[i]
   ·rw [decide_eq_true hw];rfl
   ·rw [decide_eq_false hw]
    simp only [Bool.false_eq_true,if_false,Bool.not_false,Bool.true_and]
    rw [show (GShow.mk d.show_.nodes d.show_.ties d.show_.horizon)=d.show_ from rfl,show (GState.mk y.now y.times y.values)=y from rfl,Bw hs hM hmem]
    simp only
    rw [an (by omega),an (by omega)]
  ·simp only [if_true]
   have hj:(decL d.show_ y).length - 1 - i<(decL d.show_ y).length:=by omega
   rw [wr (x:=(((decL d.show_ y).length:Nat):Int) - 1) (by omega) (by omega),wr (by omega) (by omega),show (((decL d.show_ y).length:Nat):Int) - 1 - (i:Int)=(((decL d.show_ y).length - 1 - i:Nat):Int) by omega,au hj]
   simp only
   rw [g2 hz i (by omega),hp0]
   have hmem:=List.getElem_mem hj
   have h7:=hlen hmem
   rw [ob _ _ (by unfold Cnt;omega)]
   simp only
   by_cases hw:without∈(decL d.show_ y)[(decL d.show_ y).length - 1 - i]
   ·rw [decide_eq_true hw];rfl
   ·rw [decide_eq_false hw]
    simp only [Bool.false_eq_true,if_false,Bool.not_false,Bool.true_and]
    rw [show (GShow.mk d.show_.nodes d.show_.ties d.show_.horizon)=d.show_ from rfl,show (GState.mk y.now y.times y.values)=y from rfl,Bw hs hM hmem]
    simp only
    rw [an (by omega),an (by omega)]
 have key:=cN (body:=dT without (((decL d.show_ y).length:Nat):Int) d.show_.nodes d.show_.ties d.show_.horizon d.state.now d.state.times d.state.values d.lazy d.log y.now y.times y.values (decL d.show_ y)) (s0:=(0:Int)) L.length
  (fun (i:Nat) (st:Int)=>st=(i:Int)∧∀ j (hj:j<L.length),j<i→p L[j]=false)
  (fun r=>r=(match L.find? p with | some nd=>.inr (nd,true) | none=>.inl ())) ⟨rfl,fun j _ h=>absurd h (by omega)⟩ ?_ ?_
 ·obtain ⟨r,hr,hp1⟩:=key
  rw [hr,hp1]
  cases L.find? p <;> rfl
 ·rintro i a hi ⟨rfl,hall⟩
  rw [step i hi]
  cases hq:p L[i]
  ·left
   refine ⟨_,if_neg (by simp),rfl,fun j hj hlt=>?_⟩
   rcases Nat.lt_or_ge j i with h | h
   ·exact hall j hj h
   ·obtain rfl:j=i:=by omega
    exact hq
  ·right
   refine ⟨_,if_pos rfl,?_⟩
   have:L.find? p=some L[i]:=by
    rw [List.find?_eq_some_iff_getElem]
    exact ⟨hq,i,hi,rfl,fun j hj=>by have h:=hall j (by omega) hj;show (!_)=true;rw [h];rfl⟩
   rw [this]
 ·rintro a ⟨rfl,hall⟩
  refine ⟨.inl (),?_,?_⟩
  ·unfold dT
   try simp only
   rw [if_neg (by rw [hel];omega)]
  ·have:L.find? p=none:=by
    rw [List.find?_eq_none]
    intro x hx
    obtain ⟨j,hj,rfl⟩:=List.getElem_of_mem hx
    have h:=hall j hj hj
    rw [h];simp
   rw [this]
theorem GU {lazy:Bool}{l:List (List Int)}{p q:List Int→Bool}(h:∀ nd,nd∈l→p nd=q nd):nI lazy l p=nI lazy l q:=by
 have key:∀ l:List (List Int),(∀ nd,nd∈l→p nd=q nd)→l.find? p=l.find? q:=by
  intro l
  induction l with
  | nil=>intro _;rfl
  | cons a l ih=>
   intro h
   simp only [List.find?_cons]
   rw [h a (by simp),ih (fun nd hn=>h nd (by simp [hn]))]
 unfold nI
 rw [key l h,key l.reverse (fun nd hn=>h nd (by simpa using hn))]
theorem DG (d:GDesk)(ties values:List Int)(hf:FitD d)(ht:ties.length≤1048576)(hv:values.length≤1048576):kP d ties values=some (pU d ties values 5 (ve d ties)):=by
 unfold kP pU
 rw [GT d ties values hf ht hv]
 simp only [obnd]
 by_cases h0:bl d ties values=0
 ·obtain ⟨g1,_,g3,_⟩:=qI h0
  have hM:=mh (lf g1) g3
  rw [if_pos h0,if_pos h0]
  simp only [if_true]
  rw [FU d _ _ hf hM]
  have hc:nI d.lazy (decL d.show_ (endX d.show_ d.state ties)) (fun nd=>!decide ((-1:Int)∈nd)&&bD (win d.show_) d.show_ (endX d.show_ d.state ties) nd)=ve d ties:=by
   refine GU ?_
   intro nd hnd
   have:¬ (-1:Int)∈nd:=by
    intro hm
    obtain ⟨i,_,e,_⟩:=oH ((dh hM.right hnd).2.2 _ hm)
    omega
   rw [decide_eq_false this];rfl
  rw [hc]
  cases hpk:ve d ties with
  | none=>
   simp only [Bool.false_eq_true,if_false]
   rw [tL d hf]
  | some nd=>
   simp only [if_true]
   rw [FT d ties values nd hf ht h0 (vf hpk).1]
 ·rw [if_neg h0,if_neg h0]
  simp only
  rw [if_neg h0,tL d hf]
theorem JZ (d:GDesk)(ties values:List Int)(refused:Int)(c:Option (List Int))(hf:FitD d)(ht:ties.length≤1048576)(hc:bl d ties values=0→∀ nd,c=some nd→nd∈decL d.show_ (endX d.show_ d.state ties)) :
  FitD (pU d ties values refused c).1∧(pU d ties values refused c).2.1.length≤7:=by
 unfold pU
 by_cases h0:bl d ties values=0
 ·rw [if_pos h0]
  cases c with
  | none=>exact ⟨hf,by simp⟩
  | some nd=>
   obtain ⟨g1,hp,g3,_⟩:=qI h0
   have hx:=lf g1
   have hR:=bi hx
   have hM:=mh hx g3
   have hnd:=hc h0 nd rfl
   obtain ⟨n1,n2,n3⟩:=dh hM.right hnd
   have hlog:(d.log.length:Int)=d.state.now:=by
    unfold la at g1
    simp only [Bool.and_eq_true,decide_eq_true_eq] at g1
    exact g1.1.1.2
   have hnow:=hR.now
   have hhor:=hR.right.hor
   have hln:=hM.len
   have h7:=hM.right.nodes
   have hv3:=(aW hR.val).1
   have hpl:=nZ d.show_ nd
   refine ⟨⟨hf.sh,⟨?_,?_⟩,?_,?_⟩,n2⟩
   ·show (bb _ _ _ _).length≤_
    rw [bZ];omega
   ·show (setV _ _ _ _).length≤_
    rw [pY]
    show d.state.values.length≤_
    omega
   ·show (d.log++[_]).length≤_
    rw [List.length_append];simp;omega
   ·intro e he
    have he':e∈d.log++[⟨d.state.now,ties,nd,litL values (aA d.show_ nd)⟩]:=he
    rw [List.mem_append,List.mem_singleton] at he'
    rcases he' with he' | rfl
    ·exact hf.entry e he'
    ·exact ⟨ht,by show nd.length≤_;omega,by show (litL _ _).length≤_;unfold litL;rw [List.length_map];omega⟩
 ·rw [if_neg h0]
  exact ⟨hf,by simp⟩
end Go.Proofs.QW
set_option maxRecDepth 100000
namespace Go.Proofs.QW
open Go
end Go.Proofs.QW
set_option maxRecDepth 100000
set_option maxHeartbeats 1000000
namespace Go.Proofs.QW
open Go
noncomputable def bO (c:GChoice)(d:GDesk):GDesk × List Int × Int:=pU d (endL d.show_ d.state c) c.values 5 (ve d (endL d.show_ d.state c))
noncomputable def runF (c:GChoice):Nat→GDesk→GDesk × Int
 | 0,d=>(d,0)
 | n+1,d=>if (bO c d).2.2=0 then runF c n (bO c d).1 else (d,(bO c d).2.2)
noncomputable def runR (d:GDesk)(c:GChoice):GDesk × Int:=if la d=true then (if dF d.show_ c=true then runF c 13 d else (d,1)) else (d,1)
def tupD (d:GDesk):Int × Int × Bool × (List GNode) × (List GTie) × (List Int) × (List Int) × (List GEntry):=(d.show_.horizon,d.state.now,d.lazy,d.show_.nodes,d.show_.ties,d.state.times,d.state.values,d.log)
theorem xc {s:GShow}{c:GChoice}(h:dF s c=true):c.values.length=3:=by
 unfold dF at h
 simp only [Bool.and_eq_true,decide_eq_true_eq] at h
 exact h.1.1.2
theorem IS {d:GDesk}{ties values:List Int}{c:Option (List Int)}(h:(pU d ties values 5 c).2.2=0):bl d ties values=0∧∃ nd,c=some nd∧pU d ties values 5 c=(finD d ties values nd,nd,0):=by
 unfold pU at h ⊢
 by_cases h0:bl d ties values=0
 ·rw [if_pos h0] at h ⊢
  cases c with
  | none=>exact absurd h (by simp)
  | some nd=>exact ⟨h0,nd,rfl,rfl⟩
 ·rw [if_neg h0] at h
  exact absurd h h0
theorem Pf {d:GDesk}{ties values nd:List Int}(h0:bl d ties values=0)(hn:nd∈decL d.show_ (endX d.show_ d.state ties)):aF d.show_ (finD d ties values nd).state=true:=by
 obtain ⟨g1,hp,g3,_⟩:=qI h0
 have hM:=mh (lf g1) g3
 obtain ⟨_,_,hm⟩:=dh hM.right hn
 obtain ⟨s1,s2⟩:=wG (values:=values) (ps:=aA d.show_ nd) hp (fun p h=>⟨(bE h).1,(bE h).2.1⟩)
 exact vU hM hm s1 s2
theorem FV {c:GChoice}{d:GDesk}(hf:FitD d)(h:(bO c d).2.2=0) :
  FitD (bO c d).1∧(bO c d).1.show_=d.show_∧aF d.show_ (bO c d).1.state=true∧(bO c d).1.state.now=d.state.now+1:=by
 unfold bO at h ⊢
 obtain ⟨h0,nd,hc,he⟩:=IS h
 have hl:=zL d.show_ d.state c hf.sh.ties
 have hnd:nd∈decL d.show_ (endX d.show_ d.state (endL d.show_ d.state c)):=(vf hc).1
 have hfit:=(JZ d (endL d.show_ d.state c) c.values 5 (ve d (endL d.show_ d.state c)) hf hl (fun _ nd h=>(vf h).1)).1
 rw [he] at hfit ⊢
 exact ⟨hfit,rfl,Pf h0 hnd,rfl⟩
theorem HC (c:GChoice)(body:(Int × Int × Bool × (List GNode) × (List GTie) × (List Int) × (List Int) × (List GEntry))→Option (Step (Int × Int × Bool × (List GNode) × (List GTie) × (List Int) × (List Int) × (List GEntry)) (GDesk × Int)))
  (hb:∀ d,FitD d→aF d.show_ d.state=true→dF d.show_ c=true→body (tupD d)=some (if (bO c d).2.2=0 then .next (tupD (bO c d).1) else .done (d,(bO c d).2.2))) :
  ∀ (n:Nat) (d:GDesk),FitD d→aF d.show_ d.state=true→dF d.show_ c=true→12<(n:Int)+d.state.now→aq body (tupD d)=some (runF c n d):=by
 intro n
 induction n with
 | zero=>
  intro d hf hx hc h
  have:=(bi hx).now
  have:=(bi hx).right.hor
  omega
 | succ n ih=>
  intro d hf hx hc h
  rw [aT,hb d hf hx hc]
  show _=some (if (bO c d).2.2=0 then runF c n (bO c d).1 else (d,(bO c d).2.2))
  by_cases h0:(bO c d).2.2=0
  ·obtain ⟨f1,f2,f3,f4⟩:=FV hf h0
   rw [if_pos h0,if_pos h0]
   exact ih _ f1 (by rw [f2];exact f3) (by rw [f2];exact hc) (by rw [f4];omega)
  ·rw [if_neg h0,if_neg h0]
theorem FW (d:GDesk)(c:GChoice)(hf:FitD d):jB d c=some (runR d c):=by
 unfold jB runR
 rw [zp d hf]
 simp only [obnd]
 rw [zj d hf]
 simp only
 cases hD:la d
 ·rw [if_neg (by simp),if_neg (by simp)]
 ·have hx:=lf hD
  rw [if_pos rfl,if_pos rfl,zf d.show_ c hf.sh.small (bi hx).right hf.sh.ties]
  simp only
  cases hC:dF d.show_ c
  ·rw [if_neg (by simp),if_neg (by simp)]
  ·rw [if_pos rfl,if_pos rfl]
   have hn:=(bi hx).now
   have key:=HC c (lx c.lengths c.values) (by
    intro d hf hx hc
    have hl:=zL d.show_ d.state c hf.sh.ties
    have hv:=xc hc
    unfold lx tupD
    simp only
    rw [show (GShow.mk d.show_.nodes d.show_.ties d.show_.horizon)=d.show_ from rfl,show (GState.mk d.state.now d.state.times d.state.values)=d.state from rfl,show (GChoice.mk c.lengths c.values)=c from rfl,show (GDesk.mk d.show_ d.state d.lazy d.log)=d from rfl]
    rw [Ch d.show_ d.state c hf.sh hf.st]
    simp only [obnd]
    rw [DF d _ c.values hf hl (by omega)]
    simp only
    show (if (bO c d).2.2=0 then _ else _)=_
    by_cases h0:(bO c d).2.2=0
    ·rw [if_pos h0,if_pos h0];rfl
    ·rw [if_neg h0,if_neg h0];rfl) 13 d hf hx hC (by omega)
   unfold tupD at key
   rw [key]
theorem FX (d:GDesk)(c:GChoice)(hf:FitD d):lV d c=some (runR d c):=by
 unfold lV runR
 rw [tL d hf]
 simp only [obnd]
 rw [zk d hf]
 simp only
 cases hD:la d
 ·rw [if_neg (by simp),if_neg (by simp)]
 ·have hx:=lf hD
  have hShow:bk d.show_=true:=by
   have h2:=hx
   unfold aF at h2
   simp only [Bool.and_eq_true] at h2
   exact h2.1.1.1.1.1
  rw [if_pos rfl,if_pos rfl,Dy d.show_ c hf.sh.small hShow hf.sh.ties]
  simp only
  cases hC:dF d.show_ c
  ·rw [if_neg (by simp),if_neg (by simp)]
  ·rw [if_pos rfl,if_pos rfl]
   have hn:=(bi hx).now
   have key:=HC c (ly c.lengths c.values) (by
    intro d hf hx hc
    have hl:=zL d.show_ d.state c hf.sh.ties
    have hv:=xc hc
    unfold ly tupD
    simp only
    rw [show (GShow.mk d.show_.nodes d.show_.ties d.show_.horizon)=d.show_ from rfl,show (GState.mk d.state.now d.state.times d.state.values)=d.state from rfl,show (GChoice.mk c.lengths c.values)=c from rfl,show (GDesk.mk d.show_ d.state d.lazy d.log)=d from rfl]
    rw [Fy d.show_ d.state c hf.sh hf.st hx hc]
    simp only [obnd]
    rw [DG d _ c.values hf hl (by omega)]
    simp only
    show (if (bO c d).2.2=0 then _ else _)=_
    by_cases h0:(bO c d).2.2=0
    ·rw [if_pos h0,if_pos h0];rfl
    ·rw [if_neg h0,if_neg h0];rfl) 13 d hf hx hC (by omega)
   unfold tupD at key
   rw [key]
theorem FY (c:GChoice):∀ (n:Nat) (d:GDesk),FitD d→FitD (runF c n d).1∧(runF c n d).1.show_=d.show_
 | 0,d,hf=>⟨hf,rfl⟩
 | n+1,d,hf=>by
  show FitD (if (bO c d).2.2=0 then runF c n (bO c d).1 else (d,(bO c d).2.2)).1∧(if (bO c d).2.2=0 then runF c n (bO c d).1 else (d,(bO c d).2.2)).1.show_=d.show_
  by_cases h0:(bO c d).2.2=0
  ·obtain ⟨f1,f2,f3,f4⟩:=FV hf h0
   rw [if_pos h0]
   obtain ⟨g1,g2⟩:=FY c n _ f1
   exact ⟨g1,by rw [g2,f2]⟩
  ·rw [if_neg h0]
   exact ⟨hf,rfl⟩
theorem Lf (d:GDesk)(c:GChoice)(hf:FitD d):FitD (runR d c).1∧(runR d c).1.show_=d.show_:=by
 unfold runR
 split
 ·split
  ·exact FY c 13 d hf
  ·exact ⟨hf,rfl⟩
 ·exact ⟨hf,rfl⟩
end Go.Proofs.QW
set_option maxRecDepth 100000
set_option maxHeartbeats 1000000
namespace Go.Proofs.QW
open Go
theorem GV (d:GDesk)(c:GChoice)(b1:BdD d)(b2:BdC c):iK d c=some true:=by
 unfold iK
 obtain ⟨r1,e1,h1⟩:=JL (l:=1048576) (by omega) (by omega) b1
 rw [e1];simp only [obnd]
 rcases h1 with h1 | ⟨hf,h1,h1'⟩
 ·rw [if_pos h1]
 obtain ⟨r2,e2,h2⟩:=GL (l:=r1) (by omega) (by omega) b2
 rw [if_neg (by omega),e2];simp only
 rcases h2 with h2 | ⟨h2,h2',fc⟩
 ·rw [if_pos h2]
 rw [if_neg (by omega),JK d hf];simp only
 rw [GK c fc];simp only
 rw [FX d c hf];simp only
 rw [FW d c hf];simp only
 have f1:=(Lf d c hf).1
 generalize runR d c=p at f1 ⊢
 obtain ⟨g,n⟩:=p
 simp only at f1 ⊢
 rw [zd g f1];simp only [if_true]
 rw [zd d hf];simp only [if_true]
 rw [Dz c fc];simp only [if_true]
 obtain ⟨q0,m0,m1,m2,_⟩:=vW d hf
 rw [m0];simp only
 obtain ⟨q1,m3,m4⟩:=DA c q0.1 fc m1 (by omega)
 rw [m3];simp only
 rw [if_neg (by omega)]
 obtain ⟨q,n0,n1,n2,n3,n4,n5,n6,n7,n8⟩:=vW g f1
 rw [n0];simp only
 rw [an (by omega),an (by omega),an (by omega),an (by omega),an (by omega),List.take_of_length_le (by omega),List.take_of_length_le (by omega),List.take_of_length_le (by omega),List.take_of_length_le (by omega),List.take_of_length_le (by omega),n8]
 simp only
 rw [if_neg (by omega)]
 simp only [if_true]
 rw [if_neg (by omega)]
end Go.Proofs.QW
set_option maxRecDepth 100000
set_option maxHeartbeats 1000000
namespace Go.Proofs.QW
open Go
end Go.Proofs.QW
