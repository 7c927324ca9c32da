/- The reference's game reckons winning too. Own work. -/
import Derived.Test.YtghfphjfkdbpjaaGreatDP33
import Derived.Test.YtghfphjfkdbpjaaGreatDP24
set_option linter.all false
set_option maxRecDepth 100000
namespace Go.Proofs.QD
open Go
abbrev RecS:=GShow→GState→Option Bool
def xW (s:GShow)(t:Int)(rec:RecS):Prop:=∀ x,aD s x=true→x.now=t→rec s x=some (win s x)
theorem xX {s:GShow}(hs:aP s){rec:RecS}{y:GState}(hr:xW s (y.now+1) rec)(h:MomR s y){nodes:List Int}(hn:nodes∈decL s y):gK rec s y nodes=some (bk (win s) s y nodes):=by
 obtain ⟨ha,hl7,hm⟩:=bZ h.right hn
 have hv:=(aS h.val).1
 have h7:=h.right.nodes
 have hln:=h.len
 have hnow:=h.now
 have hh:=h.right.hor
 have hp:∀ p,p∈aA s nodes→1≤p∧p≤3:=fun p hp=>⟨(bf hp).1,(bf hp).2.1⟩
 have hl3:=kI s nodes
 have ho:=FQ (ps:=aA s nodes) (by omega)
 unfold gK
 rw [uJ hs h hl7 hm]
 simp only [obnd]
 rw [xm (vm s nodes) hp hl3]
 simp only
 have key:=fb (body:=iO rec (((obsL (aA s nodes)).length:Nat):Int) s.nodes s.ties s.horizon (decX y nodes).now (decX y nodes).times (decX y nodes).values (aA s nodes) (obsL (aA s nodes)))
  (obsL (aA s nodes)) (fun vs=>win s (obsX (decX y nodes) (aA s nodes) vs)) (fun i=>(i:Int)) (rT:=.inl ()) (rF:=.inr false) ?_ ?_ ?_
 ·rw [show ((0:Nat):Int)=0 from rfl] at key
  rw [key]
  unfold bk
  cases (obsL (aA s nodes)).all (fun vs=>win s (obsX (decX y nodes) (aA s nodes) vs)) <;> rfl
 all_goals first
  | (
   intro i hi hq
   obtain ⟨h1,h2⟩:=tN (List.getElem_mem hi)
   have hob:=we h hm h1 h2
   have e:=hr _ hob rfl
   unfold iO
   try simp only
   rw [if_pos (by omega),az hi]
   simp only [obnd]
   rw [show (GState.mk (decX y nodes).now (decX y nodes).times (decX y nodes).values)=decX y nodes from rfl,(kP (decX y nodes) (aA s nodes) _ (by show 0≤y.now∧y.now≤1000;omega) (by show (aY _ _ _ _).length≤_;rw [bL];omega) hv hp h1 (by omega)).2]
   simp only
   rw [show (GShow.mk s.nodes s.ties s.horizon)=s from rfl,e,hq]
   first | rfl | (simp only [if_true];rw [wr (by omega) (by omega)];rfl))
  | (
   unfold iO
   try simp only
   rw [if_neg (by omega)])
theorem KQ {s:GShow}(hs:aP s){rec:RecS}{y:GState}(hr:xW s (y.now+1) rec)(h:MomR s y):kA rec s y=some (anyB (win s) s y):=by
 have h7:=wb h.right y
 have hpow:=oQ h7
 have hpos:0<2^(enL s y).length:=Nat.pow_pos (by omega)
 unfold kA
 rw [xe hs h]
 simp only [obnd]
 rw [wru (by omega),ao (by omega),Int.toNat_natCast,lE h7,wr (by omega) (by omega)]
 have hlen:(decL s y).length=2^(enL s y).length:=by unfold decL;simp
 have hget:∀ j (hj:j<(decL s y).length),(decL s y)[j]=la s y j:=by
  intro j hj
  have:(decL s y)[j]?=some (la s y j):=by
   unfold decL
   rw [List.getElem?_map,List.getElem?_range (by omega)];rfl
  rw [List.getElem?_eq_getElem hj] at this
  exact Option.some.inj this
 have key:=jc (body:=gL rec s.nodes s.ties s.horizon y.now y.times y.values (enL s y)) (decL s y) (bk (win s) s y) (fun j=>((2^(enL s y).length:Nat):Int) - 1 - (j:Int)) (rT:=.inl ()) (fun _=>.inr true) ?_ ?_ ?_
 ·simp only [Int.natCast_zero,Int.sub_zero] at key
  rw [key]
  unfold anyB
  have hany:(decL s y).any (bk (win s) s y)=((decL s y).findIdx? (bk (win s) s y)).isSome:=(List.findIdx?_isSome).symm
  rw [hany]
  cases (decL s y).findIdx? (bk (win s) s y) <;> rfl
 ·intro j hj hq
  have hmem:=List.getElem_mem hj
  have e:=xX hs hr h hmem
  rw [hget j hj] at e hq
  have hd:la s y j=sel (cf (((2^(enL s y).length:Nat):Int) - 1 - (j:Int))) (enL s y) (enL s y).length:=by
   unfold la
   rw [show ((2^(enL s y).length - 1 - j:Nat):Int)=((2^(enL s y).length:Nat):Int) - 1 - (j:Int) by omega]
  unfold gL
  try simp only
  rw [if_pos (by omega),qT _ _ (by omega),← hd]
  simp only [obnd]
  rw [show (GShow.mk s.nodes s.ties s.horizon)=s from rfl,show (GState.mk y.now y.times y.values)=y from rfl,e,hq]
  simp only [Bool.false_eq_true,if_false]
  rw [wr (by omega) (by omega)]
  congr 2
  omega
 ·intro j hj hq
  have hmem:=List.getElem_mem hj
  have e:=xX hs hr h hmem
  rw [hget j hj] at e hq
  have hd:la s y j=sel (cf (((2^(enL s y).length:Nat):Int) - 1 - (j:Int))) (enL s y) (enL s y).length:=by
   unfold la
   rw [show ((2^(enL s y).length - 1 - j:Nat):Int)=((2^(enL s y).length:Nat):Int) - 1 - (j:Int) by omega]
  unfold gL
  try simp only
  rw [if_pos (by omega),qT _ _ (by omega),← hd]
  simp only [obnd]
  rw [show (GShow.mk s.nodes s.ties s.horizon)=s from rfl,show (GState.mk y.now y.times y.values)=y from rfl,e,hq]
  rfl
 ·unfold gL
  try simp only
  rw [if_neg (by omega)]
theorem DO {s:GShow}(hs:aP s){rec:RecS}{x:GState}(hx:aD s x=true)(hr:xW s (x.now+1) rec):kB rec s x=some (win s x):=by
 have hR:=bj hx
 have hv:=(aS hR.val).1
 have h6:=tT hR.ok x
 have hmm:=uE s x
 have hpow:=oQ (m:=(mayL s x).length) (by omega)
 unfold kB
 rw [xV hs hR]
 simp only [obnd]
 have hw:=FT hx
 unfold lF at hw
 cases hb:cJ s x
 ·rw [hb] at hw
  simp only [Bool.false_eq_true,if_false] at hw ⊢
  rw [Bw hs hR]
  simp only
  cases ho:gS s x
  ·rw [ho] at hw
   simp only [Bool.false_eq_true,if_false] at hw ⊢
   obtain ⟨b,eb,hbw⟩:=GQ hs hx
   rw [eb]
   simp only
   cases b
   ·simp only [Bool.false_eq_true,if_false]
    rw [xc hx]
    simp only
    have hh:x.now≤s.horizon:=by
     unfold cJ at hb
     rw [Bool.or_eq_false_iff,ho] at hb
     have:=hb.2
     simp only [Bool.not_false,Bool.and_true,decide_eq_false_iff_not] at this
     omega
    have hends:aR s x=(List.range (2^(mayL s x).length)).map (kH s x):=by unfold aR;rw [if_neg (by omega)]
    have hlen:(aR s x).length=2^(mayL s x).length:=by rw [hends];simp
    have hget:∀ j (hj:j<(aR s x).length),(aR s x)[j]=kH s x j:=by
     intro j hj
     have:(aR s x)[j]?=some (kH s x j):=by
      rw [hends,List.getElem?_map,List.getElem?_range (by omega)];rfl
     rw [List.getElem?_eq_getElem hj] at this
     exact Option.some.inj this
    have step:∀ j (hj:j<(aR s x).length),gM rec s.nodes s.ties s.horizon x.now x.times x.values (kG s x) (mayL s x) (j:Int)=(if anyB (win s) s (endX s x (aR s x)[j])=true then some (.next ((j:Int)+1)) else some (.done (.inr false))):=by
     intro j hj
     have hmem:=List.getElem_mem hj
     obtain ⟨a1,a2,a3⟩:=fq hR.ok hmem
     have hM:=iA hx hmem
     have e:=KQ hs (y:=endX s x (aR s x)[j]) hr hM
     obtain ⟨f1,f2,f3,f4,f5,f6⟩:=sf hR.ok x j
     rw [hget j hj] at e a2 a3 ⊢
     unfold gM
     try simp only
     rw [wru (by omega),ao (by omega),Int.toNat_natCast,lE (by omega),if_pos (by omega),qT _ _ (by omega)]
     simp only [obnd]
     rw [f2]
     simp only
     rw [show (GShow.mk s.nodes s.ties s.horizon)=s from rfl,show (GState.mk x.now x.times x.values)=x from rfl,xT hx (by omega) (by omega) a3]
     simp only
     rw [e]
     simp only
     rw [wr (by omega) (by omega)]
    have key:=fb (body:=gM rec s.nodes s.ties s.horizon x.now x.times x.values (kG s x) (mayL s x)) (aR s x) (fun ties=>anyB (win s) s (endX s x ties)) (fun i=>(i:Int)) (rT:=.inl ()) (rF:=.inr false) ?_ ?_ ?_
    ·rw [show ((0:Nat):Int)=0 from rfl] at key
     rw [key,hw]
     cases (aR s x).all (fun ties=>anyB (win s) s (endX s x ties)) <;> rfl
    ·intro i hi hq
     rw [step i hi,hq];rfl
    ·intro i hi hq
     rw [step i hi,hq];rfl
    ·unfold gM
     try simp only
     rw [wru (by omega),ao (by omega),Int.toNat_natCast,lE (by omega),if_neg (by omega)]
   ·simp only [if_true]
    rw [hbw rfl]
  ·rw [ho] at hw
   rw [hw];rfl
 ·rw [hb] at hw
  rw [hw];rfl
theorem xf {s:GShow}(hs:aP s):∀ (n:Nat) (t:Int),12≤(n:Int)+t→xW s t (kC n)
 | 0,t,h=>by
  intro x hx ht
  have:=(bj hx).now
  have:=(bj hx).right.hor
  omega
 | n+1,t,h=>by
  intro x hx ht
  exact DO hs hx (by rw [ht];exact xf hs n (t+1) (by omega))
theorem GR {s:GShow}(hs:aP s)(t:Int)(h:0≤t):xW s t m_spec_l15Win:=xf hs 40 t (by omega)
theorem Bz {s:GShow}(hs:aP s){y:GState}(h:MomR s y){nodes:List Int}(hn:nodes∈decL s y):nr s y nodes=some (bk (win s) s y nodes):=
 xX hs (GR hs _ (by have:=h.now;omega)) h hn
end Go.Proofs.QD
set_option maxRecDepth 100000
namespace Go.Proofs.QD
open Go
theorem wh {α:Type}{l:List α}{n:Nat}{x:α}(h:n<l.length):(l.set n x).take (n+1)=l.take n++[x]:=by
 have e:(l.set n x).take n=l.take n:=by
  apply List.ext_getElem?
  intro i
  rw [List.getElem?_take,List.getElem?_take]
  split
  ·rw [List.getElem?_set_ne (by omega)]
  ·rfl
 rw [co (by simp;exact h),e]
 simp
theorem BA {α:Type}{xs ys:List α}{i:Nat}(h:i+ys.length≤xs.length):(putL xs i ys).take i=xs.take i:=by
 unfold putL
 rw [if_pos h,List.append_assoc,List.take_append_of_le_length (by rw [List.length_take];omega),List.take_take]
 simp
theorem BB (xs:List (List Int))(p:List Int→Option Bool)(q:List Int→Bool)(hx:Cnt xs.length)(hp:∀ x,x∈xs→p x=some (q x)):dj xs p=some (xs.filter (fun x=>!q x)):=by
 unfold dj
 rw [wa xs p q hx hp]
 simp only [obnd]
 by_cases h0:0≤aK xs q
 ·obtain ⟨i0,hi0,he,hq0,hno⟩:=gZ h0
  rw [he,if_neg (by omega),wr (x:=(i0:Int)+1) (by omega) (by omega)]
  have htake:(xs.take i0).filter (fun x=>!q x)=xs.take i0:=by
   rw [List.filter_eq_self]
   intro x hm
   obtain ⟨j,hj,rfl⟩:=List.getElem_of_mem hm
   rw [List.length_take] at hj
   rw [List.getElem_take,hno j (by omega)];rfl
  have inv:∃ r,ar (cz p) ((i0:Int),(i0:Int)+1,xs)=some r∧(r.1=(((xs.filter (fun x=>!q x)).length:Nat):Int)∧r.2.length=xs.length∧r.2.take (xs.filter (fun x=>!q x)).length=xs.filter (fun x=>!q x)):=by
   refine bM (xs.length - (i0+1)) (fun k s=>s.2.1=((i0+1+k:Nat):Int)∧s.1=((((xs.take (i0+1+k)).filter (fun x=>!q x)).length:Nat):Int)∧s.2.2.length=xs.length ∧
    s.2.2.take ((xs.take (i0+1+k)).filter (fun x=>!q x)).length=(xs.take (i0+1+k)).filter (fun x=>!q x)∧(∀ j,i0+1+k≤j→s.2.2[j]?=xs[j]?)∧((xs.take (i0+1+k)).filter (fun x=>!q x)).length<i0+1+k) _ ?_ ?_ ?_
   ·have e1:(xs.take (i0+1)).filter (fun x=>!q x)=xs.take i0:=by
     rw [co hi0,List.filter_append,htake]
     simp [hq0]
    have hl:(xs.take i0).length=i0:=by rw [List.length_take];omega
    refine ⟨by simp only;omega,?_,rfl,?_,fun _ _=>rfl,?_⟩
    ·simp only [Nat.add_zero];rw [e1,hl]
    ·simp only [Nat.add_zero];rw [e1,hl]
    ·simp only [Nat.add_zero];rw [e1,hl];omega
   ·rintro k ⟨v5,v6,v0⟩ hk ⟨h1,h2,h3,h4,h5,h6⟩
    simp only at h1 h2 h3 h4 h5 h6
    have hj:i0+1+k<xs.length:=by omega
    have hg:getI v0 v6=some xs[i0+1+k]:=by
     unfold getI
     rw [h1,if_pos (by omega),Int.toNat_natCast,h5 _ (Nat.le_refl _),List.getElem?_eq_getElem hj]
    left
    unfold cz
    simp only
    rw [if_pos (by omega),hg,wr (x:=v6+1) (by omega) (by omega)]
    simp only [obnd,hp _ (List.getElem_mem hj)]
    cases hq:q xs[i0+1+k]
    ·have e2:(xs.take (i0+1+(k+1))).filter (fun x=>!q x)=(xs.take (i0+1+k)).filter (fun x=>!q x)++[xs[i0+1+k]]:=by
      rw [show i0+1+(k+1)=i0+1+k+1 by omega,co hj,List.filter_append]
      simp [hq]
     have hv5:getI v0 v5=some v0[((xs.take (i0+1+k)).filter (fun x=>!q x)).length]:=by rw [h2,az (by omega)]
     rw [if_neg (by simp),hv5,wr (x:=v5+1) (by omega) (by omega)]
     refine ⟨_,rfl,by simp only;omega,?_,?_,?_,?_,?_⟩
     ·simp only;rw [e2,List.length_append,h2];simp
     ·simp only [List.length_set];exact h3
     ·simp only;rw [e2,List.length_append,h2,Int.toNat_natCast]
      simp only [List.length_cons,List.length_nil,Nat.zero_add]
      rw [wh (by omega),h4]
     ·intro j hj'
      simp only
      rw [h2,Int.toNat_natCast,List.getElem?_set_ne (by omega)]
      exact h5 j (by omega)
     ·rw [e2,List.length_append];simp;omega
    ·have e2:(xs.take (i0+1+(k+1))).filter (fun x=>!q x)=(xs.take (i0+1+k)).filter (fun x=>!q x):=by
      rw [show i0+1+(k+1)=i0+1+k+1 by omega,co hj,List.filter_append]
      simp [hq]
     rw [if_pos rfl]
     refine ⟨_,rfl,by simp only;omega,?_,h3,?_,fun j hj'=>h5 j (by omega),?_⟩
     ·simp only;rw [e2];exact h2
     ·simp only;rw [e2];exact h4
     ·rw [e2];omega
   ·rintro ⟨v5,v6,v0⟩ ⟨h1,h2,h3,h4,h5,h6⟩
    simp only at h1 h2 h3 h4
    have hall:i0+1+(xs.length - (i0+1))=xs.length:=by omega
    rw [hall] at h1 h2 h4
    rw [List.take_length] at h2 h4
    unfold cz
    simp only
    rw [if_neg (by omega)]
    exact ⟨_,rfl,h2,h3,h4⟩
  obtain ⟨⟨v5,v0⟩,hr,h1,h2,h3⟩:=inv
  rw [hr]
  simp only at h1 h2 h3 ⊢
  have hle:=List.length_filter_le (fun x=>!q x) xs
  subst h1
  simp only [Int.toNat_natCast]
  rw [ao (by omega),ao (by omega),ao (by omega),BA (by rw [List.length_replicate];omega),h3]
 ·have h1:xs.any q=false:=by rw [← lS];exact decide_eq_false h0
  have h2:aK xs q=-1:=by
   unfold aK at h0 ⊢
   cases hf:xs.findIdx? q with
   | none=>rfl
   | some j=>rw [hf] at h0;simp at h0
  rw [if_pos h2]
  congr 1
  symm
  rw [List.filter_eq_self]
  intro x hm
  rw [List.any_eq_false] at h1
  have:=h1 x hm
  cases hq:q x
  ·rfl
  ·exact absurd hq this
theorem IB {α β ρ:Type}(xs:List α)(q:α→Bool)(I:β→Prop)(body:Int × β→Option (Step (Int × β) ρ))(rT:β→ρ)(rF:Int→β→ρ)
  (h1:∀ i (hi:i<xs.length) k,I k→∃ k',I k'∧body ((i:Int),k)=some (if q xs[i]=true then .done (rF (i:Int) k') else .next ((i:Int)+1,k')))
  (h2:∀ k,I k→body ((xs.length:Int),k)=some (.done (rT k))) (k:β) (hk:I k) :
  ∃ k',I k'∧ar body (0,k)=some (if 0≤aK xs q then rF (aK xs q) k' else rT k'):=by
 have key:=bM (body:=body) (s0:=((0:Int),k)) xs.length (fun i st=>st.1=(i:Int)∧I st.2∧∀ j (hj:j<xs.length),j<i→q xs[j]=false)
  (fun r=>∃ k',I k'∧r=(if 0≤aK xs q then rF (aK xs q) k' else rT k')) ⟨rfl,hk,fun j _ h=>absurd h (by omega)⟩ ?_ ?_
 ·obtain ⟨r,hr,hp⟩:=key
  obtain ⟨k',h3,rfl⟩:=hp
  exact ⟨k',h3,hr⟩
 ·rintro i ⟨a,k⟩ hi ⟨rfl,hI,hall⟩
  obtain ⟨k',hk',hb⟩:=h1 i hi k hI
  cases hq:q xs[i]
  ·rw [hq,if_neg (by simp)] at hb
   refine .inl ⟨_,hb,rfl,hk',fun j hj hlt=>?_⟩
   rcases Nat.lt_or_ge j i with h | h
   ·exact hall j hj h
   ·obtain rfl:j=i:=by omega
    exact hq
  ·rw [hq,if_pos rfl] at hb
   refine .inr ⟨_,hb,k',hk',?_⟩
   have:aK xs q=(i:Int):=by
    unfold aK
    have:xs.findIdx? q=some i:=by
     rw [List.findIdx?_eq_some_iff_getElem]
     exact ⟨hi,hq,fun j hj=>by simp [hall j (by omega) hj]⟩
    rw [this]
   rw [this,if_pos (by omega)]
 ·rintro ⟨a,k⟩ ⟨rfl,hI,hall⟩
  refine ⟨_,h2 k hI,k,hI,?_⟩
  rw [if_neg]
  intro h0
  obtain ⟨j,hj,_,hq,_⟩:=gZ h0
  rw [hall j hj hj] at hq
  cases hq
theorem De {α:Type}{xs:List α}{q:α→Bool}(h:¬ 0≤aK xs q):aK xs q=-1∧xs.any q=false:=by
 constructor
 ·unfold aK at h ⊢
  cases hf:xs.findIdx? q with
  | none=>rfl
  | some j=>rw [hf] at h;simp at h
 ·rw [← lS];exact decide_eq_false h
section
variable {s:GShow} {y:GState}
theorem Lj (hs:aP s)(h:MomR s y){nodes:List Int}(hn:nodes∈decL s y){known:List (ByteArray × Bool)}(hk:bW s known) :
  ∃ known',bW s known'∧dS nodes s known y=some (!bk (win s) s y nodes,known'):=by
 obtain ⟨k',hk',e⟩:=zj (CC hs _ (by have:=h.now;omega)) h hn hk
 refine ⟨k',hk',?_⟩
 unfold dS mV
 rw [e];rfl
theorem CD (hs:aP s)(h:MomR s y)(xs:List (List Int))(hx:∀ nd,nd∈xs→nd∈decL s y)(hl:xs.length≤128){known:List (ByteArray × Bool)}(hk:bW s known) :
  ∃ known',bW s known'∧bg xs s known y=some (aK xs (fun nd=>!bk (win s) s y nd),xs,known'):=by
 unfold bg
 have key:=IB xs (fun nd=>!bk (win s) s y nd) (bW s) (aV ((xs.length:Nat):Int) xs s.nodes s.ties s.horizon y.now y.times y.values)
  (fun k=>.inl k) (fun i k=>.inr (i,xs,k)) ?_ ?_ known hk
 ·obtain ⟨k',hk',e⟩:=key
  rw [e]
  refine ⟨k',hk',?_⟩
  simp only [obnd]
  by_cases h0:0≤aK xs (fun nd=>!bk (win s) s y nd)
  ·rw [if_pos h0]
  ·rw [if_neg h0,(De h0).1]
 ·intro i hi k hk
  obtain ⟨k',hk',e⟩:=Lj hs h (hx _ (List.getElem_mem hi)) hk
  refine ⟨k',hk',?_⟩
  unfold aV
  try simp only
  rw [if_pos (by omega),az hi]
  simp only [obnd]
  rw [show (GShow.mk s.nodes s.ties s.horizon)=s from rfl,show (GState.mk y.now y.times y.values)=y from rfl,e]
  simp only
  rw [wr (by omega) (by omega)]
  cases bk (win s) s y xs[i] <;> rfl
 ·intro k _
  unfold aV
  try simp only
  rw [if_neg (by omega)]
theorem BC (hs:aP s)(h:MomR s y)(xs:List (List Int))(hx:∀ nd,nd∈xs→nd∈decL s y)(hl:xs.length≤128){known:List (ByteArray × Bool)}(hk:bW s known) :
  ∃ known',bW s known'∧bd xs s known y=some (xs.filter (fun nd=>bk (win s) s y nd),known'):=by
 obtain ⟨k1,hk1,e1⟩:=CD hs h xs hx hl hk
 have hfn:xs.filter (fun nd=>bk (win s) s y nd)=xs.filter (fun nd=>!(!bk (win s) s y nd)):=by simp
 rw [hfn]
 unfold bd
 rw [e1]
 simp only [obnd]
 generalize hq':(fun nd=>!bk (win s) s y nd)=q at *
 have hq:∀ nd,q nd=!bk (win s) s y nd:=fun nd=>by rw [← hq']
 have hff:(fun nd=>!(!bk (win s) s y nd))=(fun x=>!q x):=by funext nd;rw [hq]
 rw [hff]
 by_cases h0:0≤aK xs q
 ·obtain ⟨i0,hi0,he,hq0,hno⟩:=gZ h0
  rw [he,if_neg (by omega),wr (x:=(i0:Int)+1) (by omega) (by omega)]
  have htake:(xs.take i0).filter (fun x=>!q x)=xs.take i0:=by
   rw [List.filter_eq_self]
   intro x hm
   obtain ⟨j,hj,rfl⟩:=List.getElem_of_mem hm
   rw [List.length_take] at hj
   rw [List.getElem_take,hno j (by omega)];rfl
  have inv:∃ r,ar (aU xs.length s.nodes s.ties s.horizon y.now y.times y.values) ((i0:Int),(i0:Int)+1,xs,k1)=some r∧(r.1=(((xs.filter (fun x=>!q x)).length:Nat):Int)∧r.2.1.length=xs.length∧r.2.1.take (xs.filter (fun x=>!q x)).length=xs.filter (fun x=>!q x)∧bW s r.2.2):=by
   refine bM (xs.length - (i0+1)) (fun (k:Nat) (s':Int × Int × List (List Int) × List (ByteArray × Bool))=>s'.2.1=((i0+1+k:Nat):Int)∧s'.1=((((xs.take (i0+1+k)).filter (fun x=>!q x)).length:Nat):Int)∧s'.2.2.1.length=xs.length ∧
    s'.2.2.1.take ((xs.take (i0+1+k)).filter (fun x=>!q x)).length=(xs.take (i0+1+k)).filter (fun x=>!q x)∧(∀ j,i0+1+k≤j→s'.2.2.1[j]?=xs[j]?)∧((xs.take (i0+1+k)).filter (fun x=>!q x)).length<i0+1+k∧bW s s'.2.2.2) _ ?_ ?_ ?_
   ·have e1:(xs.take (i0+1)).filter (fun x=>!q x)=xs.take i0:=by
     rw [co hi0,List.filter_append,htake]
     simp [hq0]
    have hl:(xs.take i0).length=i0:=by rw [List.length_take];omega
    refine ⟨by simp only;omega,?_,rfl,?_,fun _ _=>rfl,?_,hk1⟩
    ·simp only [Nat.add_zero];rw [e1,hl]
    ·simp only [Nat.add_zero];rw [e1,hl]
    ·simp only [Nat.add_zero];rw [e1,hl];omega
   ·rintro k ⟨v5,v6,v0,kn⟩ hk ⟨h1,h2,h3,h4,h5,h6,h7⟩
    simp only at h1 h2 h3 h4 h5 h6 h7
    have hj:i0+1+k<xs.length:=by omega
    have hg:getI v0 v6=some xs[i0+1+k]:=by
     unfold getI
     rw [h1,if_pos (by omega),Int.toNat_natCast,h5 _ (Nat.le_refl _),List.getElem?_eq_getElem hj]
    obtain ⟨kn',hkn',ec⟩:=Lj hs h (hx _ (List.getElem_mem hj)) h7
    left
    unfold aU
    simp only
    rw [if_pos (by omega),ao (by omega),hg,wr (x:=v6+1) (by omega) (by omega)]
    simp only [obnd]
    rw [show (GShow.mk s.nodes s.ties s.horizon)=s from rfl,show (GState.mk y.now y.times y.values)=y from rfl,ec,← hq]
    simp only
    cases hqq:q xs[i0+1+k]
    ·have e2:(xs.take (i0+1+(k+1))).filter (fun x=>!q x)=(xs.take (i0+1+k)).filter (fun x=>!q x)++[xs[i0+1+k]]:=by
      rw [show i0+1+(k+1)=i0+1+k+1 by omega,co hj,List.filter_append]
      simp [hqq]
     have hv5:getI v0 v5=some v0[((xs.take (i0+1+k)).filter (fun x=>!q x)).length]:=by rw [h2,az (by omega)]
     rw [if_neg (by simp),ao (by omega),hv5,wr (x:=v5+1) (by omega) (by omega)]
     refine ⟨_,rfl,by simp only;omega,?_,?_,?_,?_,?_,hkn'⟩
     ·simp only;rw [e2,List.length_append,h2];simp
     ·simp only [List.length_set];exact h3
     ·simp only;rw [e2,List.length_append,h2,Int.toNat_natCast]
      simp only [List.length_cons,List.length_nil,Nat.zero_add]
      rw [wh (by omega),h4]
     ·intro j hj'
      simp only
      rw [h2,Int.toNat_natCast,List.getElem?_set_ne (by omega)]
      exact h5 j (by omega)
     ·rw [e2,List.length_append];simp;omega
    ·have e2:(xs.take (i0+1+(k+1))).filter (fun x=>!q x)=(xs.take (i0+1+k)).filter (fun x=>!q x):=by
      rw [show i0+1+(k+1)=i0+1+k+1 by omega,co hj,List.filter_append]
      simp [hqq]
     rw [if_pos rfl]
     refine ⟨_,rfl,by simp only;omega,?_,h3,?_,fun j hj'=>h5 j (by omega),?_,hkn'⟩
     ·simp only;rw [e2];exact h2
     ·simp only;rw [e2];exact h4
     ·rw [e2];omega
   ·rintro ⟨v5,v6,v0,kn⟩ ⟨h1,h2,h3,h4,h5,h6,h7⟩
    simp only at h1 h2 h3 h4 h7
    have hall:i0+1+(xs.length - (i0+1))=xs.length:=by omega
    rw [hall] at h1 h2 h4
    rw [List.take_length] at h2 h4
    unfold aU
    simp only
    rw [if_neg (by omega)]
    exact ⟨_,rfl,h2,h3,h4,h7⟩
  obtain ⟨⟨v5,v0,kn⟩,hr,h1,h2,h3,h4⟩:=inv
  rw [hr]
  simp only at h1 h2 h3 h4 ⊢
  have hle:=List.length_filter_le (fun x=>!q x) xs
  subst h1
  simp only [Int.toNat_natCast]
  rw [ao (by omega),ao (by omega),ao (by omega),ao (by omega),ao (by rw [zd];omega),ao (by omega),BA (by rw [List.length_replicate];omega),h3]
  exact ⟨kn,h4,rfl⟩
 ·obtain ⟨h2,h1⟩:=De h0
  rw [if_pos h2,ao (Nat.le_refl _),List.take_length]
  refine ⟨k1,hk1,?_⟩
  congr 2
  symm
  rw [List.filter_eq_self]
  intro x hm
  rw [List.any_eq_false] at h1
  have:=h1 x hm
  cases hqx:q x
  ·rfl
  ·exact absurd hqx this
theorem FW (hs:aP s)(h:MomR s y){known:List (ByteArray × Bool)}(hk:bW s known) :
  ∃ known',bW s known'∧gH s known y=some ((decL s y).filter (bk (win s) s y),known'):=by
 obtain ⟨k',hk',e⟩:=BC hs h (decL s y) (fun _ h=>h) (ph h.right y) hk
 refine ⟨k',hk',?_⟩
 unfold gH
 rw [uI hs h]
 simp only [obnd]
 rw [e]
end
def gU (lazy:Bool)(l:List (List Int))(p:List Int→Bool):Option (List Int):=if lazy=true then l.reverse.find? p else l.find? p
theorem FX (l:List (List Int))(p:List Int→Bool)(lazy:Bool)(hl:l.length≤128) :
  lA (l.filter p) lazy=some (match gU lazy l p with | some nd=>(nd,true) | none=>([],false)):=by
 have hle:=List.length_filter_le p l
 unfold lA gU
 have e1:l.find? p=(l.filter p).head?:=(List.head?_filter).symm
 have e2:l.reverse.find? p=(l.filter p).getLast?:=by rw [← List.head?_filter,List.filter_reverse,List.head?_reverse]
 rw [e1,e2]
 generalize l.filter p=m at *
 by_cases h0:m=[]
 ·subst h0
  rw [if_pos (by simp)]
  cases lazy <;> rfl
 ·have hpos:0<m.length:=List.length_pos_iff.2 h0
  rw [if_neg (by omega)]
  cases lazy
  ·simp only [Bool.false_eq_true,if_false]
   have:getI m ((0:Nat):Int)=some m[0]:=az hpos
   rw [show ((0:Nat):Int)=0 from rfl] at this
   rw [this,List.head?_eq_getElem?,List.getElem?_eq_getElem hpos];rfl
  ·simp only [if_true]
   rw [wr (by omega) (by omega),show ((m.length:Nat):Int) - 1=((m.length - 1:Nat):Int) by omega,az (by omega),List.getLast?_eq_getElem?,List.getElem?_eq_getElem (by omega)];rfl
end Go.Proofs.QD
set_option maxRecDepth 100000
namespace Go.Proofs.QD
open Go
theorem IC (log:List GEntry)(hl:log.length≤1048576)(he:∀ e,e∈log→FitE e):lv log=some log:=by
 unfold lv
 have key:ar (iG log ((log.length:Nat):Int)) (((0:Nat):Int),log.take 0)=some log:=by
  refine aG log.length (fun i=>((i:Int),log.take i)) ?_ ?_
  ·intro i hi
   have hf:=he _ (List.getElem_mem hi)
   unfold iG
   try simp only
   rw [if_pos (by omega),az hi]
   simp only [obnd]
   rw [dZ _ hf.ties,dZ _ hf.nodes,dZ _ hf.values]
   simp only
   rw [ao (by rw [List.length_take];omega),ao (by rw [List.length_take];omega),wr (by omega) (by omega),List.take_succ_eq_append_getElem hi];rfl
  ·unfold iG
   try simp only
   rw [if_neg (by omega),List.take_length]
 simp only [Int.natCast_zero,List.take_zero] at key
 rw [key];rfl
theorem zk (d:GDesk)(h:FitD d):iu d=some d:=by
 unfold iu
 rw [GJ _ h.sh]
 simp only [obnd]
 rw [qV _ h.st.times h.st.values]
 simp only
 rw [IC _ h.log h.entry]
theorem wL (d:GDesk)(h:FitD d):gN d=some d:=by
 have hl:=h.log
 unfold gN
 rw [Bl _ h.sh]
 simp only [obnd]
 rw [qW _ h.st.times h.st.values]
 simp only
 have key:ar (dH d.log ((d.log.length:Nat):Int) d.show_.horizon d.state.now d.lazy d.show_.nodes d.show_.ties d.state.times d.state.values) (((0:Nat):Int),d.log.take 0)=some d.log:=by
  refine aG d.log.length (fun i=>((i:Int),d.log.take i)) ?_ ?_
  ·intro i hi
   have hf:=h.entry _ (List.getElem_mem hi)
   have f1:=hf.ties
   have f2:=hf.nodes
   have f3:=hf.values
   unfold dH
   try simp only
   rw [if_pos (by omega),az hi]
   simp only [obnd]
   unfold mD
   rw [ao (by omega),ao (by omega),ao (by omega),ao (by omega),ao (by omega),ao (by omega)]
   simp only
   rw [ao (by rw [List.length_take];omega),ao (by rw [List.length_take];omega),wr (by omega) (by omega),List.take_succ_eq_append_getElem hi];rfl
  ·unfold dH
   try simp only
   rw [if_neg (by omega),List.take_length]
 simp only [Int.natCast_zero,List.take_zero] at key
 rw [key]
def pmB (values:List Int):Bool:=decide (values.length=3)&&values.all (fun v=>decide (v=1) || decide (v=-1))
noncomputable def aM (d:GDesk)(ties values:List Int):Int:=
 if cQ d=true then (if pmB values=true then (if cJ d.show_ d.state=true then 2 else if gS d.show_ d.state=true then 2 else if d.show_.horizon<d.state.now then 2 else if ties∈aR d.show_ d.state then 0 else 3) else 1) else 1
def bC (values ps:List Int):List Int:=ps.map (fun p=>tm values (p - 1))
def litL (values ps:List Int):List Int:=ps.map (fun p=>p*tm values (p - 1))
noncomputable def finD (d:GDesk)(ties values nodes:List Int):GDesk:=
 ⟨d.show_,obsX (decX (endX d.show_ d.state ties) nodes) (aA d.show_ nodes) (bC values (aA d.show_ nodes)),d.lazy,d.log++[⟨d.state.now,ties,nodes,litL values (aA d.show_ nodes)⟩]⟩
noncomputable def kK (d:GDesk)(ties values:List Int)(refused:Int)(c:Option (List Int)):GDesk × List Int × Int:=
 if aM d ties values=0 then (match c with | some nd=>(finD d ties values nd,nd,0) | none=>(d,[],refused)) else (d,[],aM d ties values)
theorem fV {d:GDesk}(h:cQ d=true):aD d.show_ d.state=true:=by
 unfold cQ at h
 simp only [Bool.and_eq_true] at h
 exact h.1.1.1
theorem jg {d:GDesk}{ties values:List Int}(h:aM d ties values=0):cQ d=true∧pmB values=true∧ties∈aR d.show_ d.state∧cJ d.show_ d.state=false∧gS d.show_ d.state=false∧¬ d.show_.horizon<d.state.now:=by
 unfold aM at h
 split at h
 ·rename_i h1
  split at h
  ·rename_i h2
   split at h
   ·omega
   ·rename_i h3
    split at h
    ·omega
    ·rename_i h4
     split at h
     ·omega
     ·rename_i h5
      split at h
      ·rename_i h6
       exact ⟨h1,h2,h6,by simpa using h3,by simpa using h4,h5⟩
      ·omega
  ·omega
 ·omega
theorem FY {values:List Int}(h:pmB values=true):values.length=3∧∀ v,v∈values→v=1∨v=-1:=by
 unfold pmB at h
 rw [Bool.and_eq_true,decide_eq_true_eq,List.all_eq_true] at h
 exact ⟨h.1,fun v hv=>by have:=h.2 v hv;simpa using this⟩
theorem EN {values:List Int}(h:pmB values=true){k:Int}(h0:0≤k)(h1:k<3):tm values k=1∨tm values k=-1:=by
 obtain ⟨h2,h3⟩:=FY h
 unfold tm
 rw [List.getElem?_eq_getElem (show k.toNat<values.length by omega)]
 exact h3 _ (List.getElem_mem _)
theorem JM {values:List Int}(h3:values.length=3):values.any (fun v=>!(decide (v=1) || decide (v=-1)))=!pmB values:=by
 unfold pmB
 rw [decide_eq_true h3,Bool.true_and,List.any_eq_not_all_not]
 simp
theorem xY (v:Int):dQ v=some (!(decide (v=1) || decide (v=-1))):=by
 unfold dQ
 by_cases h:v=1
 ·rw [if_pos h,decide_eq_true h];rfl
 ·rw [if_neg h,decide_eq_false h]
  by_cases h2:v=-1
  ·rw [decide_eq_true h2,decide_eq_false (by simpa using h2)];rfl
  ·rw [decide_eq_false h2,decide_eq_true h2];rfl
theorem zl {values ps:List Int}(hv:pmB values=true)(hp:∀ p,p∈ps→1≤p∧p≤3)(hl:ps.length≤3):ix ps (bC values ps)=some (litL values ps):=by
 unfold ix
 have key:ar (ig (bC values ps) ps ((ps.length:Nat):Int)) (((0:Nat):Int),litL values (ps.take 0))=some (litL values ps):=by
  refine aG ps.length (fun i=>((i:Int),litL values (ps.take i))) ?_ ?_
  ·intro i hi
   have hb:=hp _ (List.getElem_mem hi)
   have ht:=EN hv (k:=ps[i] - 1) (by omega) (by omega)
   have hl1:(litL values (ps.take i)).length≤3:=by unfold litL;rw [List.length_map,List.length_take];omega
   have hsl:(bC values ps).length=ps.length:=by unfold bC;simp
   unfold ig
   try simp only
   rw [if_pos (by omega),az hi,az (show i<(bC values ps).length by omega)]
   simp only [obnd]
   have hs:(bC values ps)[i]'(by omega)=tm values (ps[i] - 1):=by unfold bC;simp
   rw [hs,ao (by omega),ao (by omega),wr (x:=(i:Int)+1) (by omega) (by omega),wr (x:=ps[i]*tm values (ps[i] - 1)) (by rcases ht with h | h <;> rw [h] <;> omega) (by rcases ht with h | h <;> rw [h] <;> omega)]
   congr 3
   unfold litL
   rw [List.take_succ_eq_append_getElem hi,List.map_append];rfl
  ·unfold ig
   try simp only
   rw [if_neg (by omega),List.take_length]
 simp only [Int.natCast_zero,List.take_zero] at key
 rw [show litL values []=[] from rfl] at key
 rw [key];rfl
theorem qZ {values ps:List Int}(hv:pmB values=true)(hp:∀ p,p∈ps→1≤p∧p≤3):(bC values ps).length=ps.length∧∀ v,v∈bC values ps→v=1∨v=-1:=by
 refine ⟨by unfold bC;simp,fun v hm=>?_⟩
 unfold bC at hm
 rw [List.mem_map] at hm
 obtain ⟨p,hpm,rfl⟩:=hm
 have:=hp p hpm
 exact EN hv (by omega) (by omega)
theorem xZ (d:GDesk)(ties values:List Int)(refused:Int)(d':GDesk)(hf:FitD d)(ht:ties.length≤1048576)(hvl:values.length≤1048576)(c:Option (List Int))(hmem:∀ nd,c=some nd→nd∈decL d.show_ (endX d.show_ d.state ties))
  (hc:aM d ties values=0→∃ r,ie d.show_ [] (endX d.show_ d.state ties) d'=some r∧r.2.1=c.isSome∧∀ nd,c=some nd→r.1=nd) :
  bw d ties values refused d'=some (kK d ties values refused c):=by
 have hs:=hf.sh.small
 have hlog:=hf.log
 have hg0:=@jg d ties values
 unfold kK
 unfold bw
 rw [zk d hf]
 simp only [obnd]
 rw [vA d hf]
 simp only
 cases hd:cQ d
 ·have e:aM d ties values=1:=by unfold aM;rw [hd];rfl
  rw [e];rfl
 have hx:=fV hd
 have hR:=bj hx
 simp only [if_true]
 by_cases h3:values.length=3
 rotate_left
 ·have e:aM d ties values=1:=by unfold aM pmB;rw [hd,decide_eq_false h3];rfl
  rw [if_neg (by omega),e];rfl
 rw [if_pos (by omega),jN values _ (fun v=>!(decide (v=1) || decide (v=-1))) (by unfold Cnt;omega) (fun v _=>xY v),JM h3]
 simp only
 cases hp:pmB values
 ·have e:aM d ties values=1:=by unfold aM;rw [hd,hp];rfl
  rw [e];rfl
 simp only [Bool.not_true,Bool.false_eq_true,if_false]
 rw [vB hs hR]
 simp only
 cases hb:cJ d.show_ d.state
 rotate_left
 ·have e:aM d ties values=2:=by unfold aM;rw [hd,hp,hb];rfl
  rw [e];rfl
 simp only [Bool.false_eq_true,if_false]
 rw [tM hs hR]
 simp only
 cases ho:gS d.show_ d.state
 rotate_left
 ·have e:aM d ties values=2:=by unfold aM;rw [hd,hp,hb,ho];rfl
  rw [e];rfl
 simp only [Bool.false_eq_true,if_false]
 by_cases hh:d.show_.horizon<d.state.now
 ·have e:aM d ties values=2:=by unfold aM;rw [hd,hp,hb,ho,if_pos hh];rfl
  rw [if_pos hh,e];rfl
 rw [if_neg hh,qU hx]
 simp only
 have hel:=mW (x:=d.state) hR.ok
 rw [wF _ _ (by unfold Cnt;omega) (by unfold Cnt;omega)]
 simp only
 by_cases hm:ties∈aR d.show_ d.state
 rotate_left
 ·have e:aM d ties values=3:=by unfold aM;rw [hd,hp,hb,ho,if_neg hh,if_neg hm];rfl
  rw [decide_eq_false hm,e];rfl
 have e:aM d ties values=0:=by unfold aM;rw [hd,hp,hb,ho,if_neg hh,if_pos hm];rfl
 obtain ⟨a1,a2,a3⟩:=fq hR.ok hm
 have hM:=iA hx hm
 have hv3:=(aS hR.val).1
 rw [decide_eq_true hm,if_pos rfl,wH hx (by omega) (by omega) a3]
 simp only
 unfold eG
 simp only
 obtain ⟨r,e1,e2,e3⟩:=hc e
 rw [e1,e]
 simp only [if_true]
 rw [e2]
 cases c with
 | none=>rfl
 | some nd=>
  have hn:=hmem nd rfl
  obtain ⟨n1,n2,n3⟩:=bZ hM.right hn
  have hps:∀ p,p∈aA d.show_ nd→1≤p∧p≤3:=fun p hp=>⟨(bf hp).1,(bf hp).2.1⟩
  have hpl:=kI d.show_ nd
  simp only [Option.isSome_some,if_true]
  rw [e3 nd rfl,tL hM n1 n2 n3]
  simp only
  have key:ar (ba ties values nd (((aA d.show_ nd).length:Nat):Int) d.show_.horizon d.state.now d.lazy d.state.now d.state.times d.state.values (decX (endX d.show_ d.state ties) nd).now d.show_.nodes d.show_.ties d.state.times d.state.values d.log (decX (endX d.show_ d.state ties) nd).times (decX (endX d.show_ d.state ties) nd).values (aA d.show_ nd)) (((0:Nat):Int),bC values ((aA d.show_ nd).take 0))=some (bC values (aA d.show_ nd)):=by
   refine aG (aA d.show_ nd).length (fun i=>((i:Int),bC values ((aA d.show_ nd).take i))) ?_ ?_
   ·intro i hi
    have hb:=hps _ (List.getElem_mem hi)
    have hsl:(bC values ((aA d.show_ nd).take i)).length≤3:=by unfold bC;rw [List.length_map,List.length_take];omega
    unfold ba
    try simp only
    rw [if_pos (by omega),az hi]
    simp only [obnd]
    rw [wr (x:=(aA d.show_ nd)[i] - 1) (by omega) (by omega),bA (by omega) (by omega)]
    simp only
    rw [ao (by omega),ao (by omega),wr (by omega) (by omega)]
    congr 3
    unfold bC
    rw [List.take_succ_eq_append_getElem hi,List.map_append];rfl
   ·unfold ba
    try simp only
    rw [if_neg (by omega),List.take_length]
  simp only [Int.natCast_zero,List.take_zero] at key
  rw [show bC values []=[] from rfl] at key
  rw [key]
  simp only
  obtain ⟨s1,s2⟩:=qZ hp hps
  have hnow:=hR.now
  have hhor:=hR.right.hor
  have hln:=hM.len
  have h7:=hM.right.nodes
  rw [(kP (decX (endX d.show_ d.state ties) nd) (aA d.show_ nd) (bC values (aA d.show_ nd)) (by show 0≤d.state.now∧d.state.now≤1000;omega) (by show (aY _ _ _ _).length≤_;rw [bL];omega) hv3 hps s1 (by omega)).1]
  simp only
  rw [dZ _ ht,dZ _ (by omega),zl hp hps hpl]
  simp only
  rw [ao (by omega),ao (by omega)]
  rfl
theorem ya (d:GDesk)(ties values:List Int)(refused node:Int)(d':GDesk)(hf:FitD d)(ht:ties.length≤1048576)(hvl:values.length≤1048576)(c:Option (List Int))(hmem:∀ nd,c=some nd→nd∈decL d.show_ (endX d.show_ d.state ties))
  (hc:aM d ties values=0→∃ r,im d.show_ [] (endX d.show_ d.state ties) node d'=some r∧r.2.1=c.isSome∧∀ nd,c=some nd→r.1=nd) :
  bz d ties values refused node d'=some (kK d ties values refused c):=by
 have hs:=hf.sh.small
 have hlog:=hf.log
 have hg0:=@jg d ties values
 unfold kK
 unfold bz
 rw [zk d hf]
 simp only [obnd]
 rw [vA d hf]
 simp only
 cases hd:cQ d
 ·have e:aM d ties values=1:=by unfold aM;rw [hd];rfl
  rw [e];rfl
 have hx:=fV hd
 have hR:=bj hx
 simp only [if_true]
 by_cases h3:values.length=3
 rotate_left
 ·have e:aM d ties values=1:=by unfold aM pmB;rw [hd,decide_eq_false h3];rfl
  rw [if_neg (by omega),e];rfl
 rw [if_pos (by omega),jN values _ (fun v=>!(decide (v=1) || decide (v=-1))) (by unfold Cnt;omega) (fun v _=>xY v),JM h3]
 simp only
 cases hp:pmB values
 ·have e:aM d ties values=1:=by unfold aM;rw [hd,hp];rfl
  rw [e];rfl
 simp only [Bool.not_true,Bool.false_eq_true,if_false]
 rw [vB hs hR]
 simp only
 cases hb:cJ d.show_ d.state
 rotate_left
 ·have e:aM d ties values=2:=by unfold aM;rw [hd,hp,hb];rfl
  rw [e];rfl
 simp only [Bool.false_eq_true,if_false]
 rw [tM hs hR]
 simp only
 cases ho:gS d.show_ d.state
 rotate_left
 ·have e:aM d ties values=2:=by unfold aM;rw [hd,hp,hb,ho];rfl
  rw [e];rfl
 simp only [Bool.false_eq_true,if_false]
 by_cases hh:d.show_.horizon<d.state.now
 ·have e:aM d ties values=2:=by unfold aM;rw [hd,hp,hb,ho,if_pos hh];rfl
  rw [if_pos hh,e];rfl
 rw [if_neg hh,qU hx]
 simp only
 have hel:=mW (x:=d.state) hR.ok
 rw [wF _ _ (by unfold Cnt;omega) (by unfold Cnt;omega)]
 simp only
 by_cases hm:ties∈aR d.show_ d.state
 rotate_left
 ·have e:aM d ties values=3:=by unfold aM;rw [hd,hp,hb,ho,if_neg hh,if_neg hm];rfl
  rw [decide_eq_false hm,e];rfl
 have e:aM d ties values=0:=by unfold aM;rw [hd,hp,hb,ho,if_neg hh,if_pos hm];rfl
 obtain ⟨a1,a2,a3⟩:=fq hR.ok hm
 have hM:=iA hx hm
 have hv3:=(aS hR.val).1
 rw [decide_eq_true hm,if_pos rfl,wH hx (by omega) (by omega) a3]
 simp only
 unfold eG
 simp only
 obtain ⟨r,e1,e2,e3⟩:=hc e
 rw [e1,e]
 simp only [if_true]
 rw [e2]
 cases c with
 | none=>rfl
 | some nd=>
  have hn:=hmem nd rfl
  obtain ⟨n1,n2,n3⟩:=bZ hM.right hn
  have hps:∀ p,p∈aA d.show_ nd→1≤p∧p≤3:=fun p hp=>⟨(bf hp).1,(bf hp).2.1⟩
  have hpl:=kI d.show_ nd
  simp only [Option.isSome_some,if_true]
  rw [e3 nd rfl,tL hM n1 n2 n3]
  simp only
  have key:ar (bb ties values nd (((aA d.show_ nd).length:Nat):Int) d.show_.horizon d.state.now d.lazy d.state.now d.state.times d.state.values (decX (endX d.show_ d.state ties) nd).now d.show_.nodes d.show_.ties d.state.times d.state.values d.log (decX (endX d.show_ d.state ties) nd).times (decX (endX d.show_ d.state ties) nd).values (aA d.show_ nd)) (((0:Nat):Int),bC values ((aA d.show_ nd).take 0))=some (bC values (aA d.show_ nd)):=by
   refine aG (aA d.show_ nd).length (fun i=>((i:Int),bC values ((aA d.show_ nd).take i))) ?_ ?_
   ·intro i hi
    have hb:=hps _ (List.getElem_mem hi)
    have hsl:(bC values ((aA d.show_ nd).take i)).length≤3:=by unfold bC;rw [List.length_map,List.length_take];omega
    unfold bb
    try simp only
    rw [if_pos (by omega),az hi]
    simp only [obnd]
    rw [wr (x:=(aA d.show_ nd)[i] - 1) (by omega) (by omega),bA (by omega) (by omega)]
    simp only
    rw [ao (by omega),ao (by omega),wr (by omega) (by omega)]
    congr 3
    unfold bC
    rw [List.take_succ_eq_append_getElem hi,List.map_append];rfl
   ·unfold bb
    try simp only
    rw [if_neg (by omega),List.take_length]
  simp only [Int.natCast_zero,List.take_zero] at key
  rw [show bC values []=[] from rfl] at key
  rw [key]
  simp only
  obtain ⟨s1,s2⟩:=qZ hp hps
  have hnow:=hR.now
  have hhor:=hR.right.hor
  have hln:=hM.len
  have h7:=hM.right.nodes
  rw [(kP (decX (endX d.show_ d.state ties) nd) (aA d.show_ nd) (bC values (aA d.show_ nd)) (by show 0≤d.state.now∧d.state.now≤1000;omega) (by show (aY _ _ _ _).length≤_;rw [bL];omega) hv3 hps s1 (by omega)).1]
  simp only
  rw [dZ _ ht,dZ _ (by omega),zl hp hps hpl]
  simp only
  rw [ao (by omega),ao (by omega)]
  rfl
end Go.Proofs.QD
set_option maxRecDepth 100000
namespace Go.Proofs.QD
open Go
end Go.Proofs.QD
set_option maxRecDepth 100000
namespace Go.Proofs.QD
open Go
noncomputable def vt (d:GDesk)(ties:List Int):Option (List Int):=gU d.lazy (decL d.show_ (endX d.show_ d.state ties)) (bk (win d.show_) d.show_ (endX d.show_ d.state ties))
noncomputable def BD (d:GDesk)(ties:List Int)(node:Int):Option (List Int):=gU d.lazy (decL d.show_ (endX d.show_ d.state ties)) (fun nd=>!decide (node∈nd)&&bk (win d.show_) d.show_ (endX d.show_ d.state ties) nd)
theorem mX {lazy:Bool}{l:List (List Int)}{p:List Int→Bool}{nd:List Int}(h:gU lazy l p=some nd):nd∈l∧p nd=true:=by
 unfold gU at h
 split at h
 ·exact ⟨by simpa using List.mem_of_find?_eq_some h,List.find?_some h⟩
 ·exact ⟨List.mem_of_find?_eq_some h,List.find?_some h⟩
theorem DP (d:GDesk)(ties values:List Int)(hf:FitD d)(ht:ties.length≤1048576)(hv:values.length≤1048576):ku d ties values=some (kK d ties values 5 (vt d ties)):=by
 have hs:=hf.sh.small
 unfold ku
 rw [xZ d ties values 5 d hf ht hv (vt d ties) (fun nd h=>(mX h).1) ?_]
 ·rfl
 ·intro h0
  obtain ⟨g1,_,g3,_⟩:=jg h0
  have hM:=iA (fV g1) g3
  have hl:=ph hM.right (endX d.show_ d.state ties)
  unfold ie vt
  cases hz:d.lazy
  ·simp only [Bool.false_eq_true,if_false]
   obtain ⟨k',_,e⟩:=By hs (y:=endX d.show_ d.state ties) (CC hs _ (by have:=hM.now;omega)) hM (vq d.show_)
   unfold nN
   rw [e]
   simp only [obnd]
   refine ⟨_,rfl,?_⟩
   unfold gU
   simp only [Bool.false_eq_true,if_false]
   cases (decL d.show_ (endX d.show_ d.state ties)).find? (bk (win d.show_) d.show_ (endX d.show_ d.state ties)) with
   | none=>exact ⟨rfl,fun nd h=>by cases h⟩
   | some nd=>exact ⟨rfl,fun nd' h=>by cases h;rfl⟩
  ·simp only [if_true]
   obtain ⟨k',_,e⟩:=FW hs hM (vq d.show_)
   rw [e]
   simp only [obnd]
   rw [FX _ _ _ hl]
   simp only
   refine ⟨_,rfl,?_⟩
   cases gU true (decL d.show_ (endX d.show_ d.state ties)) (bk (win d.show_) d.show_ (endX d.show_ d.state ties)) with
   | none=>exact ⟨rfl,fun nd h=>by cases h⟩
   | some nd=>exact ⟨rfl,fun nd' h=>by cases h;rfl⟩
theorem DQ (d:GDesk)(ties:List Int)(node:Int)(values:List Int)(hf:FitD d)(ht:ties.length≤1048576)(hv:values.length≤1048576):kF d ties node values=some (kK d ties values 4 (BD d ties node)):=by
 have hs:=hf.sh.small
 unfold kF
 rw [ya d ties values 4 node d hf ht hv (BD d ties node) (fun nd h=>(mX h).1) ?_]
 ·rfl
 ·intro h0
  obtain ⟨g1,_,g3,_⟩:=jg h0
  have hM:=iA (fV g1) g3
  have hl:=ph hM.right (endX d.show_ d.state ties)
  have hfl:=List.length_filter_le (bk (win d.show_) d.show_ (endX d.show_ d.state ties)) (decL d.show_ (endX d.show_ d.state ties))
  unfold im BD
  obtain ⟨k',_,e⟩:=FW hs hM (vq d.show_)
  rw [e]
  simp only [obnd]
  rw [BB _ _ (fun nd=>decide (node∈nd)) (by unfold Cnt;omega) ?_]
  ·simp only
   rw [List.filter_filter,FX _ _ _ hl]
   simp only
   refine ⟨_,rfl,?_⟩
   cases gU d.lazy (decL d.show_ (endX d.show_ d.state ties)) (fun nd=>!decide (node∈nd)&&bk (win d.show_) d.show_ (endX d.show_ d.state ties) nd) with
   | none=>exact ⟨rfl,fun nd h=>by cases h⟩
   | some nd=>exact ⟨rfl,fun nd' h=>by cases h;rfl⟩
  ·intro nd hnd
   have:=(bZ hM.right (List.mem_filter.1 hnd).1).2.1
   unfold iz
   rw [si _ _ (by unfold Cnt;omega)];rfl
theorem yQ {s:GShow}{x:GState}(hs:aP s)(hx:aD s x=true)(ties:List Int)(ht:ties.length≤1048576):cM s x ties=some (if ties∈aR s x then (endX s x ties,true) else (jq,false)):=by
 have hR:=bj hx
 have hv3:=(aS hR.val).1
 have hln:=hR.len
 have h7:=hR.right.nodes
 have hel:=mW (x:=x) hR.ok
 unfold cM
 rw [uF hs hx (by omega) (by omega)]
 simp only [obnd]
 rw [zN _ _ (by unfold Cnt;omega) (fun l hl=>by have:=(fq hR.ok hl).2.1;unfold Cnt;omega)]
 simp only
 by_cases hm:ties∈aR s x
 ·obtain ⟨a1,a2,a3⟩:=fq hR.ok hm
  rw [decide_eq_true hm,if_pos rfl,if_pos hm,xT hx (by omega) (by omega) a3]
 ·rw [decide_eq_false hm,if_neg (by simp),if_neg hm];rfl
theorem GS (d:GDesk)(ties values:List Int)(hf:FitD d)(ht:ties.length≤1048576)(hvl:values.length≤1048576):kz d ties values=some (if aM d ties values=0 then (endX d.show_ d.state ties,0) else (jq,aM d ties values)):=by
 have hs:=hf.sh.small
 unfold kz
 rw [GN d hf]
 simp only [obnd]
 cases hd:cQ d
 ·have e:aM d ties values=1:=by unfold aM;rw [hd];rfl
  rw [e];rfl
 have hx:=fV hd
 have hR:=bj hx
 simp only [if_true]
 by_cases h3:values.length=3
 rotate_left
 ·have e:aM d ties values=1:=by unfold aM pmB;rw [hd,decide_eq_false h3];rfl
  rw [if_neg (by omega),e];rfl
 rw [if_pos (by omega)]
 have key:=fb (body:=eU ties values ((values.length:Nat):Int) d.show_.nodes d.show_.ties d.show_.horizon d.state.now d.state.times d.state.values d.lazy d.log) values (fun v=>decide (v=1) || decide (v=-1)) (fun i=>(i:Int)) (rT:=.inl ()) (rF:=.inr (GState.mk 0 [] [],1)) ?_ ?_ ?_
 ·rw [show ((0:Nat):Int)=0 from rfl] at key
  rw [key]
  simp only
  cases hp:pmB values
  ·have e:aM d ties values=1:=by unfold aM;rw [hd,hp];rfl
   have hall:values.all (fun v=>decide (v=1) || decide (v=-1))=false:=by unfold pmB at hp;rwa [decide_eq_true h3,Bool.true_and] at hp
   rw [hall,e];rfl
  have hall:values.all (fun v=>decide (v=1) || decide (v=-1))=true:=by unfold pmB at hp;rwa [decide_eq_true h3,Bool.true_and] at hp
  rw [hall]
  simp only [if_true]
  rw [xV hs hR]
  simp only
  cases hb:cJ d.show_ d.state
  rotate_left
  ·have e:aM d ties values=2:=by unfold aM;rw [hd,hp,hb];rfl
   rw [e];rfl
  simp only [Bool.false_eq_true,if_false]
  rw [Bw hs hR]
  simp only
  cases ho:gS d.show_ d.state
  rotate_left
  ·have e:aM d ties values=2:=by unfold aM;rw [hd,hp,hb,ho];rfl
   rw [e];rfl
  simp only [Bool.false_eq_true,if_false]
  by_cases hh:d.show_.horizon<d.state.now
  ·have e:aM d ties values=2:=by unfold aM;rw [hd,hp,hb,ho,if_pos hh];rfl
   rw [if_pos hh,e];rfl
  rw [if_neg hh,yQ hs hx ties ht]
  simp only
  by_cases hm:ties∈aR d.show_ d.state
  ·have e:aM d ties values=0:=by unfold aM;rw [hd,hp,hb,ho,if_neg hh,if_pos hm];rfl
   rw [if_pos hm,e];rfl
  ·have e:aM d ties values=3:=by unfold aM;rw [hd,hp,hb,ho,if_neg hh,if_neg hm];rfl
   rw [if_neg hm,e];rfl
 ·intro i hi hq
  unfold eU
  try simp only
  rw [if_pos (by omega),az hi]
  simp only [obnd]
  rw [wr (by omega) (by omega)]
  by_cases h1:values[i]=1
  ·rw [if_pos h1];rfl
  ·rw [if_neg h1,if_pos (by simpa [h1] using hq)];rfl
 ·intro i hi hq
  unfold eU
  try simp only
  rw [if_pos (by omega),az hi]
  simp only [obnd]
  rw [Bool.or_eq_false_iff,decide_eq_false_iff_not,decide_eq_false_iff_not] at hq
  rw [if_neg hq.1,if_neg hq.2]
 ·unfold eU
  try simp only
  rw [if_neg (by omega)]
theorem FZ (d:GDesk)(ties values nd:List Int)(hf:FitD d)(ht:ties.length≤1048576)(h0:aM d ties values=0)(hn:nd∈decL d.show_ (endX d.show_ d.state ties)) :
  jK d ties (endX d.show_ d.state ties) nd values=some (finD d ties values nd):=by
 have hs:=hf.sh.small
 have hlog:=hf.log
 obtain ⟨g1,hp,g3,_⟩:=jg h0
 have hx:=fV g1
 have hR:=bj hx
 have hM:=iA hx g3
 have hv3:=(aS hR.val).1
 obtain ⟨p3,_⟩:=FY hp
 obtain ⟨n1,n2,n3⟩:=bZ hM.right hn
 have hps:∀ p,p∈aA d.show_ nd→1≤p∧p≤3:=fun p hp=>⟨(bf hp).1,(bf hp).2.1⟩
 have hpl:=kI d.show_ nd
 unfold jK
 rw [wL d hf]
 simp only [obnd]
 rw [uJ hs hM n2 n3]
 simp only
 have key:ar (gp ties nd values (((aA d.show_ nd).length:Nat):Int) (endX d.show_ d.state ties).now (endX d.show_ d.state ties).times (endX d.show_ d.state ties).values d.show_.horizon d.state.now d.lazy (decX (endX d.show_ d.state ties) nd).now d.show_.nodes d.show_.ties d.state.times d.state.values d.log (decX (endX d.show_ d.state ties) nd).times (decX (endX d.show_ d.state ties) nd).values (aA d.show_ nd)) (((0:Nat):Int),bC values ((aA d.show_ nd).take 0),litL values ((aA d.show_ nd).take 0))=some (bC values (aA d.show_ nd),litL values (aA d.show_ nd)):=by
  refine aG (aA d.show_ nd).length (fun i=>((i:Int),bC values ((aA d.show_ nd).take i),litL values ((aA d.show_ nd).take i))) ?_ ?_
  ·intro i hi
   have hb:=hps _ (List.getElem_mem hi)
   have htm:=EN hp (k:=(aA d.show_ nd)[i] - 1) (by omega) (by omega)
   have hsl:(bC values ((aA d.show_ nd).take i)).length≤3:=by unfold bC;rw [List.length_map,List.length_take];omega
   have hll:(litL values ((aA d.show_ nd).take i)).length≤3:=by unfold litL;rw [List.length_map,List.length_take];omega
   unfold gp
   try simp only
   rw [if_pos (by omega),az hi]
   simp only [obnd]
   rw [wr (x:=(aA d.show_ nd)[i] - 1) (by omega) (by omega),bA (by omega) (by omega)]
   simp only
   rw [ao (by omega),ao (by omega),ao (by omega),ao (by omega),wr (x:=(i:Int)+1) (by omega) (by omega),wr (x:=(aA d.show_ nd)[i]*tm values ((aA d.show_ nd)[i] - 1)) (by rcases htm with h | h <;> rw [h] <;> omega) (by rcases htm with h | h <;> rw [h] <;> omega)]
   have e1:bC values ((aA d.show_ nd).take (i+1))=bC values ((aA d.show_ nd).take i)++[tm values ((aA d.show_ nd)[i] - 1)]:=by
    unfold bC;rw [List.take_succ_eq_append_getElem hi,List.map_append];rfl
   have e2:litL values ((aA d.show_ nd).take (i+1))=litL values ((aA d.show_ nd).take i)++[(aA d.show_ nd)[i]*tm values ((aA d.show_ nd)[i] - 1)]:=by
    unfold litL;rw [List.take_succ_eq_append_getElem hi,List.map_append];rfl
   rw [e1,e2];rfl
  ·unfold gp
   try simp only
   rw [if_neg (by omega),List.take_length]
 simp only [Int.natCast_zero,List.take_zero] at key
 rw [show bC values []=[] from rfl,show litL values []=[] from rfl] at key
 rw [key]
 simp only
 obtain ⟨s1,s2⟩:=qZ hp hps
 have hnow:=hR.now
 have hhor:=hR.right.hor
 have hln:=hM.len
 have h7:=hM.right.nodes
 rw [ao (by omega),ao (by omega),ao (by omega),ao (by omega),ao (by omega),ao (by omega),(kP (decX (endX d.show_ d.state ties) nd) (aA d.show_ nd) (bC values (aA d.show_ nd)) (by show 0≤d.state.now∧d.state.now≤1000;omega) (by show (aY _ _ _ _).length≤_;rw [bL];omega) hv3 hps s1 (by omega)).2]
 rfl
theorem Ga (d:GDesk)(y:GState)(without:Int)(hf:FitD d)(hM:MomR d.show_ y):jJ d y without=some (match gU d.lazy (decL d.show_ y) (fun nd=>!decide (without∈nd)&&bk (win d.show_) d.show_ y nd) with | some nd=>(nd,true) | none=>([],false)):=by
 have hs:=hf.sh.small
 have hl:=ph hM.right y
 unfold jJ
 rw [wc hs hM]
 simp only [obnd]
 have hlen:∀ {nd},nd∈decL d.show_ y→nd.length≤7:=fun h=>(bZ hM.right h).2.1
 have e0:gU d.lazy (decL d.show_ y) (fun nd=>!decide (without∈nd)&&bk (win d.show_) d.show_ y nd)=(if d.lazy=true then (decL d.show_ y).reverse else decL d.show_ y).find? (fun nd=>!decide (without∈nd)&&bk (win d.show_) d.show_ y nd):=by
  unfold gU;split <;> rfl
 rw [e0]
 generalize hpd:(fun nd=>!decide (without∈nd)&&bk (win d.show_) d.show_ y nd)=p
 have hp0:∀ nd,p nd=(!decide (without∈nd)&&bk (win d.show_) d.show_ y nd):=fun nd=>by rw [← hpd]
 clear hpd
 generalize hL:(if d.lazy=true then (decL d.show_ y).reverse else decL d.show_ y)=L
 have hel:L.length=(decL d.show_ y).length:=by rw [← hL];split <;> simp
 have g1:d.lazy=false→∀ i (hi:i<L.length),L[i]=(decL d.show_ y)[i]'(by omega):=by
  intro hz i hi
  subst hL
  simp [hz]
 have g2:d.lazy=true→∀ i (hi:i<L.length),L[i]=(decL d.show_ y)[(decL d.show_ y).length - 1 - i]'(by omega):=by
  intro hz i hi
  subst hL
  simp [hz]
 clear hL
 have step:∀ i (hi:i<L.length),dU without (((decL d.show_ y).length:Nat):Int) d.show_.nodes d.show_.ties d.show_.horizon d.state.now d.state.times d.state.values d.lazy d.log y.now y.times y.values (decL d.show_ y) (i:Int)=(if p L[i]=true then some (.done (.inr (L[i],true))) else some (.next ((i:Int)+1))):=by
  intro i hi
  rw [hel] at hi
  unfold dU
  try simp only
  rw [if_pos (by omega),az hi]
  simp only [obnd]
  rw [wr (x:=(i:Int)+1) (by omega) (by omega)]
  cases hz:d.lazy
  ·simp only [Bool.false_eq_true,if_false]
   rw [g1 hz i (by omega),hp0]
   have hmem:=List.getElem_mem hi
   have h7:=hlen hmem
   rw [mZ _ _ (by unfold Cnt;omega)]
   simp only
   by_cases hw:without∈(decL d.show_ y)[i]
   ·rw [decide_eq_true hw];rfl
   ·rw [decide_eq_false hw]
    simp only [Bool.false_eq_true,if_false,Bool.not_false,Bool.true_and]
    rw [show (GShow.mk d.show_.nodes d.show_.ties d.show_.horizon)=d.show_ from rfl,show (GState.mk y.now y.times y.values)=y from rfl,Bz hs hM hmem]
    simp only
    rw [ao (by omega),ao (by omega)]
  ·simp only [if_true]
   have hj:(decL d.show_ y).length - 1 - i<(decL d.show_ y).length:=by omega
   rw [wr (x:=(((decL d.show_ y).length:Nat):Int) - 1) (by omega) (by omega),wr (by omega) (by omega),show (((decL d.show_ y).length:Nat):Int) - 1 - (i:Int)=(((decL d.show_ y).length - 1 - i:Nat):Int) by omega,az hj]
   simp only
   rw [g2 hz i (by omega),hp0]
   have hmem:=List.getElem_mem hj
   have h7:=hlen hmem
   rw [mZ _ _ (by unfold Cnt;omega)]
   simp only
   by_cases hw:without∈(decL d.show_ y)[(decL d.show_ y).length - 1 - i]
   ·rw [decide_eq_true hw];rfl
   ·rw [decide_eq_false hw]
    simp only [Bool.false_eq_true,if_false,Bool.not_false,Bool.true_and]
    rw [show (GShow.mk d.show_.nodes d.show_.ties d.show_.horizon)=d.show_ from rfl,show (GState.mk y.now y.times y.values)=y from rfl,Bz hs hM hmem]
    simp only
    rw [ao (by omega),ao (by omega)]
 have key:=bM (body:=dU without (((decL d.show_ y).length:Nat):Int) d.show_.nodes d.show_.ties d.show_.horizon d.state.now d.state.times d.state.values d.lazy d.log y.now y.times y.values (decL d.show_ y)) (s0:=(0:Int)) L.length
  (fun (i:Nat) (st:Int)=>st=(i:Int)∧∀ j (hj:j<L.length),j<i→p L[j]=false)
  (fun r=>r=(match L.find? p with | some nd=>.inr (nd,true) | none=>.inl ())) ⟨rfl,fun j _ h=>absurd h (by omega)⟩ ?_ ?_
 ·obtain ⟨r,hr,hp1⟩:=key
  rw [hr,hp1]
  cases L.find? p <;> rfl
 ·rintro i a hi ⟨rfl,hall⟩
  rw [step i hi]
  cases hq:p L[i]
  ·left
   refine ⟨_,if_neg (by simp),rfl,fun j hj hlt=>?_⟩
   rcases Nat.lt_or_ge j i with h | h
   ·exact hall j hj h
   ·obtain rfl:j=i:=by omega
    exact hq
  ·right
   refine ⟨_,if_pos rfl,?_⟩
   have:L.find? p=some L[i]:=by
    rw [List.find?_eq_some_iff_getElem]
    exact ⟨hq,i,hi,rfl,fun j hj=>by have h:=hall j (by omega) hj;show (!_)=true;rw [h];rfl⟩
   rw [this]
 ·rintro a ⟨rfl,hall⟩
  refine ⟨.inl (),?_,?_⟩
  ·unfold dU
   try simp only
   rw [if_neg (by rw [hel];omega)]
  ·have:L.find? p=none:=by
    rw [List.find?_eq_none]
    intro x hx
    obtain ⟨j,hj,rfl⟩:=List.getElem_of_mem hx
    have h:=hall j hj hj
    rw [h];simp
   rw [this]
theorem GT {lazy:Bool}{l:List (List Int)}{p q:List Int→Bool}(h:∀ nd,nd∈l→p nd=q nd):gU lazy l p=gU lazy l q:=by
 have key:∀ l:List (List Int),(∀ nd,nd∈l→p nd=q nd)→l.find? p=l.find? q:=by
  intro l
  induction l with
  | nil=>intro _;rfl
  | cons a l ih=>
   intro h
   simp only [List.find?_cons]
   rw [h a (by simp),ih (fun nd hn=>h nd (by simp [hn]))]
 unfold gU
 rw [key l h,key l.reverse (fun nd hn=>h nd (by simpa using hn))]
theorem DR (d:GDesk)(ties values:List Int)(hf:FitD d)(ht:ties.length≤1048576)(hv:values.length≤1048576):kD d ties values=some (kK d ties values 5 (vt d ties)):=by
 unfold kD kK
 rw [GS d ties values hf ht hv]
 simp only [obnd]
 by_cases h0:aM d ties values=0
 ·obtain ⟨g1,_,g3,_⟩:=jg h0
  have hM:=iA (fV g1) g3
  rw [if_pos h0,if_pos h0]
  simp only [if_true]
  rw [Ga d _ _ hf hM]
  have hc:gU d.lazy (decL d.show_ (endX d.show_ d.state ties)) (fun nd=>!decide ((-1:Int)∈nd)&&bk (win d.show_) d.show_ (endX d.show_ d.state ties) nd)=vt d ties:=by
   refine GT ?_
   intro nd hnd
   have:¬ (-1:Int)∈nd:=by
    intro hm
    obtain ⟨i,_,e,_⟩:=ny ((bZ hM.right hnd).2.2 _ hm)
    omega
   rw [decide_eq_false this];rfl
  rw [hc]
  cases hpk:vt d ties with
  | none=>
   simp only [Bool.false_eq_true,if_false]
   rw [wL d hf]
  | some nd=>
   simp only [if_true]
   rw [FZ d ties values nd hf ht h0 (mX hpk).1]
 ·rw [if_neg h0,if_neg h0]
  simp only
  rw [if_neg h0,wL d hf]
theorem yb (d:GDesk)(ties values:List Int)(refused:Int)(c:Option (List Int))(hf:FitD d)(ht:ties.length≤1048576)(hc:aM d ties values=0→∀ nd,c=some nd→nd∈decL d.show_ (endX d.show_ d.state ties)) :
  FitD (kK d ties values refused c).1∧(kK d ties values refused c).2.1.length≤7:=by
 unfold kK
 by_cases h0:aM d ties values=0
 ·rw [if_pos h0]
  cases c with
  | none=>exact ⟨hf,by simp⟩
  | some nd=>
   obtain ⟨g1,hp,g3,_⟩:=jg h0
   have hx:=fV g1
   have hR:=bj hx
   have hM:=iA hx g3
   have hnd:=hc h0 nd rfl
   obtain ⟨n1,n2,n3⟩:=bZ hM.right hnd
   have hlog:(d.log.length:Int)=d.state.now:=by
    unfold cQ at g1
    simp only [Bool.and_eq_true,decide_eq_true_eq] at g1
    exact g1.1.1.2
   have hnow:=hR.now
   have hhor:=hR.right.hor
   have hln:=hM.len
   have h7:=hM.right.nodes
   have hv3:=(aS hR.val).1
   have hpl:=kI d.show_ nd
   refine ⟨⟨hf.sh,⟨?_,?_⟩,?_,?_⟩,n2⟩
   ·show (aY _ _ _ _).length≤_
    rw [bL];omega
   ·show (setV _ _ _ _).length≤_
    rw [pi]
    show d.state.values.length≤_
    omega
   ·show (d.log++[_]).length≤_
    rw [List.length_append];simp;omega
   ·intro e he
    have he':e∈d.log++[⟨d.state.now,ties,nd,litL values (aA d.show_ nd)⟩]:=he
    rw [List.mem_append,List.mem_singleton] at he'
    rcases he' with he' | rfl
    ·exact hf.entry e he'
    ·exact ⟨ht,by show nd.length≤_;omega,by show (litL _ _).length≤_;unfold litL;rw [List.length_map];omega⟩
 ·rw [if_neg h0]
  exact ⟨hf,by simp⟩
end Go.Proofs.QD
set_option maxRecDepth 100000
namespace Go.Proofs.QD
open Go
end Go.Proofs.QD
set_option maxRecDepth 100000
set_option maxHeartbeats 1000000
namespace Go.Proofs.QD
open Go
theorem Gb {d:GDesk}{ties values nd:List Int}(h0:aM d ties values=0)(hn:nd∈decL d.show_ (endX d.show_ d.state ties)):aD d.show_ (finD d ties values nd).state=true:=by
 obtain ⟨g1,hp,g3,_⟩:=jg h0
 have hM:=iA (fV g1) g3
 obtain ⟨_,_,hm⟩:=bZ hM.right hn
 obtain ⟨s1,s2⟩:=qZ (values:=values) (ps:=aA d.show_ nd) hp (fun p h=>⟨(bf h).1,(bf h).2.1⟩)
 exact we hM hm s1 s2
end Go.Proofs.QD
set_option maxRecDepth 100000
set_option maxHeartbeats 1000000
namespace Go.Proofs.QD
open Go
end Go.Proofs.QD
set_option maxRecDepth 100000
set_option maxHeartbeats 1000000
namespace Go.Proofs.QD
open Go
theorem lit1 {p v:Int}(h1:1≤p)(h2:p≤3)(hv:v=1∨v=-1):pr (p*v)=p∧sgn (p*v)=v∧p*v≠0∧-3≤p*v∧p*v≤3:=by
 have:p=1∨p=2∨p=3:=by omega
 rcases this with rfl | rfl | rfl <;> rcases hv with rfl | rfl <;> decide
theorem BE {values ps:List Int}(hv:pmB values=true)(hp:∀ p,p∈ps→1≤p∧p≤3){p:Int}(h:p∈ps):pr (p*tm values (p - 1))=p∧sgn (p*tm values (p - 1))=tm values (p - 1)∧p*tm values (p - 1)≠0∧-3≤p*tm values (p - 1)∧p*tm values (p - 1)≤3:=by
 have h1:=hp p h
 exact lit1 h1.1 h1.2 (EN hv (by omega) (by omega))
theorem Pg {values ps:List Int}(hv:pmB values=true)(hp:∀ p,p∈ps→1≤p∧p≤3):(litL values ps).map pr=ps:=by
 unfold litL
 rw [List.map_map]
 conv=>rhs;rw [← List.map_id ps]
 exact List.map_congr_left (fun p h=>(BE hv hp h).1)
theorem Mb {values ps:List Int}(hv:pmB values=true)(hp:∀ p,p∈ps→1≤p∧p≤3):(litL values ps).map sgn=bC values ps:=by
 unfold litL bC
 rw [List.map_map]
 exact List.map_congr_left (fun p h=>(BE hv hp h).2.1)
theorem JN {values ps:List Int}(hv:pmB values=true)(hp:∀ p,p∈ps→1≤p∧p≤3)(ha:Asc ps):bu (litL values ps)=true:=by
 have hlen:(litL values ps).length=ps.length:=List.length_map _
 have hget:∀ i,i<ps.length→(litL values ps).getD i 0=ps.getD i 0*tm values (ps.getD i 0 - 1):=by
  intro i hi
  unfold litL
  simp [hi]
 have hmem:∀ i,i<ps.length→ps.getD i 0∈ps:=by
  intro i hi
  rw [show ps.getD i 0=ps[i] by simp [hi]]
  exact List.getElem_mem hi
 unfold bu
 refine decide_eq_true ?_
 intro i hi
 rw [hlen] at hi
 unfold labP
 refine decide_eq_true ?_
 rw [hget i hi]
 obtain ⟨a1,a2,a3,a4,a5⟩:=BE hv hp (hmem i hi)
 refine ⟨a3,a4,a5,?_⟩
 intro h0
 rw [hget (i - 1) (by omega),a1,(BE hv hp (hmem (i - 1) (by omega))).1]
 exact zO ha hi h0
theorem zm {s:GShow}(e:GEntry):∀ (log:List GEntry) (x:GState),(aZ s x log).2=true→(bQ s (aZ s x log).1 e).2=true→aZ s x (log++[e])=((bQ s (aZ s x log).1 e).1,true)
 | [],x,_,h=>by
  show (if (bQ s x e).2=true then aZ s (bQ s x e).1 [] else (jq,false))=_
  have h':(bQ s x e).2=true:=h
  rw [if_pos h'];rfl
 | f::r,x,h,g=>by
  have hc:∀ l,aZ s x (f::l)=if (bQ s x f).2=true then aZ s (bQ s x f).1 l else (jq,false):=fun _=>rfl
  rw [hc] at h g
  rw [List.cons_append,hc,hc]
  by_cases he:(bQ s x f).2=true
  ·rw [if_pos he] at h g
   rw [if_pos he,if_pos he]
   exact zm e r _ h g
  ·rw [if_neg he] at h;cases h
theorem KR {d:GDesk}{ties values nd:List Int}(h0:aM d ties values=0)(hn:nd∈decL d.show_ (endX d.show_ d.state ties)):cQ (finD d ties values nd)=true:=by
 obtain ⟨g1,hp,g3,_⟩:=jg h0
 have hps:∀ p,p∈aA d.show_ nd→1≤p∧p≤3:=fun p h=>⟨(bf h).1,(bf h).2.1⟩
 have hst:=Gb (values:=values) h0 hn
 have hg:=g1
 unfold cQ at hg
 simp only [Bool.and_eq_true,decide_eq_true_eq] at hg
 obtain ⟨⟨⟨e1,e2⟩,e3⟩,e4⟩:=hg
 have hstep:bQ d.show_ d.state ⟨d.state.now,ties,nd,litL values (aA d.show_ nd)⟩=((finD d ties values nd).state,true):=by
  unfold bQ
  rw [if_pos ⟨rfl,g3,JN hp hps (vm _ _),hn,Pg hp hps⟩]
  simp only
  rw [Mb hp hps]
  rfl
 have hrep:cE d.show_ (d.log++[⟨d.state.now,ties,nd,litL values (aA d.show_ nd)⟩])=((finD d ties values nd).state,true):=by
  unfold cE at e3 e4 ⊢
  by_cases hA:aT d.show_=true
  ·rw [if_pos hA] at e3 e4 ⊢
   rw [zm _ d.log _ e3 (by rw [e4,hstep]),e4,hstep]
  ·rw [if_neg hA] at e3;cases e3
 unfold cQ
 simp only [Bool.and_eq_true,decide_eq_true_eq]
 refine ⟨⟨⟨hst,?_⟩,?_⟩,?_⟩
 ·show (((d.log++[_]).length:Nat):Int)=d.state.now+1
  rw [List.length_append]
  simp only [List.length_cons,List.length_nil]
  omega
 ·show (cE d.show_ (d.log++[_])).2=true
  rw [hrep]
 ·show (cE d.show_ (d.log++[_])).1=_
  rw [hrep]
theorem JO {d:GDesk}{ties values:List Int}{refused:Int}{c:Option (List Int)}(hd:cQ d=true)(hc:∀ nd,c=some nd→nd∈decL d.show_ (endX d.show_ d.state ties)):cQ (kK d ties values refused c).1=true:=by
 unfold kK
 by_cases h0:aM d ties values=0
 ·rw [if_pos h0]
  cases c with
  | none=>exact hd
  | some nd=>exact KR h0 (hc nd rfl)
 ·rw [if_neg h0];exact hd
theorem KS {s:GShow}(z:Bool)(h:aT s=true):cQ (wD s z).1=true:=by
 unfold wD
 rw [if_pos h]
 unfold cQ
 simp only [Bool.and_eq_true,decide_eq_true_eq]
 refine ⟨⟨⟨wK h,rfl⟩,?_⟩,?_⟩
 ·unfold cE;rw [if_pos h];rfl
 ·unfold cE;rw [if_pos h];rfl
end Go.Proofs.QD
set_option maxRecDepth 100000
set_option maxHeartbeats 1000000
namespace Go.Proofs.QD
open Go
theorem Df {ns:List GNode}{ts:List GTie}{z:Int}(hA:gq ⟨ns,[],0⟩=true)(hW:fv ⟨ns,[],0⟩=true)(ht:∀ i (hi:i<ts.length),tieB ⟨ns,ts,z⟩ ts[i]=true∧mr ⟨ns,ts,z⟩ i ts[i]=true)(h14:ts.length≤14)(hz:1≤z∧z≤10):aT ⟨ns,ts,z⟩=true:=by
 unfold aT
 simp only [Bool.and_eq_true,decide_eq_true_eq]
 refine ⟨⟨⟨⟨hA,?_⟩,h14⟩,hz⟩,hW⟩
 intro i hi
 rw [tW hi,Bool.and_eq_true]
 exact ht i hi
def brN:List GNode:=[(GNode.mk (ByteArray.mk #[103,111]) ([]) 0),(GNode.mk (ByteArray.mk #[97]) ([]) 1),(GNode.mk (ByteArray.mk #[98]) ([1]) 0),(GNode.mk (ByteArray.mk #[99]) ([(-1)]) 0)]
def brM:List GNode:=brN++([(GNode.mk (ByteArray.mk #[100]) ([1]) 0)])
theorem QH:gq ⟨brN,[],0⟩=true:=by decide +kernel
theorem QI:gq ⟨brM,[],0⟩=true:=by decide +kernel
theorem QJ:fv ⟨brN,[],0⟩=true:=by decide +kernel
theorem QK:fv ⟨brM,[],0⟩=true:=by decide +kernel
structure BrT (t:GTie):Prop where
 f0:0≤t.from_
 f1:t.from_<4
 t0:0≤t.to
 t1:t.to<4
 ne:t.from_≠t.to
 lo:-20≤t.low
 hi:t.high≤20
 lh:t.low≤t.high
 fr:t.free=false
theorem BrT.b {t:GTie}(h:BrT t){ns:List GNode}{ts:List GTie}{z:Int}(hn:4≤ns.length):tieB ⟨ns,ts,z⟩ t=true:=by
 have h1:=h.f1
 have h2:=h.t1
 unfold tieB
 rw [decide_eq_true_eq]
 exact ⟨⟨h.f0,by show t.from_<(ns.length:Int);omega⟩,⟨h.t0,by show t.to<(ns.length:Int);omega⟩,h.ne,h.lo,h.hi,h.lh⟩
theorem BrT.f {t:GTie}(h:BrT t){s:GShow}{i:Nat}:mr s i t=true:=by
 unfold mr
 rw [h.fr];rfl
theorem Gc {c:GL01Cur}(hc:Cur c):∃ r,jw c=some r∧aT r.1=true∧FitS r.1∧Cur r.2:=by
 unfold jw
 obtain ⟨r1,e,a0,a1,hc⟩:=aX hc 3 (by omega)
 have a1:=a1 (by omega)
 rw [e];simp only [obnd]
 obtain ⟨r2,e,b0,b1,hc⟩:=aX hc 2 (by omega)
 have b1:=b1 (by omega)
 rw [e];simp only
 obtain ⟨r3,e,d0,d1,hc⟩:=aX hc 3 (by omega)
 have d1:=d1 (by omega)
 rw [e];simp only
 rw [wr (x:=4+r1.1) (by omega) (by omega),wr (x:=r2.1+r3.1) (by omega) (by omega)]
 have key:∃ q,ar (fX (4+r1.1) brN) (2,[(GTie.mk 0 1 r2.1 (r2.1+r3.1) false)],r3.2.b,r3.2.i,r3.2.h)=some q∧(∀ t,t∈q.1→BrT t)∧q.1.length≤3∧Cur ⟨q.2.1,q.2.2.1,q.2.2.2⟩:=by
  refine bM 2 (fun i st=>st.1=2+(i:Int)∧(∀ t,t∈st.2.1→BrT t)∧st.2.1.length≤1+i∧Cur ⟨st.2.2.1,st.2.2.2.1,st.2.2.2.2⟩) _ ?_ ?_ ?_
  ·refine ⟨by simp,?_,by simp,hc⟩
   intro t ht
   rw [List.mem_singleton] at ht
   subst ht
   exact ⟨by simp only;omega,by simp only;omega,by simp only;omega,by simp only;omega,by simp only;omega,by simp only;omega,by simp only;omega,by simp only;omega,rfl⟩
  ·rintro i ⟨k,ts,b,j,d⟩ hi ⟨hk,hp,hl,hcu⟩
   simp only at hk hp hl hcu
   subst hk
   unfold fX
   simp only
   rw [if_pos (by omega)]
   obtain ⟨r7,e,f0,f1,hcu⟩:=aX hcu 3 (by omega)
   have f1:=f1 (by omega)
   rw [e];simp only [obnd]
   obtain ⟨r8,e,g0,g1,hcu⟩:=aX hcu 2 (by omega)
   have g1:=g1 (by omega)
   rw [e];simp only
   obtain ⟨r9,e,k0,k1,hcu⟩:=aX hcu 3 (by omega)
   have k1:=k1 (by omega)
   rw [e];simp only
   rw [ao (by omega),ao (by omega),wr (x:=2+(i:Int)+1) (by omega) (by omega),wr (x:=r7.1+1) (by omega) (by omega),wr (x:=r7.1+1+r9.1) (by omega) (by omega)]
   refine .inl ⟨_,rfl,?_,?_,?_,hcu⟩
   ·simp only;omega
   ·intro t ht
    rw [List.mem_append,List.mem_singleton] at ht
    rcases ht with ht | rfl
    ·exact hp t ht
    ·exact ⟨by simp only;omega,by simp only;omega,by simp only;omega,by simp only;omega,by simp only;omega,by simp only;omega,by simp only;omega,by simp only;omega,rfl⟩
   ·simp only [List.length_append,List.length_singleton];omega
  ·rintro ⟨k,ts,b,j,d⟩ ⟨hk,hp,hl,hcu⟩
   simp only at hk hp hl hcu
   subst hk
   unfold fX
   simp only
   rw [if_neg (by omega)]
   exact ⟨_,rfl,hp,by simp only;omega,hcu⟩
 obtain ⟨q,e,hp,hl,hcu⟩:=key
 unfold brN at e
 rw [e];simp only
 obtain ⟨r11,e,hcu⟩:=qS hcu 2 (by omega)
 rw [e];simp only
 by_cases h1:r11.1=true
 ·rw [if_pos h1]
  obtain ⟨r12,e,g0,g1,hcu⟩:=aX hcu 2 (by omega)
  have g1:=g1 (by omega)
  rw [e];simp only
  rw [ao (by decide),ao (by decide)]
  obtain ⟨r13,e,k0,k1,hcu⟩:=aX hcu 2 (by omega)
  have k1:=k1 (by omega)
  rw [e];simp only
  rw [ao (by omega),ao (by omega),wr (x:=1+r12.1) (by omega) (by omega),wr (x:=1+r12.1+r13.1) (by omega) (by omega)]
  refine ⟨_,rfl,?_,?_,hcu⟩
  ·refine Df (ns:=brM) QI QK ?_ (by simp only [List.length_append,List.length_singleton];omega) (by omega)
   intro i hi
   rw [List.length_append,List.length_singleton] at hi
   by_cases hi':i<q.1.length
   ·rw [List.getElem_append_left hi']
    have h:=hp _ (List.getElem_mem hi')
    exact ⟨h.b (by decide),h.f⟩
   ·have hie:i=q.1.length:=by omega
    subst hie
    rw [List.getElem_append_right (Nat.le_refl _)]
    simp only [Nat.sub_self,List.getElem_cons_zero]
    constructor
    ·unfold tieB
     rw [decide_eq_true_eq]
     refine ⟨⟨by simp only;omega,(by decide:(2:Int)<((brM.length:Nat):Int))⟩,⟨by simp only;omega,(by decide:(4:Int)<((brM.length:Nat):Int))⟩,by simp only;omega,by simp only;omega,by simp only;omega,by simp only;omega⟩
    ·unfold mr
     simp only [Bool.not_true,Bool.false_or,Bool.and_eq_true,decide_eq_true_eq]
     refine ⟨⟨by omega,by decide⟩,?_⟩
     rw [Bool.not_eq_true',List.any_eq_false]
     intro u hu hx
     rw [List.take_append_of_le_length (Nat.le_refl _),List.take_length] at hu
     rw [(hp u hu).fr] at hx
     simp at hx
  ·refine ⟨(by decide:brM.length≤1048576),by simp only [List.length_append,List.length_singleton];omega,?_⟩
   intro n hn
   have:∀ n,n∈brM→FitN n:=by
    intro n hn
    unfold brM brN at hn
    simp only [List.mem_append,List.mem_cons,List.not_mem_nil,or_false] at hn
    rcases hn with (rfl | rfl | rfl | rfl) | rfl <;> exact ⟨by decide,by decide⟩
   exact this n hn
 ·rw [if_neg h1]
  refine ⟨_,rfl,?_,?_,hcu⟩
  ·refine Df (ns:=brN) QH QJ ?_ (by omega) (by omega)
   intro i hi
   have h:=hp _ (List.getElem_mem hi)
   exact ⟨h.b (by decide),h.f⟩
  ·refine ⟨(by decide:brN.length≤1048576),by show q.1.length≤_;omega,?_⟩
   intro n hn
   have:∀ n,n∈brN→FitN n:=by
    intro n hn
    unfold brN at hn
    simp only [List.mem_cons,List.not_mem_nil,or_false] at hn
    rcases hn with rfl | rfl | rfl | rfl <;> exact ⟨by decide,by decide⟩
   exact this n hn
theorem ID {c:GL01Cur}(hc:Cur c):∃ r,lr c=some r∧aT r.1=true∧FitS r.1∧Cur r.2:=by
 unfold lr
 obtain ⟨r1,e,hc⟩:=qS hc 3 (by omega)
 rw [e];simp only [obnd]
 by_cases h1:r1.1=true
 ·rw [if_pos h1]
  obtain ⟨r,e,h1,h2,h3⟩:=Gc hc
  rw [e]
  exact ⟨_,rfl,h1,h2,h3⟩
 ·rw [if_neg h1]
  obtain ⟨r,e,h1,h2,h3⟩:=GK hc
  rw [e]
  exact ⟨_,rfl,h1,h2,h3⟩
end Go.Proofs.QD
set_option maxRecDepth 100000
set_option maxHeartbeats 1000000
namespace Go.Proofs.QD
open Go
theorem Gd {c:GL01Cur}(hc:Cur c):∃ r,jF c=some r∧r.1.length≤1048576∧Cur r.2:=by
 unfold jF
 have key:∃ q,ar (gi) (0,[],c.b,c.i,c.h)=some q∧q.1.length=3∧Cur ⟨q.2.1,q.2.2.1,q.2.2.2⟩:=by
  refine bM 3 (fun i st=>st.1=(i:Int)∧st.2.1.length=i∧Cur ⟨st.2.2.1,st.2.2.2.1,st.2.2.2.2⟩) _ ⟨rfl,rfl,hc⟩ ?_ ?_
  ·rintro i ⟨p,v,b,j,d⟩ hi ⟨hk,hl,hcu⟩
   simp only at hk hl hcu
   subst hk
   unfold gi
   simp only
   rw [if_pos (by omega)]
   obtain ⟨r2,e,f0,f1,hcu⟩:=aX hcu 2 (by omega)
   have f1:=f1 (by omega)
   rw [e];simp only [obnd]
   rw [ao (by omega),ao (by omega),wr (x:=(i:Int)+1) (by omega) (by omega)]
   refine .inl ⟨_,rfl,?_,?_,hcu⟩
   ·simp only;omega
   ·simp only [List.length_append,List.length_singleton];omega
  ·rintro ⟨p,v,b,j,d⟩ ⟨hk,hl,hcu⟩
   simp only at hk hl hcu
   subst hk
   unfold gi
   simp only
   rw [if_neg (by omega)]
   exact ⟨_,rfl,hl,hcu⟩
 obtain ⟨q,e,hl,hcu⟩:=key
 rw [e];simp only [obnd]
 obtain ⟨r4,e,hcu⟩:=qS hcu 20 (by omega)
 rw [e];simp only
 by_cases h:r4.1=true
 ·rw [if_pos h,show (0:Int)=((0:Nat):Int) from rfl,az (by omega)]
  exact ⟨_,rfl,by simp only [List.length_set];omega,hcu⟩
 ·rw [if_neg h]
  exact ⟨_,rfl,by simp only;omega,hcu⟩
theorem GU (code:List Int)(h:code.length≤1048576):∃ d,kE code=some d∧cQ d=true∧FitD d:=by
 unfold kE
 obtain ⟨c,e,hc⟩:=CX code h
 rw [e];simp only [obnd]
 unfold nu
 obtain ⟨r1,e,s1,s2,hc⟩:=ID hc
 rw [e];simp only [obnd]
 obtain ⟨r2,e,hc⟩:=qS hc 3 (by omega)
 rw [e];simp only
 rw [FE r1.1 r2.1 s2];simp only
 obtain ⟨r4,e,a0,a1,hc⟩:=aX hc 4 (by omega)
 have a1:=a1 (by omega)
 rw [e];simp only
 have hd:=KS r2.1 s1
 have hf:=Jw r1.1 r2.1 s2
 generalize (wD r1.1 r2.1).1=D at hd hf
 have key:∃ q,ar (iP) (r4.1,D.show_.horizon,D.state.now,D.lazy,D.show_.nodes,D.show_.ties,D.state.times,D.state.values,D.log,r4.2.b,r4.2.i,r4.2.h)=some q ∧
   (match q with | .inl t=>cQ (GDesk.mk (GShow.mk t.2.2.2.1 t.2.2.2.2.1 t.1) (GState.mk t.2.1 t.2.2.2.2.2.1 t.2.2.2.2.2.2.1) t.2.2.1 t.2.2.2.2.2.2.2.1)=true∧FitD (GDesk.mk (GShow.mk t.2.2.2.1 t.2.2.2.2.1 t.1) (GState.mk t.2.1 t.2.2.2.2.2.1 t.2.2.2.2.2.2.1) t.2.2.1 t.2.2.2.2.2.2.2.1) | .inr t=>cQ t.1=true∧FitD t.1):=by
  refine bM r4.1.toNat (fun i st=>st.1=r4.1 - (i:Int)∧(∃ E:GDesk,cQ E=true∧FitD E∧st.2=(E.show_.horizon,E.state.now,E.lazy,E.show_.nodes,E.show_.ties,E.state.times,E.state.values,E.log,st.2.2.2.2.2.2.2.2.2)∧Cur ⟨st.2.2.2.2.2.2.2.2.2.1,st.2.2.2.2.2.2.2.2.2.2.1,st.2.2.2.2.2.2.2.2.2.2.2⟩)) _ ⟨by simp,D,hd,hf,rfl,hc⟩ ?_ ?_
  ·rintro i ⟨n,st⟩ hi ⟨hk,E,hE,fE,hst,hcu⟩
   simp only at hk hst hcu
   obtain ⟨b,j,k,hb⟩:∃ b j k,st.2.2.2.2.2.2.2.2=(b,j,k):=⟨_,_,_,rfl⟩
   rw [hb] at hst hcu
   simp only at hcu
   subst hst
   subst hk
   unfold iP
   simp only
   rw [if_pos (by omega)]
   rw [show (GShow.mk E.show_.nodes E.show_.ties E.show_.horizon)=E.show_ from rfl,show (GState.mk E.state.now E.state.times E.state.values)=E.state from rfl,show (GDesk.mk E.show_ E.state E.lazy E.log)=E from rfl]
   rw [uF fE.sh.small (fV hE) fE.st.times fE.st.values]
   simp only [obnd]
   by_cases h0:(((aR E.show_ E.state).length:Nat):Int)=0
   ·rw [if_pos h0]
    exact .inr ⟨_,rfl,hE,fE⟩
   ·rw [if_neg h0]
    have hR:=bj (fV hE)
    have hel:=mW (x:=E.state) hR.ok
    obtain ⟨r16,e,f0,f1,hcu⟩:=aX hcu (((aR E.show_ E.state).length:Nat):Int) (by omega)
    have f1:=f1 (by omega)
    rw [e];simp only
    obtain ⟨m,hm⟩:∃ m:Nat,r16.1=(m:Int):=⟨r16.1.toNat,by omega⟩
    rw [hm,az (by omega)]
    simp only
    obtain ⟨r18,e,v1,hcu⟩:=Gd hcu
    rw [e];simp only
    have ht:((aR E.show_ E.state)[m]'(by omega)).length≤1048576:=by
     have:=(fq hR.ok (List.getElem_mem (l:=aR E.show_ E.state) (n:=m) (by omega))).2.1
     omega
    rw [DR E _ r18.1 fE ht v1]
    simp only
    rw [wr (x:=r4.1 - i - 1) (by omega) (by omega)]
    refine .inl ⟨_,rfl,by simp only;omega,(kK E _ r18.1 5 (vt E _)).1,JO hE (fun nd hn=>(mX hn).1),(yb E _ r18.1 5 _ fE ht (fun _ nd hn=>(mX hn).1)).1,rfl,hcu⟩
  ·rintro ⟨n,st⟩ ⟨hk,E,hE,fE,hst,hcu⟩
   simp only at hk hst hcu
   obtain ⟨b,j,k,hb⟩:∃ b j k,st.2.2.2.2.2.2.2.2=(b,j,k):=⟨_,_,_,rfl⟩
   rw [hb] at hst hcu
   subst hst
   subst hk
   unfold iP
   simp only
   rw [if_neg (by omega)]
   exact ⟨_,rfl,hE,fE⟩
 obtain ⟨q,e,hq⟩:=key
 rw [e];simp only
 cases q with
 | inl t=>exact ⟨_,rfl,hq.1,hq.2⟩
 | inr t=>exact ⟨_,rfl,hq.1,hq.2⟩
theorem CE {s:GShow}{x:GState}(hs:aP s)(fx:FitX x)(hx:aD s x=true):jL s x=some (aR s x):=by
 unfold jL
 rw [uB s x hs fx.times fx.values]
 simp only [obnd]
 rw [hx,if_pos rfl,qU hx]
theorem zn {s:GShow}{x:GState}(hs:aP s)(fx:FitX x)(hx:aD s x=true):dr s x=some (win s x):=by
 unfold dr
 rw [uB s x hs fx.times fx.values]
 simp only [obnd]
 rw [hx,if_pos rfl]
 unfold eG
 simp only
 obtain ⟨k,_,e⟩:=CC hs x.now (bj hx).now.1 [] x hx rfl (vq s)
 rw [e]
end Go.Proofs.QD
set_option maxRecDepth 100000
set_option maxHeartbeats 1000000
namespace Go.Proofs.QD
open Go
theorem Me {ps vs:List Int}(h3:ps.length≤3)(hl:vs.length=ps.length)(hv:∀ v,v∈vs→v=1∨v=-1):vs∈obsL ps:=by
 unfold obsL
 rw [← hl]
 have h3':vs.length≤3:=by omega
 clear hl
 match vs,hv,h3' with
 | [],_,_=>decide +kernel
 | [a],hv,_=>
  rcases hv a (by simp) with rfl | rfl <;> decide +kernel
 | [a,b],hv,_=>
  rcases hv a (by simp) with rfl | rfl <;> rcases hv b (by simp) with rfl | rfl <;> decide +kernel
 | [a,b,c],hv,_=>
  rcases hv a (by simp) with rfl | rfl <;> rcases hv b (by simp) with rfl | rfl <;> rcases hv c (by simp) with rfl | rfl <;> decide +kernel
 | _::_::_::_::_,_,h=>simp at h
theorem Hu {d:GDesk}{ties values nd:List Int}(h0:aM d ties values=0)(hs:bk (win d.show_) d.show_ (endX d.show_ d.state ties) nd=true):win d.show_ (finD d ties values nd).state=true:=by
 obtain ⟨g1,hp,g3,_⟩:=jg h0
 have hps:∀ p,p∈aA d.show_ nd→1≤p∧p≤3:=fun p h=>⟨(bf h).1,(bf h).2.1⟩
 obtain ⟨s1,s2⟩:=qZ (values:=values) (ps:=aA d.show_ nd) hp hps
 unfold bk at hs
 rw [List.all_eq_true] at hs
 exact hs _ (Me (kI _ _) s1 s2)
theorem JP {s:GShow}{x:GState}(h:((aR s x).length:Int)=0):s.horizon<x.now:=by
 unfold aR at h
 split at h
 ·assumption
 ·rw [List.length_map,List.length_range] at h
  have:0<2^(mayL s x).length:=Nat.pow_pos (by omega)
  omega
theorem JQ {d:GDesk}{ties values:List Int}(hd:cQ d=true)(hp:pmB values=true):(aM d ties values=2∧(cJ d.show_ d.state=true∨gS d.show_ d.state=true∨d.show_.horizon<d.state.now))∨(¬ cJ d.show_ d.state=true∧¬ gS d.show_ d.state=true∧¬ d.show_.horizon<d.state.now∧aM d ties values=if ties∈aR d.show_ d.state then 0 else 3):=by
 unfold aM
 rw [if_pos hd,if_pos hp]
 by_cases hb:cJ d.show_ d.state=true
 ·rw [if_pos hb];exact .inl ⟨rfl,.inl hb⟩
 ·rw [if_neg hb]
  by_cases ho:gS d.show_ d.state=true
  ·rw [if_pos ho];exact .inl ⟨rfl,.inr (.inl ho)⟩
  ·rw [if_neg ho]
   by_cases hh:d.show_.horizon<d.state.now
   ·rw [if_pos hh];exact .inl ⟨rfl,.inr (.inr hh)⟩
   ·rw [if_neg hh];exact .inr ⟨hb,ho,hh,rfl⟩
theorem IE {lazy:Bool}{l:List (List Int)}{p:List Int→Bool}(h:gU lazy l p=none):∀ nd,nd∈l→p nd=false:=by
 unfold gU at h
 intro nd hn
 split at h
 ·simpa using List.find?_eq_none.1 h nd (by simpa using hn)
 ·simpa using List.find?_eq_none.1 h nd hn
theorem zP {α:Type}(q p:α→Bool):∀ (l:List α) (a:α),l.find? p=some a→q a=true→l.find? (fun x=>q x&&p x)=some a
 | [],a,h,_=>by simp at h
 | x::l,a,h,hq=>by
  rw [List.find?_cons] at h ⊢
  cases hp:p x with
  | true=>
   rw [hp] at h
   cases h
   rw [hq];rfl
  | false=>
   rw [hp] at h
   rw [Bool.and_false]
   exact zP q p l a h hq
theorem JR {lazy:Bool}{l:List (List Int)}{p q:List Int→Bool}{a:List Int}(h:gU lazy l p=some a)(hq:q a=true):gU lazy l (fun x=>q x&&p x)=some a:=by
 unfold gU at h ⊢
 split at h
 ·rename_i hz;rw [if_pos hz];exact zP q p _ a h hq
 ·rename_i hz;rw [if_neg hz];exact zP q p _ a h hq
theorem GV (a b:List Int)(h:Cnt a.length):kv a b=some (decide (a=b)):=by
 unfold kv
 by_cases hl:((a.length:Nat):Int)=((b.length:Nat):Int)
 ·have hlen:a.length=b.length:=by omega
  rw [if_pos hl]
  have key:ar (eJ b a ((a.length:Nat):Int)) ((0:Nat):Int)=some (if ∀ i,i<a.length→decide (a.getD i 0=b.getD i 0)=true then .inl () else .inr false):=by
   refine bN a.length (fun i=>(i:Int)) (fun i=>decide (a.getD i 0=b.getD i 0)) ?_ ?_ ?_
   ·intro i hi hp
    unfold eJ
    rw [if_pos (by omega),br hi,br (by omega)]
    simp only [obnd]
    rw [if_pos (of_decide_eq_true hp),wr (by omega) (by omega)];rfl
   ·intro i hi hp
    unfold eJ
    rw [if_pos (by omega),br hi,br (by omega)]
    simp only [obnd]
    rw [if_neg (of_decide_eq_false hp)]
   ·unfold eJ
    rw [if_neg (by omega)]
  rw [show (0:Int)=((0:Nat):Int) from rfl,key]
  simp only [obnd]
  have hiff:(∀ i,i<a.length→decide (a.getD i 0=b.getD i 0)=true)↔a=b:=by
   constructor
   ·intro h
    apply List.ext_getElem hlen
    intro i h1 h2
    have:=of_decide_eq_true (h i h1)
    simpa [h1,h2] using this
   ·rintro rfl i _
    exact decide_eq_true rfl
  by_cases hab:a=b
  ·rw [if_pos (hiff.2 hab),decide_eq_true hab]
  ·rw [if_neg (fun h=>hab (hiff.1 h)),decide_eq_false hab]
 ·rw [if_neg hl,decide_eq_false (by rintro rfl;exact hl rfl)]
theorem KT (code:List Int):oP code=some true:=by
 unfold oP
 by_cases hc:1048576<((code.length:Nat):Int)
 ·rw [if_pos hc]
 rw [if_neg hc]
 obtain ⟨d,e,hd,hf⟩:=GU code (by omega)
 rw [e];simp only [obnd]
 have hx:=fV hd
 have hR:=bj hx
 have hs:=hf.sh.small
 rw [CE hs hf.st hx];simp only
 by_cases h0:(((aR d.show_ d.state).length:Nat):Int)=0
 ·rw [if_pos h0,if_pos (JP h0),vA d hf,hd]
 have hg0:=az (show 0<(aR d.show_ d.state).length by omega)
 rw [show ((0:Nat):Int)=0 from rfl] at hg0
 rw [if_neg h0,hg0]
 simp only
 have ht0:(aR d.show_ d.state)[0]'(by omega)∈aR d.show_ d.state:=List.getElem_mem _
 generalize (aR d.show_ d.state)[0]'(by omega)=ties at ht0
 obtain ⟨a1,a2,a3⟩:=fq hR.ok ht0
 obtain ⟨m,e⟩:=Iq code 40 (by omega) (by omega) (by omega)
 rw [e];simp only
 have hn1:=hR.right.node1
 rw [ao (by omega)]
 generalize Int.tmod m ((d.show_.nodes.length:Nat):Int)=node
 rw [DQ d ties node [1,1,1] hf (by omega) (by decide)];simp only
 rw [DP d ties [1,1,1] hf (by omega) (by decide)];simp only
 unfold kK
 have hsame:gO d d=some true:=by rw [Cu d d hf,decide_eq_true rfl]
 obtain ⟨g2,_⟩|⟨_,_,_,g⟩:=JQ (ties:=ties) (values:=[1,1,1]) hd (by decide)
 ·have hg:¬ aM d ties [1,1,1]=0:=by omega
  rw [if_neg hg,if_neg hg]
  simp only
  rw [if_neg hg,hsame]
  simp
 ·rw [if_pos ht0] at g
  rw [if_pos g,if_pos g]
  have hM:=iA hx ht0
  cases hh:BD d ties node with
  | none=>
   simp only
   rw [if_neg (by decide),hsame]
   simp only [if_true]
   split <;> rfl
  | some nd=>
   obtain ⟨n1,n2⟩:=mX hh
   simp only [Bool.and_eq_true,Bool.not_eq_true',decide_eq_false_iff_not] at n2
   cases htk:vt d ties with
   | none=>exact absurd (IE htk nd n1) (by rw [n2.2];simp)
   | some nd'=>
    obtain ⟨m1,m2⟩:=mX htk
    have f1:=bZ hM.right n1
    have f2:=bZ hM.right m1
    have w1:dr d.show_ (finD d ties [1,1,1] nd).state=some true:=by
     have ff:=(yb d ties [1,1,1] 5 (some nd) hf (by omega) (fun _ x h=>by cases h;exact n1)).1
     unfold kK at ff
     rw [if_pos g] at ff
     rw [zn hs ff.st (Gb g n1),Hu g n2.2]
    have w2:dr d.show_ (finD d ties [1,1,1] nd').state=some true:=by
     have ff:=(yb d ties [1,1,1] 5 (some nd') hf (by omega) (fun _ x h=>by cases h;exact m1)).1
     unfold kK at ff
     rw [if_pos g] at ff
     rw [zn hs ff.st (Gb g m1),Hu g m2]
    simp only [if_true]
    rw [JC _ _ (by omega),decide_eq_false n2.1]
    simp only [Bool.false_eq_true,if_false]
    change obnd (dr d.show_ (finD d ties [1,1,1] nd).state) _=_
    rw [w1]
    simp only [obnd,if_true]
    change obnd (dr d.show_ (finD d ties [1,1,1] nd').state) _=_
    rw [w2]
    simp only [obnd,if_true]
    rw [JC _ _ (by omega)]
    simp only
    by_cases hm:node∈nd'
    ·rw [decide_eq_true hm,if_pos rfl]
    ·rw [decide_eq_false hm,if_neg (by simp),GV _ _ (by unfold Cnt;omega)]
     have hq:=JR (q:=fun x=>!decide (node∈x)) htk (by simp [hm])
     have:BD d ties node=some nd':=hq
     rw [hh] at this
     cases this
     rw [decide_eq_true rfl]
end Go.Proofs.QD
set_option maxRecDepth 100000
set_option maxHeartbeats 1000000
namespace Go.Proofs.QD
open Go
end Go.Proofs.QD
