/- The reference's game reckons winning too. Own work. -/
import Derived.Test.YtghfphjfkdbpjaaGreatZP33
set_option linter.all false
set_option maxRecDepth 100000
namespace Go.Proofs.QZ
open Go
abbrev RecS:=GShow→GState→Option Bool
def xh (s:GShow)(t:Int)(rec:RecS):Prop:=∀ x,aI s x=true→x.now=t→rec s x=some (win s x)
theorem xi {s:GShow}(hs:aQ s){rec:RecS}{y:GState}(hr:xh s (y.now+1) rec)(h:MomR s y){nodes:List Int}(hn:nodes∈decL s y):gE rec s y nodes=some (bp (win s) s y nodes):=by
 obtain ⟨ha,hl7,hm⟩:=cT h.right hn
 have hv:=(aT h.val).1
 have h7:=h.right.nodes
 have hln:=h.len
 have hnow:=h.now
 have hh:=h.right.hor
 have hp:∀ p,p∈aB s nodes→1≤p∧p≤3:=fun p hp=>⟨(bC hp).1,(bC hp).2.1⟩
 have hl3:=lZ s nodes
 have ho:=Hk (ps:=aB s nodes) (by omega)
 unfold gE
 rw [tK hs h hl7 hm]
 simp only [obnd]
 rw [wo (xe s nodes) hp hl3]
 simp only
 have key:=gL (body:=iR rec (((obsL (aB s nodes)).length:Nat):Int) s.nodes s.ties s.horizon (decX y nodes).now (decX y nodes).times (decX y nodes).values (aB s nodes) (obsL (aB s nodes)))
  (obsL (aB s nodes)) (fun vs=>win s (obsX (decX y nodes) (aB s nodes) vs)) (fun i=>(i:Int)) (rT:=.inl ()) (rF:=.inr false) ?_ ?_ ?_
 ·rw [show ((0:Nat):Int)=0 from rfl] at key
  rw [key]
  unfold bp
  cases (obsL (aB s nodes)).all (fun vs=>win s (obsX (decX y nodes) (aB s nodes) vs)) <;> rfl
 all_goals first
  | (
   intro i hi hq
   obtain ⟨h1,h2⟩:=sZ (List.getElem_mem hi)
   have hob:=xf h hm h1 h2
   have e:=hr _ hob rfl
   unfold iR
   try simp only
   rw [if_pos (by omega),au hi]
   simp only [obnd]
   rw [show (GState.mk (decX y nodes).now (decX y nodes).times (decX y nodes).values)=decX y nodes from rfl,(kQ (decX y nodes) (aB s nodes) _ (by show 0≤y.now∧y.now≤1000;omega) (by show (aY _ _ _ _).length≤_;rw [bT];omega) hv hp h1 (by omega)).2]
   simp only
   rw [show (GShow.mk s.nodes s.ties s.horizon)=s from rfl,e,hq]
   first | rfl | (simp only [if_true];rw [wr (by omega) (by omega)];rfl))
  | (
   unfold iR
   try simp only
   rw [if_neg (by omega)])
theorem MD {s:GShow}(hs:aQ s){rec:RecS}{y:GState}(hr:xh s (y.now+1) rec)(h:MomR s y):kw rec s y=some (anyB (win s) s y):=by
 have h7:=vc h.right y
 have hpow:=pj h7
 have hpos:0<2^(enL s y).length:=Nat.pow_pos (by omega)
 unfold kw
 rw [wc hs h]
 simp only [obnd]
 rw [wru (by omega),am (by omega),Int.toNat_natCast,lL h7,wr (by omega) (by omega)]
 have hlen:(decL s y).length=2^(enL s y).length:=by unfold decL;simp
 have hget:∀ j (hj:j<(decL s y).length),(decL s y)[j]=lf s y j:=by
  intro j hj
  have:(decL s y)[j]?=some (lf s y j):=by
   unfold decL
   rw [List.getElem?_map,List.getElem?_range (by omega)];rfl
  rw [List.getElem?_eq_getElem hj] at this
  exact Option.some.inj this
 have key:=jk (body:=gF rec s.nodes s.ties s.horizon y.now y.times y.values (enL s y)) (decL s y) (bp (win s) s y) (fun j=>((2^(enL s y).length:Nat):Int) - 1 - (j:Int)) (rT:=.inl ()) (fun _=>.inr true) ?_ ?_ ?_
 ·simp only [Int.natCast_zero,Int.sub_zero] at key
  rw [key]
  unfold anyB
  have hany:(decL s y).any (bp (win s) s y)=((decL s y).findIdx? (bp (win s) s y)).isSome:=(List.findIdx?_isSome).symm
  rw [hany]
  cases (decL s y).findIdx? (bp (win s) s y) <;> rfl
 ·intro j hj hq
  have hmem:=List.getElem_mem hj
  have e:=xi hs hr h hmem
  rw [hget j hj] at e hq
  have hd:lf s y j=sel (ck (((2^(enL s y).length:Nat):Int) - 1 - (j:Int))) (enL s y) (enL s y).length:=by
   unfold lf
   rw [show ((2^(enL s y).length - 1 - j:Nat):Int)=((2^(enL s y).length:Nat):Int) - 1 - (j:Int) by omega]
  unfold gF
  try simp only
  rw [if_pos (by omega),qV _ _ (by omega),← hd]
  simp only [obnd]
  rw [show (GShow.mk s.nodes s.ties s.horizon)=s from rfl,show (GState.mk y.now y.times y.values)=y from rfl,e,hq]
  simp only [Bool.false_eq_true,if_false]
  rw [wr (by omega) (by omega)]
  congr 2
  omega
 ·intro j hj hq
  have hmem:=List.getElem_mem hj
  have e:=xi hs hr h hmem
  rw [hget j hj] at e hq
  have hd:lf s y j=sel (ck (((2^(enL s y).length:Nat):Int) - 1 - (j:Int))) (enL s y) (enL s y).length:=by
   unfold lf
   rw [show ((2^(enL s y).length - 1 - j:Nat):Int)=((2^(enL s y).length:Nat):Int) - 1 - (j:Int) by omega]
  unfold gF
  try simp only
  rw [if_pos (by omega),qV _ _ (by omega),← hd]
  simp only [obnd]
  rw [show (GShow.mk s.nodes s.ties s.horizon)=s from rfl,show (GState.mk y.now y.times y.values)=y from rfl,e,hq]
  rfl
 ·unfold gF
  try simp only
  rw [if_neg (by omega)]
theorem Fc {s:GShow}(hs:aQ s){rec:RecS}{x:GState}(hx:aI s x=true)(hr:xh s (x.now+1) rec):kx rec s x=some (win s x):=by
 have hR:=bz hx
 have hv:=(aT hR.val).1
 have h6:=td hR.ok x
 have hmm:=tG s x
 have hpow:=pj (m:=(mayL s x).length) (by omega)
 unfold kx
 rw [xg hs hR]
 simp only [obnd]
 have hw:=Ho hx
 unfold lN at hw
 cases hb:ek s x
 ·rw [hb] at hw
  simp only [Bool.false_eq_true,if_false] at hw ⊢
  rw [BV hs hR]
  simp only
  cases ho:jS s x
  ·rw [ho] at hw
   simp only [Bool.false_eq_true,if_false] at hw ⊢
   obtain ⟨b,eb,hbw⟩:=Io hs hx
   rw [eb]
   simp only
   cases b
   ·simp only [Bool.false_eq_true,if_false]
    rw [wa hx]
    simp only
    have hh:x.now≤s.horizon:=by
     unfold ek at hb
     rw [Bool.or_eq_false_iff,ho] at hb
     have:=hb.2
     simp only [Bool.not_false,Bool.and_true,decide_eq_false_iff_not] at this
     omega
    have hends:bm s x=(List.range (2^(mayL s x).length)).map (kH s x):=by unfold bm;rw [if_neg (by omega)]
    have hlen:(bm s x).length=2^(mayL s x).length:=by rw [hends];simp
    have hget:∀ j (hj:j<(bm s x).length),(bm s x)[j]=kH s x j:=by
     intro j hj
     have:(bm s x)[j]?=some (kH s x j):=by
      rw [hends,List.getElem?_map,List.getElem?_range (by omega)];rfl
     rw [List.getElem?_eq_getElem hj] at this
     exact Option.some.inj this
    have step:∀ j (hj:j<(bm s x).length),gG rec s.nodes s.ties s.horizon x.now x.times x.values (kG s x) (mayL s x) (j:Int)=(if anyB (win s) s (endX s x (bm s x)[j])=true then some (.next ((j:Int)+1)) else some (.done (.inr false))):=by
     intro j hj
     have hmem:=List.getElem_mem hj
     obtain ⟨a1,a2,a3⟩:=iE hR.ok hmem
     have hM:=ju hx hmem
     have e:=MD hs (y:=endX s x (bm s x)[j]) hr hM
     obtain ⟨f1,f2,f3,f4,f5,f6⟩:=rR hR.ok x j
     rw [hget j hj] at e a2 a3 ⊢
     unfold gG
     try simp only
     rw [wru (by omega),am (by omega),Int.toNat_natCast,lL (by omega),if_pos (by omega),qV _ _ (by omega)]
     simp only [obnd]
     rw [f2]
     simp only
     rw [show (GShow.mk s.nodes s.ties s.horizon)=s from rfl,show (GState.mk x.now x.times x.values)=x from rfl,xc hx (by omega) (by omega) a3]
     simp only
     rw [e]
     simp only
     rw [wr (by omega) (by omega)]
    have key:=gL (body:=gG rec s.nodes s.ties s.horizon x.now x.times x.values (kG s x) (mayL s x)) (bm s x) (fun ties=>anyB (win s) s (endX s x ties)) (fun i=>(i:Int)) (rT:=.inl ()) (rF:=.inr false) ?_ ?_ ?_
    ·rw [show ((0:Nat):Int)=0 from rfl] at key
     rw [key,hw]
     cases (bm s x).all (fun ties=>anyB (win s) s (endX s x ties)) <;> rfl
    ·intro i hi hq
     rw [step i hi,hq];rfl
    ·intro i hi hq
     rw [step i hi,hq];rfl
    ·unfold gG
     try simp only
     rw [wru (by omega),am (by omega),Int.toNat_natCast,lL (by omega),if_neg (by omega)]
   ·simp only [if_true]
    rw [hbw rfl]
  ·rw [ho] at hw
   rw [hw];rfl
 ·rw [hb] at hw
  rw [hw];rfl
theorem wd {s:GShow}(hs:aQ s):∀ (n:Nat) (t:Int),12≤(n:Int)+t→xh s t (ky n)
 | 0,t,h=>by
  intro x hx ht
  have:=(bz hx).now
  have:=(bz hx).right.hor
  omega
 | n+1,t,h=>by
  intro x hx ht
  exact Fc hs hx (by rw [ht];exact wd hs n (t+1) (by omega))
theorem Ip {s:GShow}(hs:aQ s)(t:Int)(h:0≤t):xh s t m_spec_l15Win:=wd hs 40 t (by omega)
theorem vK {s:GShow}(hs:aQ s){y:GState}(h:MomR s y){nodes:List Int}(hn:nodes∈decL s y):lB s y nodes=some (bp (win s) s y nodes):=
 xi hs (Ip hs _ (by have:=h.now;omega)) h hn
end Go.Proofs.QZ
set_option maxRecDepth 100000
namespace Go.Proofs.QZ
open Go
theorem vf {α:Type}{l:List α}{n:Nat}{x:α}(h:n<l.length):(l.set n x).take (n+1)=l.take n++[x]:=by
 have e:(l.set n x).take n=l.take n:=by
  apply List.ext_getElem?
  intro i
  rw [List.getElem?_take,List.getElem?_take]
  split
  ·rw [List.getElem?_set_ne (by omega)]
  ·rfl
 rw [cf (by simp;exact h),e]
 simp
theorem BX {α:Type}{xs ys:List α}{i:Nat}(h:i+ys.length≤xs.length):(putL xs i ys).take i=xs.take i:=by
 unfold putL
 rw [if_pos h,List.append_assoc,List.take_append_of_le_length (by rw [List.length_take];omega),List.take_take]
 simp
theorem BY (xs:List (List Int))(p:List Int→Option Bool)(q:List Int→Bool)(hx:Cnt xs.length)(hp:∀ x,x∈xs→p x=some (q x)):dt xs p=some (xs.filter (fun x=>!q x)):=by
 unfold dt
 rw [vb xs p q hx hp]
 simp only [obnd]
 by_cases h0:0≤aN xs q
 ·obtain ⟨i0,hi0,he,hq0,hno⟩:=gV h0
  rw [he,if_neg (by omega),wr (x:=(i0:Int)+1) (by omega) (by omega)]
  have htake:(xs.take i0).filter (fun x=>!q x)=xs.take i0:=by
   rw [List.filter_eq_self]
   intro x hm
   obtain ⟨j,hj,rfl⟩:=List.getElem_of_mem hm
   rw [List.length_take] at hj
   rw [List.getElem_take,hno j (by omega)];rfl
  have inv:∃ r,aq (cG p) ((i0:Int),(i0:Int)+1,xs)=some r∧(r.1=(((xs.filter (fun x=>!q x)).length:Nat):Int)∧r.2.length=xs.length∧r.2.take (xs.filter (fun x=>!q x)).length=xs.filter (fun x=>!q x)):=by
   refine cE (xs.length - (i0+1)) (fun k s=>s.2.1=((i0+1+k:Nat):Int)∧s.1=((((xs.take (i0+1+k)).filter (fun x=>!q x)).length:Nat):Int)∧s.2.2.length=xs.length ∧
    s.2.2.take ((xs.take (i0+1+k)).filter (fun x=>!q x)).length=(xs.take (i0+1+k)).filter (fun x=>!q x)∧(∀ j,i0+1+k≤j→s.2.2[j]?=xs[j]?)∧((xs.take (i0+1+k)).filter (fun x=>!q x)).length<i0+1+k) _ ?_ ?_ ?_
   ·have e1:(xs.take (i0+1)).filter (fun x=>!q x)=xs.take i0:=by
     rw [cf hi0,List.filter_append,htake]
     simp [hq0]
    have hl:(xs.take i0).length=i0:=by rw [List.length_take];omega
    refine ⟨by simp only;omega,?_,rfl,?_,fun _ _=>rfl,?_⟩
    ·simp only [Nat.add_zero];rw [e1,hl]
    ·simp only [Nat.add_zero];rw [e1,hl]
    ·simp only [Nat.add_zero];rw [e1,hl];omega
   ·rintro k ⟨v5,v6,v0⟩ hk ⟨h1,h2,h3,h4,h5,h6⟩
    simp only at h1 h2 h3 h4 h5 h6
    have hj:i0+1+k<xs.length:=by omega
    have hg:getI v0 v6=some xs[i0+1+k]:=by
     unfold getI
     rw [h1,if_pos (by omega),Int.toNat_natCast,h5 _ (Nat.le_refl _),List.getElem?_eq_getElem hj]
    left
    unfold cG
    simp only
    rw [if_pos (by omega),hg,wr (x:=v6+1) (by omega) (by omega)]
    simp only [obnd,hp _ (List.getElem_mem hj)]
    cases hq:q xs[i0+1+k]
    ·have e2:(xs.take (i0+1+(k+1))).filter (fun x=>!q x)=(xs.take (i0+1+k)).filter (fun x=>!q x)++[xs[i0+1+k]]:=by
      rw [show i0+1+(k+1)=i0+1+k+1 by omega,cf hj,List.filter_append]
      simp [hq]
     have hv5:getI v0 v5=some v0[((xs.take (i0+1+k)).filter (fun x=>!q x)).length]:=by rw [h2,au (by omega)]
     rw [if_neg (by simp),hv5,wr (x:=v5+1) (by omega) (by omega)]
     refine ⟨_,rfl,by simp only;omega,?_,?_,?_,?_,?_⟩
     ·simp only;rw [e2,List.length_append,h2];simp
     ·simp only [List.length_set];exact h3
     ·simp only;rw [e2,List.length_append,h2,Int.toNat_natCast]
      simp only [List.length_cons,List.length_nil,Nat.zero_add]
      rw [vf (by omega),h4]
     ·intro j hj'
      simp only
      rw [h2,Int.toNat_natCast,List.getElem?_set_ne (by omega)]
      exact h5 j (by omega)
     ·rw [e2,List.length_append];simp;omega
    ·have e2:(xs.take (i0+1+(k+1))).filter (fun x=>!q x)=(xs.take (i0+1+k)).filter (fun x=>!q x):=by
      rw [show i0+1+(k+1)=i0+1+k+1 by omega,cf hj,List.filter_append]
      simp [hq]
     rw [if_pos rfl]
     refine ⟨_,rfl,by simp only;omega,?_,h3,?_,fun j hj'=>h5 j (by omega),?_⟩
     ·simp only;rw [e2];exact h2
     ·simp only;rw [e2];exact h4
     ·rw [e2];omega
   ·rintro ⟨v5,v6,v0⟩ ⟨h1,h2,h3,h4,h5,h6⟩
    simp only at h1 h2 h3 h4
    have hall:i0+1+(xs.length - (i0+1))=xs.length:=by omega
    rw [hall] at h1 h2 h4
    rw [List.take_length] at h2 h4
    unfold cG
    simp only
    rw [if_neg (by omega)]
    exact ⟨_,rfl,h2,h3,h4⟩
  obtain ⟨⟨v5,v0⟩,hr,h1,h2,h3⟩:=inv
  rw [hr]
  simp only at h1 h2 h3 ⊢
  have hle:=List.length_filter_le (fun x=>!q x) xs
  subst h1
  simp only [Int.toNat_natCast]
  rw [am (by omega),am (by omega),am (by omega),BX (by rw [List.length_replicate];omega),h3]
 ·have h1:xs.any q=false:=by rw [← me];exact decide_eq_false h0
  have h2:aN xs q=-1:=by
   unfold aN at h0 ⊢
   cases hf:xs.findIdx? q with
   | none=>rfl
   | some j=>rw [hf] at h0;simp at h0
  rw [if_pos h2]
  congr 1
  symm
  rw [List.filter_eq_self]
  intro x hm
  rw [List.any_eq_false] at h1
  have:=h1 x hm
  cases hq:q x
  ·rfl
  ·exact absurd hq this
theorem Kc {α β ρ:Type}(xs:List α)(q:α→Bool)(I:β→Prop)(body:Int × β→Option (Step (Int × β) ρ))(rT:β→ρ)(rF:Int→β→ρ)
  (h1:∀ i (hi:i<xs.length) k,I k→∃ k',I k'∧body ((i:Int),k)=some (if q xs[i]=true then .done (rF (i:Int) k') else .next ((i:Int)+1,k')))
  (h2:∀ k,I k→body ((xs.length:Int),k)=some (.done (rT k))) (k:β) (hk:I k) :
  ∃ k',I k'∧aq body (0,k)=some (if 0≤aN xs q then rF (aN xs q) k' else rT k'):=by
 have key:=cE (body:=body) (s0:=((0:Int),k)) xs.length (fun i st=>st.1=(i:Int)∧I st.2∧∀ j (hj:j<xs.length),j<i→q xs[j]=false)
  (fun r=>∃ k',I k'∧r=(if 0≤aN xs q then rF (aN xs q) k' else rT k')) ⟨rfl,hk,fun j _ h=>absurd h (by omega)⟩ ?_ ?_
 ·obtain ⟨r,hr,hp⟩:=key
  obtain ⟨k',h3,rfl⟩:=hp
  exact ⟨k',h3,hr⟩
 ·rintro i ⟨a,k⟩ hi ⟨rfl,hI,hall⟩
  obtain ⟨k',hk',hb⟩:=h1 i hi k hI
  cases hq:q xs[i]
  ·rw [hq,if_neg (by simp)] at hb
   refine .inl ⟨_,hb,rfl,hk',fun j hj hlt=>?_⟩
   rcases Nat.lt_or_ge j i with h | h
   ·exact hall j hj h
   ·obtain rfl:j=i:=by omega
    exact hq
  ·rw [hq,if_pos rfl] at hb
   refine .inr ⟨_,hb,k',hk',?_⟩
   have:aN xs q=(i:Int):=by
    unfold aN
    have:xs.findIdx? q=some i:=by
     rw [List.findIdx?_eq_some_iff_getElem]
     exact ⟨hi,hq,fun j hj=>by simp [hall j (by omega) hj]⟩
    rw [this]
   rw [this,if_pos (by omega)]
 ·rintro ⟨a,k⟩ ⟨rfl,hI,hall⟩
  refine ⟨_,h2 k hI,k,hI,?_⟩
  rw [if_neg]
  intro h0
  obtain ⟨j,hj,_,hq,_⟩:=gV h0
  rw [hall j hj hj] at hq
  cases hq
theorem Ep {α:Type}{xs:List α}{q:α→Bool}(h:¬ 0≤aN xs q):aN xs q=-1∧xs.any q=false:=by
 constructor
 ·unfold aN at h ⊢
  cases hf:xs.findIdx? q with
  | none=>rfl
  | some j=>rw [hf] at h;simp at h
 ·rw [← me];exact decide_eq_false h
section
variable {s:GShow} {y:GState}
theorem MX (hs:aQ s)(h:MomR s y){nodes:List Int}(hn:nodes∈decL s y){known:List (ByteArray × Bool)}(hk:bZ s known) :
  ∃ known',bZ s known'∧eh nodes s known y=some (!bp (win s) s y nodes,known'):=by
 obtain ⟨k',hk',e⟩:=uB (IS hs _ (by have:=h.now;omega)) h hn hk
 refine ⟨k',hk',?_⟩
 unfold eh hY
 rw [e];rfl
theorem Ds (hs:aQ s)(h:MomR s y)(xs:List (List Int))(hx:∀ nd,nd∈xs→nd∈decL s y)(hl:xs.length≤128){known:List (ByteArray × Bool)}(hk:bZ s known) :
  ∃ known',bZ s known'∧bc xs s known y=some (aN xs (fun nd=>!bp (win s) s y nd),xs,known'):=by
 unfold bc
 have key:=Kc xs (fun nd=>!bp (win s) s y nd) (bZ s) (aW ((xs.length:Nat):Int) xs s.nodes s.ties s.horizon y.now y.times y.values)
  (fun k=>.inl k) (fun i k=>.inr (i,xs,k)) ?_ ?_ known hk
 ·obtain ⟨k',hk',e⟩:=key
  rw [e]
  refine ⟨k',hk',?_⟩
  simp only [obnd]
  by_cases h0:0≤aN xs (fun nd=>!bp (win s) s y nd)
  ·rw [if_pos h0]
  ·rw [if_neg h0,(Ep h0).1]
 ·intro i hi k hk
  obtain ⟨k',hk',e⟩:=MX hs h (hx _ (List.getElem_mem hi)) hk
  refine ⟨k',hk',?_⟩
  unfold aW
  try simp only
  rw [if_pos (by omega),au hi]
  simp only [obnd]
  rw [show (GShow.mk s.nodes s.ties s.horizon)=s from rfl,show (GState.mk y.now y.times y.values)=y from rfl,e]
  simp only
  rw [wr (by omega) (by omega)]
  cases bp (win s) s y xs[i] <;> rfl
 ·intro k _
  unfold aW
  try simp only
  rw [if_neg (by omega)]
theorem BZ (hs:aQ s)(h:MomR s y)(xs:List (List Int))(hx:∀ nd,nd∈xs→nd∈decL s y)(hl:xs.length≤128){known:List (ByteArray × Bool)}(hk:bZ s known) :
  ∃ known',bZ s known'∧ba xs s known y=some (xs.filter (fun nd=>bp (win s) s y nd),known'):=by
 obtain ⟨k1,hk1,e1⟩:=Ds hs h xs hx hl hk
 have hfn:xs.filter (fun nd=>bp (win s) s y nd)=xs.filter (fun nd=>!(!bp (win s) s y nd)):=by simp
 rw [hfn]
 unfold ba
 rw [e1]
 simp only [obnd]
 generalize hq':(fun nd=>!bp (win s) s y nd)=q at *
 have hq:∀ nd,q nd=!bp (win s) s y nd:=fun nd=>by rw [← hq']
 have hff:(fun nd=>!(!bp (win s) s y nd))=(fun x=>!q x):=by funext nd;rw [hq]
 rw [hff]
 by_cases h0:0≤aN xs q
 ·obtain ⟨i0,hi0,he,hq0,hno⟩:=gV h0
  rw [he,if_neg (by omega),wr (x:=(i0:Int)+1) (by omega) (by omega)]
  have htake:(xs.take i0).filter (fun x=>!q x)=xs.take i0:=by
   rw [List.filter_eq_self]
   intro x hm
   obtain ⟨j,hj,rfl⟩:=List.getElem_of_mem hm
   rw [List.length_take] at hj
   rw [List.getElem_take,hno j (by omega)];rfl
  have inv:∃ r,aq (aV xs.length s.nodes s.ties s.horizon y.now y.times y.values) ((i0:Int),(i0:Int)+1,xs,k1)=some r∧(r.1=(((xs.filter (fun x=>!q x)).length:Nat):Int)∧r.2.1.length=xs.length∧r.2.1.take (xs.filter (fun x=>!q x)).length=xs.filter (fun x=>!q x)∧bZ s r.2.2):=by
   refine cE (xs.length - (i0+1)) (fun (k:Nat) (s':Int × Int × List (List Int) × List (ByteArray × Bool))=>s'.2.1=((i0+1+k:Nat):Int)∧s'.1=((((xs.take (i0+1+k)).filter (fun x=>!q x)).length:Nat):Int)∧s'.2.2.1.length=xs.length ∧
    s'.2.2.1.take ((xs.take (i0+1+k)).filter (fun x=>!q x)).length=(xs.take (i0+1+k)).filter (fun x=>!q x)∧(∀ j,i0+1+k≤j→s'.2.2.1[j]?=xs[j]?)∧((xs.take (i0+1+k)).filter (fun x=>!q x)).length<i0+1+k∧bZ s s'.2.2.2) _ ?_ ?_ ?_
   ·have e1:(xs.take (i0+1)).filter (fun x=>!q x)=xs.take i0:=by
     rw [cf hi0,List.filter_append,htake]
     simp [hq0]
    have hl:(xs.take i0).length=i0:=by rw [List.length_take];omega
    refine ⟨by simp only;omega,?_,rfl,?_,fun _ _=>rfl,?_,hk1⟩
    ·simp only [Nat.add_zero];rw [e1,hl]
    ·simp only [Nat.add_zero];rw [e1,hl]
    ·simp only [Nat.add_zero];rw [e1,hl];omega
   ·rintro k ⟨v5,v6,v0,kn⟩ hk ⟨h1,h2,h3,h4,h5,h6,h7⟩
    simp only at h1 h2 h3 h4 h5 h6 h7
    have hj:i0+1+k<xs.length:=by omega
    have hg:getI v0 v6=some xs[i0+1+k]:=by
     unfold getI
     rw [h1,if_pos (by omega),Int.toNat_natCast,h5 _ (Nat.le_refl _),List.getElem?_eq_getElem hj]
    obtain ⟨kn',hkn',ec⟩:=MX hs h (hx _ (List.getElem_mem hj)) h7
    left
    unfold aV
    simp only
    rw [if_pos (by omega),am (by omega),hg,wr (x:=v6+1) (by omega) (by omega)]
    simp only [obnd]
    rw [show (GShow.mk s.nodes s.ties s.horizon)=s from rfl,show (GState.mk y.now y.times y.values)=y from rfl,ec,← hq]
    simp only
    cases hqq:q xs[i0+1+k]
    ·have e2:(xs.take (i0+1+(k+1))).filter (fun x=>!q x)=(xs.take (i0+1+k)).filter (fun x=>!q x)++[xs[i0+1+k]]:=by
      rw [show i0+1+(k+1)=i0+1+k+1 by omega,cf hj,List.filter_append]
      simp [hqq]
     have hv5:getI v0 v5=some v0[((xs.take (i0+1+k)).filter (fun x=>!q x)).length]:=by rw [h2,au (by omega)]
     rw [if_neg (by simp),am (by omega),hv5,wr (x:=v5+1) (by omega) (by omega)]
     refine ⟨_,rfl,by simp only;omega,?_,?_,?_,?_,?_,hkn'⟩
     ·simp only;rw [e2,List.length_append,h2];simp
     ·simp only [List.length_set];exact h3
     ·simp only;rw [e2,List.length_append,h2,Int.toNat_natCast]
      simp only [List.length_cons,List.length_nil,Nat.zero_add]
      rw [vf (by omega),h4]
     ·intro j hj'
      simp only
      rw [h2,Int.toNat_natCast,List.getElem?_set_ne (by omega)]
      exact h5 j (by omega)
     ·rw [e2,List.length_append];simp;omega
    ·have e2:(xs.take (i0+1+(k+1))).filter (fun x=>!q x)=(xs.take (i0+1+k)).filter (fun x=>!q x):=by
      rw [show i0+1+(k+1)=i0+1+k+1 by omega,cf hj,List.filter_append]
      simp [hqq]
     rw [if_pos rfl]
     refine ⟨_,rfl,by simp only;omega,?_,h3,?_,fun j hj'=>h5 j (by omega),?_,hkn'⟩
     ·simp only;rw [e2];exact h2
     ·simp only;rw [e2];exact h4
     ·rw [e2];omega
   ·rintro ⟨v5,v6,v0,kn⟩ ⟨h1,h2,h3,h4,h5,h6,h7⟩
    simp only at h1 h2 h3 h4 h7
    have hall:i0+1+(xs.length - (i0+1))=xs.length:=by omega
    rw [hall] at h1 h2 h4
    rw [List.take_length] at h2 h4
    unfold aV
    simp only
    rw [if_neg (by omega)]
    exact ⟨_,rfl,h2,h3,h4,h7⟩
  obtain ⟨⟨v5,v0,kn⟩,hr,h1,h2,h3,h4⟩:=inv
  rw [hr]
  simp only at h1 h2 h3 h4 ⊢
  have hle:=List.length_filter_le (fun x=>!q x) xs
  subst h1
  simp only [Int.toNat_natCast]
  rw [am (by omega),am (by omega),am (by omega),am (by omega),am (by rw [ze];omega),am (by omega),BX (by rw [List.length_replicate];omega),h3]
  exact ⟨kn,h4,rfl⟩
 ·obtain ⟨h2,h1⟩:=Ep h0
  rw [if_pos h2,am (Nat.le_refl _),List.take_length]
  refine ⟨k1,hk1,?_⟩
  congr 2
  symm
  rw [List.filter_eq_self]
  intro x hm
  rw [List.any_eq_false] at h1
  have:=h1 x hm
  cases hqx:q x
  ·rfl
  ·exact absurd hqx this
theorem ME (hs:aQ s)(h:MomR s y){known:List (ByteArray × Bool)}(hk:bZ s known) :
  ∃ known',bZ s known'∧jE s known y=some ((decL s y).filter (bp (win s) s y),known'):=by
 obtain ⟨k',hk',e⟩:=BZ hs h (decL s y) (fun _ h=>h) (nD h.right y) hk
 refine ⟨k',hk',?_⟩
 unfold jE
 rw [qY hs h]
 simp only [obnd]
 rw [e]
end
def rU (lazy:Bool)(l:List (List Int))(p:List Int→Bool):Option (List Int):=if lazy=true then l.reverse.find? p else l.find? p
theorem MF (l:List (List Int))(p:List Int→Bool)(lazy:Bool)(hl:l.length≤128) :
  nx (l.filter p) lazy=some (match rU lazy l p with | some nd=>(nd,true) | none=>([],false)):=by
 have hle:=List.length_filter_le p l
 unfold nx rU
 have e1:l.find? p=(l.filter p).head?:=(List.head?_filter).symm
 have e2:l.reverse.find? p=(l.filter p).getLast?:=by rw [← List.head?_filter,List.filter_reverse,List.head?_reverse]
 rw [e1,e2]
 generalize l.filter p=m at *
 by_cases h0:m=[]
 ·subst h0
  rw [if_pos (by simp)]
  cases lazy <;> rfl
 ·have hpos:0<m.length:=List.length_pos_iff.2 h0
  rw [if_neg (by omega)]
  cases lazy
  ·simp only [Bool.false_eq_true,if_false]
   have:getI m ((0:Nat):Int)=some m[0]:=au hpos
   rw [show ((0:Nat):Int)=0 from rfl] at this
   rw [this,List.head?_eq_getElem?,List.getElem?_eq_getElem hpos];rfl
  ·simp only [if_true]
   rw [wr (by omega) (by omega),show ((m.length:Nat):Int) - 1=((m.length - 1:Nat):Int) by omega,au (by omega),List.getLast?_eq_getElem?,List.getElem?_eq_getElem (by omega)];rfl
end Go.Proofs.QZ
set_option maxRecDepth 100000
namespace Go.Proofs.QZ
open Go
theorem Kd (log:List GEntry)(hl:log.length≤1048576)(he:∀ e,e∈log→FitE e):ls log=some log:=by
 unfold ls
 have key:aq (iH log ((log.length:Nat):Int)) (((0:Nat):Int),log.take 0)=some log:=by
  refine aH log.length (fun i=>((i:Int),log.take i)) ?_ ?_
  ·intro i hi
   have hf:=he _ (List.getElem_mem hi)
   unfold iH
   try simp only
   rw [if_pos (by omega),au hi]
   simp only [obnd]
   rw [ep _ hf.ties,ep _ hf.nodes,ep _ hf.values]
   simp only
   rw [am (by rw [List.length_take];omega),am (by rw [List.length_take];omega),wr (by omega) (by omega),List.take_succ_eq_append_getElem hi];rfl
  ·unfold iH
   try simp only
   rw [if_neg (by omega),List.take_length]
 simp only [Int.natCast_zero,List.take_zero] at key
 rw [key];rfl
theorem zl (d:GDesk)(h:FitD d):iv d=some d:=by
 unfold iv
 rw [Ig _ h.sh]
 simp only [obnd]
 rw [qW _ h.st.times h.st.values]
 simp only
 rw [Kd _ h.log h.entry]
theorem nU (d:GDesk)(h:FitD d):dH d=some d:=by
 have hl:=h.log
 unfold dH
 rw [JO _ h.sh]
 simp only [obnd]
 rw [qX _ h.st.times h.st.values]
 simp only
 have key:aq (dP d.log ((d.log.length:Nat):Int) d.show_.horizon d.state.now d.lazy d.show_.nodes d.show_.ties d.state.times d.state.values) (((0:Nat):Int),d.log.take 0)=some d.log:=by
  refine aH d.log.length (fun i=>((i:Int),d.log.take i)) ?_ ?_
  ·intro i hi
   have hf:=h.entry _ (List.getElem_mem hi)
   have f1:=hf.ties
   have f2:=hf.nodes
   have f3:=hf.values
   unfold dP
   try simp only
   rw [if_pos (by omega),au hi]
   simp only [obnd]
   unfold mZ
   rw [am (by omega),am (by omega),am (by omega),am (by omega),am (by omega),am (by omega)]
   simp only
   rw [am (by rw [List.length_take];omega),am (by rw [List.length_take];omega),wr (by omega) (by omega),List.take_succ_eq_append_getElem hi];rfl
  ·unfold dP
   try simp only
   rw [if_neg (by omega),List.take_length]
 simp only [Int.natCast_zero,List.take_zero] at key
 rw [key]
def pmB (values:List Int):Bool:=decide (values.length=3)&&values.all (fun v=>decide (v=1) || decide (v=-1))
noncomputable def aR (d:GDesk)(ties values:List Int):Int:=
 if mL d=true then (if pmB values=true then (if ek d.show_ d.state=true then 2 else if jS d.show_ d.state=true then 2 else if d.show_.horizon<d.state.now then 2 else if ties∈bm d.show_ d.state then 0 else 3) else 1) else 1
def bP (values ps:List Int):List Int:=ps.map (fun p=>tm values (p - 1))
def litL (values ps:List Int):List Int:=ps.map (fun p=>p*tm values (p - 1))
noncomputable def finD (d:GDesk)(ties values nodes:List Int):GDesk:=
 ⟨d.show_,obsX (decX (endX d.show_ d.state ties) nodes) (aB d.show_ nodes) (bP values (aB d.show_ nodes)),d.lazy,d.log++[⟨d.state.now,ties,nodes,litL values (aB d.show_ nodes)⟩]⟩
noncomputable def kJ (d:GDesk)(ties values:List Int)(refused:Int)(c:Option (List Int)):GDesk × List Int × Int:=
 if aR d ties values=0 then (match c with | some nd=>(finD d ties values nd,nd,0) | none=>(d,[],refused)) else (d,[],aR d ties values)
theorem kK {d:GDesk}(h:mL d=true):aI d.show_ d.state=true:=by
 unfold mL at h
 simp only [Bool.and_eq_true] at h
 exact h.1.1.1
theorem ma {d:GDesk}{ties values:List Int}(h:aR d ties values=0):mL d=true∧pmB values=true∧ties∈bm d.show_ d.state∧ek d.show_ d.state=false∧jS d.show_ d.state=false∧¬ d.show_.horizon<d.state.now:=by
 unfold aR at h
 split at h
 ·rename_i h1
  split at h
  ·rename_i h2
   split at h
   ·omega
   ·rename_i h3
    split at h
    ·omega
    ·rename_i h4
     split at h
     ·omega
     ·rename_i h5
      split at h
      ·rename_i h6
       exact ⟨h1,h2,h6,by simpa using h3,by simpa using h4,h5⟩
      ·omega
  ·omega
 ·omega
theorem Hs {values:List Int}(h:pmB values=true):values.length=3∧∀ v,v∈values→v=1∨v=-1:=by
 unfold pmB at h
 rw [Bool.and_eq_true,decide_eq_true_eq,List.all_eq_true] at h
 exact ⟨h.1,fun v hv=>by have:=h.2 v hv;simpa using this⟩
theorem Ke {values:List Int}(h:pmB values=true){k:Int}(h0:0≤k)(h1:k<3):tm values k=1∨tm values k=-1:=by
 obtain ⟨h2,h3⟩:=Hs h
 unfold tm
 rw [List.getElem?_eq_getElem (show k.toNat<values.length by omega)]
 exact h3 _ (List.getElem_mem _)
theorem Ls {values:List Int}(h3:values.length=3):values.any (fun v=>!(decide (v=1) || decide (v=-1)))=!pmB values:=by
 unfold pmB
 rw [decide_eq_true h3,Bool.true_and,List.any_eq_not_all_not]
 simp
theorem xj (v:Int):eg v=some (!(decide (v=1) || decide (v=-1))):=by
 unfold eg
 by_cases h:v=1
 ·rw [if_pos h,decide_eq_true h];rfl
 ·rw [if_neg h,decide_eq_false h]
  by_cases h2:v=-1
  ·rw [decide_eq_true h2,decide_eq_false (by simpa using h2)];rfl
  ·rw [decide_eq_false h2,decide_eq_true h2];rfl
theorem zm {values ps:List Int}(hv:pmB values=true)(hp:∀ p,p∈ps→1≤p∧p≤3)(hl:ps.length≤3):iy ps (bP values ps)=some (litL values ps):=by
 unfold iy
 have key:aq (ia (bP values ps) ps ((ps.length:Nat):Int)) (((0:Nat):Int),litL values (ps.take 0))=some (litL values ps):=by
  refine aH ps.length (fun i=>((i:Int),litL values (ps.take i))) ?_ ?_
  ·intro i hi
   have hb:=hp _ (List.getElem_mem hi)
   have ht:=Ke hv (k:=ps[i] - 1) (by omega) (by omega)
   have hl1:(litL values (ps.take i)).length≤3:=by unfold litL;rw [List.length_map,List.length_take];omega
   have hsl:(bP values ps).length=ps.length:=by unfold bP;simp
   unfold ia
   try simp only
   rw [if_pos (by omega),au hi,au (show i<(bP values ps).length by omega)]
   simp only [obnd]
   have hs:(bP values ps)[i]'(by omega)=tm values (ps[i] - 1):=by unfold bP;simp
   rw [hs,am (by omega),am (by omega),wr (x:=(i:Int)+1) (by omega) (by omega),wr (x:=ps[i]*tm values (ps[i] - 1)) (by rcases ht with h | h <;> rw [h] <;> omega) (by rcases ht with h | h <;> rw [h] <;> omega)]
   congr 3
   unfold litL
   rw [List.take_succ_eq_append_getElem hi,List.map_append];rfl
  ·unfold ia
   try simp only
   rw [if_neg (by omega),List.take_length]
 simp only [Int.natCast_zero,List.take_zero] at key
 rw [show litL values []=[] from rfl] at key
 rw [key];rfl
theorem vL {values ps:List Int}(hv:pmB values=true)(hp:∀ p,p∈ps→1≤p∧p≤3):(bP values ps).length=ps.length∧∀ v,v∈bP values ps→v=1∨v=-1:=by
 refine ⟨by unfold bP;simp,fun v hm=>?_⟩
 unfold bP at hm
 rw [List.mem_map] at hm
 obtain ⟨p,hpm,rfl⟩:=hm
 have:=hp p hpm
 exact Ke hv (by omega) (by omega)
theorem xk (d:GDesk)(ties values:List Int)(refused node:Int)(d':GDesk)(hf:FitD d)(ht:ties.length≤1048576)(hvl:values.length≤1048576)(c:Option (List Int))(hmem:∀ nd,c=some nd→nd∈decL d.show_ (endX d.show_ d.state ties))
  (hc:aR d ties values=0→∃ r,ig d.show_ [] (endX d.show_ d.state ties) node d'=some r∧r.2.1=c.isSome∧∀ nd,c=some nd→r.1=nd) :
  bA d ties values refused node d'=some (kJ d ties values refused c):=by
 have hs:=hf.sh.small
 have hlog:=hf.log
 have hg0:=@ma d ties values
 unfold kJ
 unfold bA
 rw [zl d hf]
 simp only [obnd]
 rw [zi d hf]
 simp only
 cases hd:mL d
 ·have e:aR d ties values=1:=by unfold aR;rw [hd];rfl
  rw [e];rfl
 have hx:=kK hd
 have hR:=bz hx
 simp only [if_true]
 by_cases h3:values.length=3
 rotate_left
 ·have e:aR d ties values=1:=by unfold aR pmB;rw [hd,decide_eq_false h3];rfl
  rw [if_neg (by omega),e];rfl
 rw [if_pos (by omega),jQ values _ (fun v=>!(decide (v=1) || decide (v=-1))) (by unfold Cnt;omega) (fun v _=>xj v),Ls h3]
 simp only
 cases hp:pmB values
 ·have e:aR d ties values=1:=by unfold aR;rw [hd,hp];rfl
  rw [e];rfl
 simp only [Bool.not_true,Bool.false_eq_true,if_false]
 rw [uA hs hR]
 simp only
 cases hb:ek d.show_ d.state
 rotate_left
 ·have e:aR d ties values=2:=by unfold aR;rw [hd,hp,hb];rfl
  rw [e];rfl
 simp only [Bool.false_eq_true,if_false]
 rw [sY hs hR]
 simp only
 cases ho:jS d.show_ d.state
 rotate_left
 ·have e:aR d ties values=2:=by unfold aR;rw [hd,hp,hb,ho];rfl
  rw [e];rfl
 simp only [Bool.false_eq_true,if_false]
 by_cases hh:d.show_.horizon<d.state.now
 ·have e:aR d ties values=2:=by unfold aR;rw [hd,hp,hb,ho,if_pos hh];rfl
  rw [if_pos hh,e];rfl
 rw [if_neg hh,sW hx]
 simp only
 have hel:=pZ (x:=d.state) hR.ok
 rw [tH _ _ (by unfold Cnt;omega) (by unfold Cnt;omega)]
 simp only
 by_cases hm:ties∈bm d.show_ d.state
 rotate_left
 ·have e:aR d ties values=3:=by unfold aR;rw [hd,hp,hb,ho,if_neg hh,if_neg hm];rfl
  rw [decide_eq_false hm,e];rfl
 have e:aR d ties values=0:=by unfold aR;rw [hd,hp,hb,ho,if_neg hh,if_pos hm];rfl
 obtain ⟨a1,a2,a3⟩:=iE hR.ok hm
 have hM:=ju hx hm
 have hv3:=(aT hR.val).1
 rw [decide_eq_true hm,if_pos rfl,vH hx (by omega) (by omega) a3]
 simp only
 unfold js
 simp only
 obtain ⟨r,e1,e2,e3⟩:=hc e
 rw [e1,e]
 simp only [if_true]
 rw [e2]
 cases c with
 | none=>rfl
 | some nd=>
  have hn:=hmem nd rfl
  obtain ⟨n1,n2,n3⟩:=cT hM.right hn
  have hps:∀ p,p∈aB d.show_ nd→1≤p∧p≤3:=fun p hp=>⟨(bC hp).1,(bC hp).2.1⟩
  have hpl:=lZ d.show_ nd
  simp only [Option.isSome_some,if_true]
  rw [e3 nd rfl,sX hM n1 n2 n3]
  simp only
  have key:aq (aZ ties values nd (((aB d.show_ nd).length:Nat):Int) d.show_.horizon d.state.now d.lazy d.state.now d.state.times d.state.values (decX (endX d.show_ d.state ties) nd).now d.show_.nodes d.show_.ties d.state.times d.state.values d.log (decX (endX d.show_ d.state ties) nd).times (decX (endX d.show_ d.state ties) nd).values (aB d.show_ nd)) (((0:Nat):Int),bP values ((aB d.show_ nd).take 0))=some (bP values (aB d.show_ nd)):=by
   refine aH (aB d.show_ nd).length (fun i=>((i:Int),bP values ((aB d.show_ nd).take i))) ?_ ?_
   ·intro i hi
    have hb:=hps _ (List.getElem_mem hi)
    have hsl:(bP values ((aB d.show_ nd).take i)).length≤3:=by unfold bP;rw [List.length_map,List.length_take];omega
    unfold aZ
    try simp only
    rw [if_pos (by omega),au hi]
    simp only [obnd]
    rw [wr (x:=(aB d.show_ nd)[i] - 1) (by omega) (by omega),bB (by omega) (by omega)]
    simp only
    rw [am (by omega),am (by omega),wr (by omega) (by omega)]
    congr 3
    unfold bP
    rw [List.take_succ_eq_append_getElem hi,List.map_append];rfl
   ·unfold aZ
    try simp only
    rw [if_neg (by omega),List.take_length]
  simp only [Int.natCast_zero,List.take_zero] at key
  rw [show bP values []=[] from rfl] at key
  rw [key]
  simp only
  obtain ⟨s1,s2⟩:=vL hp hps
  have hnow:=hR.now
  have hhor:=hR.right.hor
  have hln:=hM.len
  have h7:=hM.right.nodes
  rw [(kQ (decX (endX d.show_ d.state ties) nd) (aB d.show_ nd) (bP values (aB d.show_ nd)) (by show 0≤d.state.now∧d.state.now≤1000;omega) (by show (aY _ _ _ _).length≤_;rw [bT];omega) hv3 hps s1 (by omega)).1]
  simp only
  rw [ep _ ht,ep _ (by omega),zm hp hps hpl]
  simp only
  rw [am (by omega),am (by omega)]
  rfl
theorem vM (d:GDesk)(ties values:List Int)(refused:Int)(nodes:List Int)(hf:FitD d)(ht:ties.length≤1048576)(hvl:values.length≤1048576)(c:Option (List Int))(hmem:∀ nd,c=some nd→nd∈decL d.show_ (endX d.show_ d.state ties))
  (hc:aR d ties values=0→∃ r,mh d.show_ [] (endX d.show_ d.state ties) nodes=some r∧r.2.1=c.isSome∧∀ nd,c=some nd→r.1=nd) :
  cZ d ties values refused nodes=some (kJ d ties values refused c):=by
 have hs:=hf.sh.small
 have hlog:=hf.log
 have hg0:=@ma d ties values
 unfold kJ
 unfold cZ
 rw [zl d hf]
 simp only [obnd]
 rw [zi d hf]
 simp only
 cases hd:mL d
 ·have e:aR d ties values=1:=by unfold aR;rw [hd];rfl
  rw [e];rfl
 have hx:=kK hd
 have hR:=bz hx
 simp only [if_true]
 by_cases h3:values.length=3
 rotate_left
 ·have e:aR d ties values=1:=by unfold aR pmB;rw [hd,decide_eq_false h3];rfl
  rw [if_neg (by omega),e];rfl
 rw [if_pos (by omega),jQ values _ (fun v=>!(decide (v=1) || decide (v=-1))) (by unfold Cnt;omega) (fun v _=>xj v),Ls h3]
 simp only
 cases hp:pmB values
 ·have e:aR d ties values=1:=by unfold aR;rw [hd,hp];rfl
  rw [e];rfl
 simp only [Bool.not_true,Bool.false_eq_true,if_false]
 rw [uA hs hR]
 simp only
 cases hb:ek d.show_ d.state
 rotate_left
 ·have e:aR d ties values=2:=by unfold aR;rw [hd,hp,hb];rfl
  rw [e];rfl
 simp only [Bool.false_eq_true,if_false]
 rw [sY hs hR]
 simp only
 cases ho:jS d.show_ d.state
 rotate_left
 ·have e:aR d ties values=2:=by unfold aR;rw [hd,hp,hb,ho];rfl
  rw [e];rfl
 simp only [Bool.false_eq_true,if_false]
 by_cases hh:d.show_.horizon<d.state.now
 ·have e:aR d ties values=2:=by unfold aR;rw [hd,hp,hb,ho,if_pos hh];rfl
  rw [if_pos hh,e];rfl
 rw [if_neg hh,sW hx]
 simp only
 have hel:=pZ (x:=d.state) hR.ok
 rw [tH _ _ (by unfold Cnt;omega) (by unfold Cnt;omega)]
 simp only
 by_cases hm:ties∈bm d.show_ d.state
 rotate_left
 ·have e:aR d ties values=3:=by unfold aR;rw [hd,hp,hb,ho,if_neg hh,if_neg hm];rfl
  rw [decide_eq_false hm,e];rfl
 have e:aR d ties values=0:=by unfold aR;rw [hd,hp,hb,ho,if_neg hh,if_pos hm];rfl
 obtain ⟨a1,a2,a3⟩:=iE hR.ok hm
 have hM:=ju hx hm
 have hv3:=(aT hR.val).1
 rw [decide_eq_true hm,if_pos rfl,vH hx (by omega) (by omega) a3]
 simp only
 unfold js
 simp only
 obtain ⟨r,e1,e2,e3⟩:=hc e
 rw [e1,e]
 simp only [if_true]
 rw [e2]
 cases c with
 | none=>rfl
 | some nd=>
  have hn:=hmem nd rfl
  obtain ⟨n1,n2,n3⟩:=cT hM.right hn
  have hps:∀ p,p∈aB d.show_ nd→1≤p∧p≤3:=fun p hp=>⟨(bC hp).1,(bC hp).2.1⟩
  have hpl:=lZ d.show_ nd
  simp only [Option.isSome_some,if_true]
  rw [e3 nd rfl,sX hM n1 n2 n3]
  simp only
  have key:aq (bI ties values nd (((aB d.show_ nd).length:Nat):Int) d.show_.horizon d.state.now d.lazy d.state.now d.state.times d.state.values (decX (endX d.show_ d.state ties) nd).now d.show_.nodes d.show_.ties d.state.times d.state.values d.log (decX (endX d.show_ d.state ties) nd).times (decX (endX d.show_ d.state ties) nd).values (aB d.show_ nd)) (((0:Nat):Int),bP values ((aB d.show_ nd).take 0))=some (bP values (aB d.show_ nd)):=by
   refine aH (aB d.show_ nd).length (fun i=>((i:Int),bP values ((aB d.show_ nd).take i))) ?_ ?_
   ·intro i hi
    have hb:=hps _ (List.getElem_mem hi)
    have hsl:(bP values ((aB d.show_ nd).take i)).length≤3:=by unfold bP;rw [List.length_map,List.length_take];omega
    unfold bI
    try simp only
    rw [if_pos (by omega),au hi]
    simp only [obnd]
    rw [wr (x:=(aB d.show_ nd)[i] - 1) (by omega) (by omega),bB (by omega) (by omega)]
    simp only
    rw [am (by omega),am (by omega),wr (by omega) (by omega)]
    congr 3
    unfold bP
    rw [List.take_succ_eq_append_getElem hi,List.map_append];rfl
   ·unfold bI
    try simp only
    rw [if_neg (by omega),List.take_length]
  simp only [Int.natCast_zero,List.take_zero] at key
  rw [show bP values []=[] from rfl] at key
  rw [key]
  simp only
  obtain ⟨s1,s2⟩:=vL hp hps
  have hnow:=hR.now
  have hhor:=hR.right.hor
  have hln:=hM.len
  have h7:=hM.right.nodes
  rw [(kQ (decX (endX d.show_ d.state ties) nd) (aB d.show_ nd) (bP values (aB d.show_ nd)) (by show 0≤d.state.now∧d.state.now≤1000;omega) (by show (aY _ _ _ _).length≤_;rw [bT];omega) hv3 hps s1 (by omega)).1]
  simp only
  rw [ep _ ht,ep _ (by omega),zm hp hps hpl]
  simp only
  rw [am (by omega),am (by omega)]
  rfl
end Go.Proofs.QZ
set_option maxRecDepth 100000
namespace Go.Proofs.QZ
open Go
def szE (e:GEntry):Int:=1+(e.ties.length:Int)+(e.nodes.length:Int)+(e.values.length:Int)
def kE (k:Int):List GEntry→Nat→Int
 | _,0=>k
 | [],_+1=>k
 | e::r,i+1=>kE (k+szE e) r i
theorem ya:∀ (k:Int) (l:List GEntry) (i:Nat) (hi:i<l.length),kE k l (i+1)=kE k l i+szE l[i]
 | k,e::r,0,_=>by
  show kE (k+szE e) r 0=k+szE e
  cases r <;> rfl
 | k,e::r,i+1,hi=>by
  show kE (k+szE e) r (i+1)=kE (k+szE e) r i+szE (r[i]'(by simpa using hi))
  exact ya _ r i (by simpa using hi)
 | _,[],_,hi=>by simp at hi
def eE (k:Int)(e:GEntry):GEntry:=⟨k,mkI (k+1) e.ties.length,mkI (k+1+(e.ties.length:Int)) e.nodes.length,mkI (k+1+(e.ties.length:Int)+(e.nodes.length:Int)) e.values.length⟩
def IT:GEntry:=⟨0,[],[],[]⟩
def aE (k:Int)(l:List GEntry)(i:Nat):List GEntry:=(List.range l.length).map (fun j=>if j<i then eE (kE k l j) (l.getD j IT) else l.getD j IT)
theorem tL (k:Int)(l:List GEntry)(i:Nat):(aE k l i).length=l.length:=by simp [aE]
theorem Oa (k:Int)(l:List GEntry):aE k l 0=l:=by
 apply List.ext_getElem?
 intro n
 unfold aE
 rw [List.getElem?_map]
 by_cases hn:n<l.length
 ·rw [List.getElem?_range hn,List.getElem?_eq_getElem hn]
  simp [List.getD_eq_getElem?_getD,List.getElem?_eq_getElem hn]
 ·rw [List.getElem?_eq_none (by simpa using hn),List.getElem?_eq_none (by omega)];rfl
theorem xl {k:Int}{l:List GEntry}{i j:Nat}(hj:j<l.length):(aE k l i)[j]?=some (if j<i then eE (kE k l j) l[j] else l[j]):=by
 unfold aE
 rw [List.getElem?_map,List.getElem?_range hj]
 simp [List.getD_eq_getElem?_getD,List.getElem?_eq_getElem hj]
theorem Ra {k:Int}{l:List GEntry}{i:Nat}(hi:i<l.length):(aE k l i).set i (eE (kE k l i) l[i])=aE k l (i+1):=by
 apply List.ext_getElem?
 intro n
 rw [List.getElem?_set]
 by_cases hn:n<l.length
 ·rw [tL]
  by_cases h:i=n
  ·subst h;rw [if_pos rfl,if_pos hn,xl hn,if_pos (by omega)]
  ·rw [if_neg h,xl hn,xl hn]
   by_cases h2:n<i
   ·rw [if_pos h2,if_pos (by omega)]
   ·rw [if_neg h2,if_neg (by omega)]
 ·rw [List.getElem?_eq_none (show (aE k l (i+1)).length≤n by rw [tL];omega)]
  by_cases h:i=n
  ·omega
  ·rw [if_neg h,List.getElem?_eq_none (by rw [tL];omega)]
theorem zN {α:Type}{l:List α}{i:Nat}{x:α}(h:i<l.length):getI (l.set i x) (i:Int)=some x:=by
 rw [au (by simpa using h)]
 simp
theorem IU {α:Type}{l:List α}{i:Nat}{x:α}(h:l[i]?=some x):getI l (i:Int)=some x:=by
 obtain ⟨h1,h2⟩:=List.getElem?_eq_some_iff.1 h
 rw [au h1,h2]
theorem kE_b {k:Int}{l:List GEntry}(hf:∀ e,e∈l→FitE e):∀ i,i≤l.length→k≤kE k l i∧kE k l i≤k+3145730*(i:Int):=by
 intro i
 induction i with
 | zero=>intro _;cases l <;> exact ⟨Int.le_refl _,by show k≤_;omega⟩
 | succ i ih=>
  intro hi
  have h1:=ih (by omega)
  have h2:=hf _ (List.getElem_mem (show i<l.length by omega))
  have a:=h2.ties
  have b:=h2.nodes
  have c:=h2.values
  rw [ya k l i (by omega)]
  unfold szE
  omega
theorem Fd (l:List GEntry)(k:Int)(hl:l.length≤1048576)(hf:∀ e,e∈l→FitE e)(h0:0≤k)(hk:k≤36028797018963968):iV l k=some (kE k l l.length,aE k l l.length):=by
 unfold iV
 have key:aq dI (kE k l 0,((0:Nat):Int),aE k l 0)=some (kE k l l.length,aE k l l.length):=by
  refine aH l.length (fun i=>(kE k l i,(i:Int),aE k l i)) ?_ ?_
  ·intro i hi
   have hE:=hf _ (List.getElem_mem hi)
   have a:=hE.ties
   have b:=hE.nodes
   have c:=hE.values
   have hb:=kE_b (k:=k) hf i (by omega)
   have hlen:=tL k l i
   unfold dI
   try simp only
   rw [if_pos (by omega),IU (xl hi),if_neg (Nat.lt_irrefl i)]
   simp only [obnd,Int.toNat_natCast]
   rw [zN (by omega)]
   simp only
   rw [wr (x:=kE k l i+1) (by omega) (by omega),cR _ _ a (by omega) (by omega)]
   simp only
   rw [am (kL _ _),List.set_set,zN (by omega)]
   simp only
   rw [cR _ _ b (by omega) (by omega)]
   simp only
   rw [am (kL _ _),List.set_set,zN (by omega)]
   simp only
   rw [cR _ _ c (by omega) (by omega)]
   simp only
   rw [am (kL _ _),List.set_set,wr (x:=(i:Int)+1) (by omega) (by omega)]
   have e1:kE k l i+1+(l[i].ties.length:Int)+(l[i].nodes.length:Int)+(l[i].values.length:Int)=kE k l (i+1):=by
    rw [ya k l i hi];unfold szE;omega
   rw [e1,← Ra hi]
   rfl
  ·unfold dI
   try simp only
   rw [if_neg (by rw [tL];omega)]
 rw [Oa] at key
 have:kE k l 0=k:=by cases l <;> rfl
 rw [this] at key
 change obnd (aq dI (k,((0:Nat):Int),l)) _=_
 rw [key];rfl
theorem Fe (l:List GEntry)(k:Int)(hl:l.length≤1048576)(hf:∀ e,e∈l→FitE e)(h0:0≤k)(hk:k≤36028797018963968):iW (aE k l l.length) k=some (kE k l l.length):=by
 unfold iW
 have hlen:=tL k l l.length
 have key:aq (dJ (aE k l l.length)) (kE k l 0,((0:Nat):Int))=some (.inl (kE k l l.length)):=by
  refine aH l.length (fun i=>(kE k l i,(i:Int))) ?_ ?_
  ·intro i hi
   have hE:=hf _ (List.getElem_mem hi)
   have a:=hE.ties
   have b:=hE.nodes
   have c:=hE.values
   have hb:=kE_b (k:=k) hf i (by omega)
   unfold dJ
   try simp only
   rw [if_pos (by omega),IU (xl hi),if_pos hi]
   simp only [obnd]
   rw [if_pos (show (eE (kE k l i) l[i]).now=kE k l i from rfl),wr (x:=kE k l i+1) (by omega) (by omega)]
   unfold eE
   simp only
   rw [kR _ _ a (by omega) (by omega)]
   simp only
   rw [if_neg (by omega),kR _ _ b (by omega) (by omega)]
   simp only
   rw [if_neg (by omega),kR _ _ c (by omega) (by omega)]
   simp only
   rw [if_neg (by omega),wr (x:=(i:Int)+1) (by omega) (by omega)]
   have e1:kE k l i+1+(l[i].ties.length:Int)+(l[i].nodes.length:Int)+(l[i].values.length:Int)=kE k l (i+1):=by
    rw [ya k l i hi];unfold szE;omega
   rw [e1];rfl
  ·unfold dJ
   try simp only
   rw [if_neg (by omega)]
 have:kE k l 0=k:=by cases l <;> rfl
 rw [this] at key
 change obnd (aq (dJ (aE k l l.length)) (k,((0:Nat):Int))) _=_
 rw [key];rfl
theorem nV (d:GDesk)(h:FitD d):∃ q,dX d 1=some q∧0≤q.1∧q.1≤9007199254740992∧q.2.1.length=d.show_.nodes.length∧q.2.2.1.length=d.show_.ties.length∧q.2.2.2.1.length=d.state.times.length ∧
  q.2.2.2.2.1.length=d.state.values.length∧q.2.2.2.2.2.length=d.log.length∧dY ⟨⟨q.2.1,q.2.2.1,d.show_.horizon⟩,⟨d.state.now,q.2.2.2.1,q.2.2.2.2.1⟩,d.lazy,q.2.2.2.2.2⟩ 1=some q.1:=by
 obtain ⟨q',m1,m2,m3,m4,m5,m6⟩:=EY d.show_ 1 h.sh (by omega) (by omega)
 obtain ⟨q2,n1,_,n3⟩:=JR d.show_ 1 h.sh (by omega) (by omega)
 rw [m1] at n1
 obtain rfl:=Option.some.inj n1
 have h1:=h.st.times
 have h2:=h.st.values
 have h3:=h.log
 unfold dX mi
 rw [m1]
 simp only [obnd]
 rw [cR d.state.times q'.1 h1 m2 (by omega)]
 simp only
 rw [cR d.state.values _ h2 (by omega) (by omega)]
 simp only
 rw [Fd d.log _ h3 h.entry (by omega) (by omega)]
 have hb:=kE_b (k:=q'.1+(d.state.times.length:Int)+(d.state.values.length:Int)) h.entry d.log.length (Nat.le_refl _)
 refine ⟨_,rfl,by simp only;omega,by simp only;omega,m4,m5,kL _ _,kL _ _,tL _ _ _,?_⟩
 unfold dY mj
 simp only [m6,obnd]
 rw [if_neg (by omega),kR _ _ h1 m2 (by omega)]
 simp only
 rw [if_neg (by omega),kR _ _ h2 (by omega) (by omega)]
 simp only
 rw [if_neg (by omega)]
 simp only
 rw [if_neg (by omega),Fe d.log _ h3 h.entry (by omega) (by omega)]
 simp only
 rw [if_neg (by omega)]
end Go.Proofs.QZ
set_option maxRecDepth 100000
namespace Go.Proofs.QZ
open Go
noncomputable def ut (d:GDesk)(ties:List Int)(node:Int):Option (List Int):=rU d.lazy (decL d.show_ (endX d.show_ d.state ties)) (fun nd=>!decide (node∈nd)&&bp (win d.show_) d.show_ (endX d.show_ d.state ties) nd)
noncomputable def manC (d:GDesk)(ties nodes:List Int):Option (List Int):=if nodes∈decL d.show_ (endX d.show_ d.state ties)∧bp (win d.show_) d.show_ (endX d.show_ d.state ties) nodes=true then some nodes else none
theorem xm {lazy:Bool}{l:List (List Int)}{p:List Int→Bool}{nd:List Int}(h:rU lazy l p=some nd):nd∈l∧p nd=true:=by
 unfold rU at h
 split at h
 ·exact ⟨by simpa using List.mem_of_find?_eq_some h,List.find?_some h⟩
 ·exact ⟨List.mem_of_find?_eq_some h,List.find?_some h⟩
theorem Ff (d:GDesk)(ties:List Int)(node:Int)(values:List Int)(hf:FitD d)(ht:ties.length≤1048576)(hv:values.length≤1048576):iC d ties node values=some (kJ d ties values 4 (ut d ties node)):=by
 have hs:=hf.sh.small
 unfold iC
 rw [xk d ties values 4 node d hf ht hv (ut d ties node) (fun nd h=>(xm h).1) ?_]
 ·rfl
 ·intro h0
  obtain ⟨g1,_,g3,_⟩:=ma h0
  have hM:=ju (kK g1) g3
  have hl:=nD hM.right (endX d.show_ d.state ties)
  have hfl:=List.length_filter_le (bp (win d.show_) d.show_ (endX d.show_ d.state ties)) (decL d.show_ (endX d.show_ d.state ties))
  unfold ig ut
  obtain ⟨k',_,e⟩:=ME hs hM (En d.show_)
  rw [e]
  simp only [obnd]
  rw [BY _ _ (fun nd=>decide (node∈nd)) (by unfold Cnt;omega) ?_]
  ·simp only
   rw [List.filter_filter,MF _ _ _ hl]
   simp only
   refine ⟨_,rfl,?_⟩
   cases rU d.lazy (decL d.show_ (endX d.show_ d.state ties)) (fun nd=>!decide (node∈nd)&&bp (win d.show_) d.show_ (endX d.show_ d.state ties) nd) with
   | none=>exact ⟨rfl,fun nd h=>by cases h⟩
   | some nd=>exact ⟨rfl,fun nd' h=>by cases h;rfl⟩
  ·intro nd hnd
   have:=(cT hM.right (List.mem_filter.1 hnd).1).2.1
   unfold iB
   rw [rV _ _ (by unfold Cnt;omega)];rfl
theorem Ca (d:GDesk)(ties nodes values:List Int)(hf:FitD d)(ht:ties.length≤1048576)(hn:nodes.length≤1048576)(hv:values.length≤1048576):lc d ties nodes values=some ((kJ d ties values 4 (manC d ties nodes)).1,(kJ d ties values 4 (manC d ties nodes)).2.2):=by
 have hs:=hf.sh.small
 unfold lc
 rw [vM d ties values 4 nodes hf ht hv (manC d ties nodes) (fun nd h=>by unfold manC at h;split at h;rename_i hc;cases h;exact hc.1;cases h) ?_]
 ·rfl
 ·intro h0
  obtain ⟨g1,_,g3,_⟩:=ma h0
  have hM:=ju (kK g1) g3
  have hl:=nD hM.right (endX d.show_ d.state ties)
  unfold mh manC
  rw [qY hs hM]
  simp only [obnd]
  rw [tH _ _ (by unfold Cnt;omega) (by unfold Cnt;omega)]
  simp only
  by_cases hm:nodes∈decL d.show_ (endX d.show_ d.state ties)
  ·rw [decide_eq_true hm,if_pos rfl]
   obtain ⟨k',_,e⟩:=uB (IS hs _ (by have:=hM.now;omega)) hM hm (En d.show_)
   unfold hY
   rw [e]
   simp only
   refine ⟨_,rfl,?_⟩
   cases hsf:bp (win d.show_) d.show_ (endX d.show_ d.state ties) nodes
   ·rw [if_neg (by simp)]
    exact ⟨rfl,fun nd h=>by cases h⟩
   ·rw [if_pos ⟨hm,rfl⟩]
    exact ⟨rfl,fun nd h=>by cases h;rfl⟩
  ·rw [decide_eq_false hm,if_neg (by simp),if_neg (fun h=>hm h.1)]
   exact ⟨_,rfl,rfl,fun nd h=>by cases h⟩
theorem yr {s:GShow}{x:GState}(hs:aQ s)(hx:aI s x=true)(ties:List Int)(ht:ties.length≤1048576):cV s x ties=some (if ties∈bm s x then (endX s x ties,true) else (lM,false)):=by
 have hR:=bz hx
 have hv3:=(aT hR.val).1
 have hln:=hR.len
 have h7:=hR.right.nodes
 have hel:=pZ (x:=x) hR.ok
 unfold cV
 rw [xb hs hx (by omega) (by omega)]
 simp only [obnd]
 rw [vF _ _ (by unfold Cnt;omega) (fun l hl=>by have:=(iE hR.ok hl).2.1;unfold Cnt;omega)]
 simp only
 by_cases hm:ties∈bm s x
 ·obtain ⟨a1,a2,a3⟩:=iE hR.ok hm
  rw [decide_eq_true hm,if_pos rfl,if_pos hm,xc hx (by omega) (by omega) a3]
 ·rw [decide_eq_false hm,if_neg (by simp),if_neg hm];rfl
theorem zn (d:GDesk)(ties values:List Int)(hf:FitD d)(ht:ties.length≤1048576)(hvl:values.length≤1048576):iA d ties values=some (if aR d ties values=0 then (endX d.show_ d.state ties,0) else (lM,aR d ties values)):=by
 have hs:=hf.sh.small
 unfold iA
 rw [Il d hf]
 simp only [obnd]
 cases hd:mL d
 ·have e:aR d ties values=1:=by unfold aR;rw [hd];rfl
  rw [e];rfl
 have hx:=kK hd
 have hR:=bz hx
 simp only [if_true]
 by_cases h3:values.length=3
 rotate_left
 ·have e:aR d ties values=1:=by unfold aR pmB;rw [hd,decide_eq_false h3];rfl
  rw [if_neg (by omega),e];rfl
 rw [if_pos (by omega)]
 have key:=gL (body:=eZ ties values ((values.length:Nat):Int) d.show_.nodes d.show_.ties d.show_.horizon d.state.now d.state.times d.state.values d.lazy d.log) values (fun v=>decide (v=1) || decide (v=-1)) (fun i=>(i:Int)) (rT:=.inl ()) (rF:=.inr (GState.mk 0 [] [],1)) ?_ ?_ ?_
 ·rw [show ((0:Nat):Int)=0 from rfl] at key
  rw [key]
  simp only
  cases hp:pmB values
  ·have e:aR d ties values=1:=by unfold aR;rw [hd,hp];rfl
   have hall:values.all (fun v=>decide (v=1) || decide (v=-1))=false:=by unfold pmB at hp;rwa [decide_eq_true h3,Bool.true_and] at hp
   rw [hall,e];rfl
  have hall:values.all (fun v=>decide (v=1) || decide (v=-1))=true:=by unfold pmB at hp;rwa [decide_eq_true h3,Bool.true_and] at hp
  rw [hall]
  simp only [if_true]
  rw [xg hs hR]
  simp only
  cases hb:ek d.show_ d.state
  rotate_left
  ·have e:aR d ties values=2:=by unfold aR;rw [hd,hp,hb];rfl
   rw [e];rfl
  simp only [Bool.false_eq_true,if_false]
  rw [BV hs hR]
  simp only
  cases ho:jS d.show_ d.state
  rotate_left
  ·have e:aR d ties values=2:=by unfold aR;rw [hd,hp,hb,ho];rfl
   rw [e];rfl
  simp only [Bool.false_eq_true,if_false]
  by_cases hh:d.show_.horizon<d.state.now
  ·have e:aR d ties values=2:=by unfold aR;rw [hd,hp,hb,ho,if_pos hh];rfl
   rw [if_pos hh,e];rfl
  rw [if_neg hh,yr hs hx ties ht]
  simp only
  by_cases hm:ties∈bm d.show_ d.state
  ·have e:aR d ties values=0:=by unfold aR;rw [hd,hp,hb,ho,if_neg hh,if_pos hm];rfl
   rw [if_pos hm,e];rfl
  ·have e:aR d ties values=3:=by unfold aR;rw [hd,hp,hb,ho,if_neg hh,if_neg hm];rfl
   rw [if_neg hm,e];rfl
 ·intro i hi hq
  unfold eZ
  try simp only
  rw [if_pos (by omega),au hi]
  simp only [obnd]
  rw [wr (by omega) (by omega)]
  by_cases h1:values[i]=1
  ·rw [if_pos h1];rfl
  ·rw [if_neg h1,if_pos (by simpa [h1] using hq)];rfl
 ·intro i hi hq
  unfold eZ
  try simp only
  rw [if_pos (by omega),au hi]
  simp only [obnd]
  rw [Bool.or_eq_false_iff,decide_eq_false_iff_not,decide_eq_false_iff_not] at hq
  rw [if_neg hq.1,if_neg hq.2]
 ·unfold eZ
  try simp only
  rw [if_neg (by omega)]
theorem xn (d:GDesk)(ties values nd:List Int)(hf:FitD d)(ht:ties.length≤1048576)(h0:aR d ties values=0)(hn:nd∈decL d.show_ (endX d.show_ d.state ties)) :
  gH d ties (endX d.show_ d.state ties) nd values=some (finD d ties values nd):=by
 have hs:=hf.sh.small
 have hlog:=hf.log
 obtain ⟨g1,hp,g3,_⟩:=ma h0
 have hx:=kK g1
 have hR:=bz hx
 have hM:=ju hx g3
 have hv3:=(aT hR.val).1
 obtain ⟨p3,_⟩:=Hs hp
 obtain ⟨n1,n2,n3⟩:=cT hM.right hn
 have hps:∀ p,p∈aB d.show_ nd→1≤p∧p≤3:=fun p hp=>⟨(bC hp).1,(bC hp).2.1⟩
 have hpl:=lZ d.show_ nd
 unfold gH
 rw [nU d hf]
 simp only [obnd]
 rw [tK hs hM n2 n3]
 simp only
 have key:aq (gp ties nd values (((aB d.show_ nd).length:Nat):Int) (endX d.show_ d.state ties).now (endX d.show_ d.state ties).times (endX d.show_ d.state ties).values d.show_.horizon d.state.now d.lazy (decX (endX d.show_ d.state ties) nd).now d.show_.nodes d.show_.ties d.state.times d.state.values d.log (decX (endX d.show_ d.state ties) nd).times (decX (endX d.show_ d.state ties) nd).values (aB d.show_ nd)) (((0:Nat):Int),bP values ((aB d.show_ nd).take 0),litL values ((aB d.show_ nd).take 0))=some (bP values (aB d.show_ nd),litL values (aB d.show_ nd)):=by
  refine aH (aB d.show_ nd).length (fun i=>((i:Int),bP values ((aB d.show_ nd).take i),litL values ((aB d.show_ nd).take i))) ?_ ?_
  ·intro i hi
   have hb:=hps _ (List.getElem_mem hi)
   have htm:=Ke hp (k:=(aB d.show_ nd)[i] - 1) (by omega) (by omega)
   have hsl:(bP values ((aB d.show_ nd).take i)).length≤3:=by unfold bP;rw [List.length_map,List.length_take];omega
   have hll:(litL values ((aB d.show_ nd).take i)).length≤3:=by unfold litL;rw [List.length_map,List.length_take];omega
   unfold gp
   try simp only
   rw [if_pos (by omega),au hi]
   simp only [obnd]
   rw [wr (x:=(aB d.show_ nd)[i] - 1) (by omega) (by omega),bB (by omega) (by omega)]
   simp only
   rw [am (by omega),am (by omega),am (by omega),am (by omega),wr (x:=(i:Int)+1) (by omega) (by omega),wr (x:=(aB d.show_ nd)[i]*tm values ((aB d.show_ nd)[i] - 1)) (by rcases htm with h | h <;> rw [h] <;> omega) (by rcases htm with h | h <;> rw [h] <;> omega)]
   have e1:bP values ((aB d.show_ nd).take (i+1))=bP values ((aB d.show_ nd).take i)++[tm values ((aB d.show_ nd)[i] - 1)]:=by
    unfold bP;rw [List.take_succ_eq_append_getElem hi,List.map_append];rfl
   have e2:litL values ((aB d.show_ nd).take (i+1))=litL values ((aB d.show_ nd).take i)++[(aB d.show_ nd)[i]*tm values ((aB d.show_ nd)[i] - 1)]:=by
    unfold litL;rw [List.take_succ_eq_append_getElem hi,List.map_append];rfl
   rw [e1,e2];rfl
  ·unfold gp
   try simp only
   rw [if_neg (by omega),List.take_length]
 simp only [Int.natCast_zero,List.take_zero] at key
 rw [show bP values []=[] from rfl,show litL values []=[] from rfl] at key
 rw [key]
 simp only
 obtain ⟨s1,s2⟩:=vL hp hps
 have hnow:=hR.now
 have hhor:=hR.right.hor
 have hln:=hM.len
 have h7:=hM.right.nodes
 rw [am (by omega),am (by omega),am (by omega),am (by omega),am (by omega),am (by omega),(kQ (decX (endX d.show_ d.state ties) nd) (aB d.show_ nd) (bP values (aB d.show_ nd)) (by show 0≤d.state.now∧d.state.now≤1000;omega) (by show (aY _ _ _ _).length≤_;rw [bT];omega) hv3 hps s1 (by omega)).2]
 rfl
theorem Ht (d:GDesk)(y:GState)(without:Int)(hf:FitD d)(hM:MomR d.show_ y):jL d y without=some (match rU d.lazy (decL d.show_ y) (fun nd=>!decide (without∈nd)&&bp (win d.show_) d.show_ y nd) with | some nd=>(nd,true) | none=>([],false)):=by
 have hs:=hf.sh.small
 have hl:=nD hM.right y
 unfold jL
 rw [rK hs hM]
 simp only [obnd]
 have hlen:∀ {nd},nd∈decL d.show_ y→nd.length≤7:=fun h=>(cT hM.right h).2.1
 have e0:rU d.lazy (decL d.show_ y) (fun nd=>!decide (without∈nd)&&bp (win d.show_) d.show_ y nd)=(if d.lazy=true then (decL d.show_ y).reverse else decL d.show_ y).find? (fun nd=>!decide (without∈nd)&&bp (win d.show_) d.show_ y nd):=by
  unfold rU;split <;> rfl
 rw [e0]
 generalize hpd:(fun nd=>!decide (without∈nd)&&bp (win d.show_) d.show_ y nd)=p
 have hp0:∀ nd,p nd=(!decide (without∈nd)&&bp (win d.show_) d.show_ y nd):=fun nd=>by rw [← hpd]
 clear hpd
 generalize hL:(if d.lazy=true then (decL d.show_ y).reverse else decL d.show_ y)=L
 have hel:L.length=(decL d.show_ y).length:=by rw [← hL];split <;> simp
 have g1:d.lazy=false→∀ i (hi:i<L.length),L[i]=(decL d.show_ y)[i]'(by omega):=by
  intro hz i hi
  subst hL
  simp [hz]
 have g2:d.lazy=true→∀ i (hi:i<L.length),L[i]=(decL d.show_ y)[(decL d.show_ y).length - 1 - i]'(by omega):=by
  intro hz i hi
  subst hL
  simp [hz]
 clear hL
 have step:∀ i (hi:i<L.length),ej without (((decL d.show_ y).length:Nat):Int) d.show_.nodes d.show_.ties d.show_.horizon d.state.now d.state.times d.state.values d.lazy d.log y.now y.times y.values (decL d.show_ y) (i:Int)=(if p L[i]=true then some (.done (.inr (L[i],true))) else some (.next ((i:Int)+1))):=by
  intro i hi
  rw [hel] at hi
  unfold ej
  try simp only
  rw [if_pos (by omega),au hi]
  simp only [obnd]
  rw [wr (x:=(i:Int)+1) (by omega) (by omega)]
  cases hz:d.lazy
  ·simp only [Bool.false_eq_true,if_false]
   rw [g1 hz i (by omega),hp0]
   have hmem:=List.getElem_mem hi
   have h7:=hlen hmem
   rw [nF _ _ (by unfold Cnt;omega)]
   simp only
   by_cases hw:without∈(decL d.show_ y)[i]
   ·rw [decide_eq_true hw];rfl
   ·rw [decide_eq_false hw]
    simp only [Bool.false_eq_true,if_false,Bool.not_false,Bool.true_and]
    rw [show (GShow.mk d.show_.nodes d.show_.ties d.show_.horizon)=d.show_ from rfl,show (GState.mk y.now y.times y.values)=y from rfl,vK hs hM hmem]
    simp only
    rw [am (by omega),am (by omega)]
  ·simp only [if_true]
   have hj:(decL d.show_ y).length - 1 - i<(decL d.show_ y).length:=by omega
   rw [wr (x:=(((decL d.show_ y).length:Nat):Int) - 1) (by omega) (by omega),wr (by omega) (by omega),show (((decL d.show_ y).length:Nat):Int) - 1 - (i:Int)=(((decL d.show_ y).length - 1 - i:Nat):Int) by omega,au hj]
   simp only
   rw [g2 hz i (by omega),hp0]
   have hmem:=List.getElem_mem hj
   have h7:=hlen hmem
   rw [nF _ _ (by unfold Cnt;omega)]
   simp only
   by_cases hw:without∈(decL d.show_ y)[(decL d.show_ y).length - 1 - i]
   ·rw [decide_eq_true hw];rfl
   ·rw [decide_eq_false hw]
    simp only [Bool.false_eq_true,if_false,Bool.not_false,Bool.true_and]
    rw [show (GShow.mk d.show_.nodes d.show_.ties d.show_.horizon)=d.show_ from rfl,show (GState.mk y.now y.times y.values)=y from rfl,vK hs hM hmem]
    simp only
    rw [am (by omega),am (by omega)]
 have key:=cE (body:=ej without (((decL d.show_ y).length:Nat):Int) d.show_.nodes d.show_.ties d.show_.horizon d.state.now d.state.times d.state.values d.lazy d.log y.now y.times y.values (decL d.show_ y)) (s0:=(0:Int)) L.length
  (fun (i:Nat) (st:Int)=>st=(i:Int)∧∀ j (hj:j<L.length),j<i→p L[j]=false)
  (fun r=>r=(match L.find? p with | some nd=>.inr (nd,true) | none=>.inl ())) ⟨rfl,fun j _ h=>absurd h (by omega)⟩ ?_ ?_
 ·obtain ⟨r,hr,hp1⟩:=key
  rw [hr,hp1]
  cases L.find? p <;> rfl
 ·rintro i a hi ⟨rfl,hall⟩
  rw [step i hi]
  cases hq:p L[i]
  ·left
   refine ⟨_,if_neg (by simp),rfl,fun j hj hlt=>?_⟩
   rcases Nat.lt_or_ge j i with h | h
   ·exact hall j hj h
   ·obtain rfl:j=i:=by omega
    exact hq
  ·right
   refine ⟨_,if_pos rfl,?_⟩
   have:L.find? p=some L[i]:=by
    rw [List.find?_eq_some_iff_getElem]
    exact ⟨hq,i,hi,rfl,fun j hj=>by have h:=hall j (by omega) hj;show (!_)=true;rw [h];rfl⟩
   rw [this]
 ·rintro a ⟨rfl,hall⟩
  refine ⟨.inl (),?_,?_⟩
  ·unfold ej
   try simp only
   rw [if_neg (by rw [hel];omega)]
  ·have:L.find? p=none:=by
    rw [List.find?_eq_none]
    intro x hx
    obtain ⟨j,hj,rfl⟩:=List.getElem_of_mem hx
    have h:=hall j hj hj
    rw [h];simp
   rw [this]
theorem Fg (d:GDesk)(ties:List Int)(node:Int)(values:List Int)(hf:FitD d)(ht:ties.length≤1048576)(hv:values.length≤1048576):kF d ties node values=some (kJ d ties values 4 (ut d ties node)):=by
 unfold kF kJ
 rw [zn d ties values hf ht hv]
 simp only [obnd]
 by_cases h0:aR d ties values=0
 ·obtain ⟨g1,_,g3,_⟩:=ma h0
  have hM:=ju (kK g1) g3
  rw [if_pos h0,if_pos h0]
  simp only [if_true]
  rw [Ht d _ _ hf hM]
  rw [show rU d.lazy (decL d.show_ (endX d.show_ d.state ties)) (fun nd=>!decide (node∈nd)&&bp (win d.show_) d.show_ (endX d.show_ d.state ties) nd)=ut d ties node from rfl]
  cases hpk:ut d ties node with
  | none=>
   simp only [Bool.false_eq_true,if_false]
   rw [nU d hf]
  | some nd=>
   simp only [if_true]
   rw [xn d ties values nd hf ht h0 (xm hpk).1]
 ·rw [if_neg h0,if_neg h0]
  simp only
  rw [if_neg h0,nU d hf]
theorem Cc (d:GDesk)(ties nodes values:List Int)(hf:FitD d)(ht:ties.length≤1048576)(hn:nodes.length≤1048576)(hv:values.length≤1048576):ol d ties nodes values=some ((kJ d ties values 4 (manC d ties nodes)).1,(kJ d ties values 4 (manC d ties nodes)).2.2):=by
 have hs:=hf.sh.small
 unfold ol kJ
 rw [zn d ties values hf ht hv]
 simp only [obnd]
 by_cases h0:aR d ties values=0
 ·obtain ⟨g1,_,g3,_⟩:=ma h0
  have hM:=ju (kK g1) g3
  have hl:=nD hM.right (endX d.show_ d.state ties)
  rw [if_pos h0,if_pos h0]
  simp only [if_true]
  unfold pY
  rw [rK hs hM]
  simp only [obnd]
  rw [vF _ _ (by unfold Cnt;omega) (fun l hl=>by have:=(cT hM.right hl).2.1;unfold Cnt;omega)]
  simp only
  unfold manC
  by_cases hm:nodes∈decL d.show_ (endX d.show_ d.state ties)
  ·rw [decide_eq_true hm,if_pos rfl,vK hs hM hm]
   simp only
   cases hsf:bp (win d.show_) d.show_ (endX d.show_ d.state ties) nodes
   ·simp only [Bool.false_eq_true,if_false,and_false]
    rw [nU d hf]
   ·rw [if_pos rfl,if_pos ⟨hm,rfl⟩,xn d ties values nodes hf ht h0 hm]
  ·rw [decide_eq_false hm,if_neg (by simp),if_neg (fun h=>hm h.1)]
   simp only [Bool.false_eq_true,if_false]
   rw [nU d hf]
 ·rw [if_neg h0,if_neg h0]
  simp only
  rw [if_neg h0,nU d hf]
theorem Er (d:GDesk)(ties values:List Int)(refused:Int)(c:Option (List Int))(hf:FitD d)(ht:ties.length≤1048576)(hc:aR d ties values=0→∀ nd,c=some nd→nd∈decL d.show_ (endX d.show_ d.state ties)) :
  FitD (kJ d ties values refused c).1∧(kJ d ties values refused c).2.1.length≤7:=by
 unfold kJ
 by_cases h0:aR d ties values=0
 ·rw [if_pos h0]
  cases c with
  | none=>exact ⟨hf,by simp⟩
  | some nd=>
   obtain ⟨g1,hp,g3,_⟩:=ma h0
   have hx:=kK g1
   have hR:=bz hx
   have hM:=ju hx g3
   have hnd:=hc h0 nd rfl
   obtain ⟨n1,n2,n3⟩:=cT hM.right hnd
   have hlog:(d.log.length:Int)=d.state.now:=by
    unfold mL at g1
    simp only [Bool.and_eq_true,decide_eq_true_eq] at g1
    exact g1.1.1.2
   have hnow:=hR.now
   have hhor:=hR.right.hor
   have hln:=hM.len
   have h7:=hM.right.nodes
   have hv3:=(aT hR.val).1
   have hpl:=lZ d.show_ nd
   refine ⟨⟨hf.sh,⟨?_,?_⟩,?_,?_⟩,n2⟩
   ·show (aY _ _ _ _).length≤_
    rw [bT];omega
   ·show (setV _ _ _ _).length≤_
    rw [pu]
    show d.state.values.length≤_
    omega
   ·show (d.log++[_]).length≤_
    rw [List.length_append];simp;omega
   ·intro e he
    have he':e∈d.log++[⟨d.state.now,ties,nd,litL values (aB d.show_ nd)⟩]:=he
    rw [List.mem_append,List.mem_singleton] at he'
    rcases he' with he' | rfl
    ·exact hf.entry e he'
    ·exact ⟨ht,by show nd.length≤_;omega,by show (litL _ _).length≤_;unfold litL;rw [List.length_map];omega⟩
 ·rw [if_neg h0]
  exact ⟨hf,by simp⟩
end Go.Proofs.QZ
set_option maxRecDepth 100000
namespace Go.Proofs.QZ
open Go
theorem mQ (a:List Int)(h:a.length≤1048576):bb a a=some true:=by
 rw [nH a a (by unfold Cnt;omega),decide_eq_true rfl]
theorem Hu (d:GDesk)(ties:List Int)(node:Int)(values:List Int)(b1:BdD d):gO d ties node values=some true:=by
 unfold gO
 by_cases ht:1048576<((ties.length:Nat):Int)
 ·rw [if_pos ht]
 rw [if_neg ht]
 by_cases hv:1048576<((values.length:Nat):Int)
 ·rw [if_pos hv]
 rw [if_neg hv]
 obtain ⟨r1,e1,h1⟩:=Eh (l:=1048576) (by omega) (by omega) b1
 rw [e1];simp only [obnd]
 rcases h1 with h1 | ⟨hf,h1,h1'⟩
 ·rw [if_pos h1]
 rw [if_neg (by omega),Eg d hf];simp only
 rw [ip ties (by omega)];simp only
 rw [ip values (by omega)];simp only
 rw [Fg d ties node values hf (by omega) (by omega)];simp only
 rw [Ff d ties node values hf (by omega) (by omega)];simp only
 obtain ⟨f1,f2⟩:=Er d ties values 4 (ut d ties node) hf (by omega) (fun h0 nd h=>(xm h).1)
 generalize kJ d ties values 4 (ut d ties node)=p at f1 f2 ⊢
 obtain ⟨g,l,c⟩:=p
 simp only at f1 f2 ⊢
 rw [rP g f1];simp only [if_true]
 rw [mQ l (by omega)];simp only [if_true]
 rw [rP d hf];simp only [if_true]
 rw [mQ ties (by omega)];simp only [if_true]
 rw [mQ values (by omega)];simp only [if_true]
 obtain ⟨q0,m0,m1,m2,_⟩:=nV d hf
 rw [m0];simp only
 rw [cR ties _ (by omega) m1 (by omega)];simp only
 rw [cR values _ (by omega) (by omega) (by omega)];simp only
 rw [if_neg (by omega)]
 obtain ⟨q,n0,n1,n2,n3,n4,n5,n6,n7,n8⟩:=nV g f1
 rw [n0];simp only
 rw [cR l _ (by omega) n1 (by omega)];simp only
 rw [am (by omega),am (by omega),am (by omega),am (by omega),am (by omega),List.take_of_length_le (by omega),List.take_of_length_le (by omega),List.take_of_length_le (by omega),List.take_of_length_le (by omega),List.take_of_length_le (by omega),n8]
 simp only
 rw [if_neg (by omega),am (by rw [kL];exact Nat.le_refl _),List.take_of_length_le (by rw [kL];exact Nat.le_refl _),kR _ _ (by omega) n1 (by omega)]
 simp only
 rw [if_neg (by omega)]
 simp only [if_true]
 rw [if_neg (by omega)]
 rw [if_neg (by omega)]
theorem Ob (d:GDesk)(ties nodes values:List Int)(b1:BdD d):ny d ties nodes values=some true:=by
 unfold ny
 by_cases ht:1048576<((ties.length:Nat):Int)
 ·rw [if_pos ht]
 rw [if_neg ht]
 by_cases hn:1048576<((nodes.length:Nat):Int)
 ·rw [if_pos hn]
 rw [if_neg hn]
 by_cases hv:1048576<((values.length:Nat):Int)
 ·rw [if_pos hv]
 rw [if_neg hv]
 obtain ⟨r1,e1,h1⟩:=Eh (l:=1048576) (by omega) (by omega) b1
 rw [e1];simp only [obnd]
 rcases h1 with h1 | ⟨hf,h1,h1'⟩
 ·rw [if_pos h1]
 rw [if_neg (by omega),Eg d hf];simp only
 rw [ip ties (by omega)];simp only
 rw [ip nodes (by omega)];simp only
 rw [ip values (by omega)];simp only
 rw [Cc d ties nodes values hf (by omega) (by omega) (by omega)];simp only
 rw [Ca d ties nodes values hf (by omega) (by omega) (by omega)];simp only
 obtain ⟨f1,f2⟩:=Er d ties values 4 (manC d ties nodes) hf (by omega) (fun h0 nd h=>by unfold manC at h;split at h;rename_i hc;cases h;exact hc.1;cases h)
 generalize kJ d ties values 4 (manC d ties nodes)=p at f1 f2 ⊢
 obtain ⟨g,l,c⟩:=p
 simp only at f1 f2 ⊢
 rw [rP g f1];simp only [if_true]
 rw [rP d hf];simp only [if_true]
 rw [mQ ties (by omega)];simp only [if_true]
 rw [mQ nodes (by omega)];simp only [if_true]
 rw [mQ values (by omega)];simp only [if_true]
 obtain ⟨q0,m0,m1,m2,_⟩:=nV d hf
 rw [m0];simp only
 rw [cR ties _ (by omega) m1 (by omega)];simp only
 rw [cR nodes _ (by omega) (by omega) (by omega)];simp only
 rw [cR values _ (by omega) (by omega) (by omega)];simp only
 rw [if_neg (by omega)]
 obtain ⟨q,n0,n1,n2,n3,n4,n5,n6,n7,n8⟩:=nV g f1
 rw [n0];simp only
 rw [am (by omega),am (by omega),am (by omega),am (by omega),am (by omega),List.take_of_length_le (by omega),List.take_of_length_le (by omega),List.take_of_length_le (by omega),List.take_of_length_le (by omega),List.take_of_length_le (by omega),n8]
 simp only
 rw [if_neg (by omega)]
 simp only [if_true]
 rw [if_neg (by omega)]
end Go.Proofs.QZ
set_option maxRecDepth 100000
set_option maxHeartbeats 1000000
namespace Go.Proofs.QZ
open Go
end Go.Proofs.QZ
set_option maxRecDepth 100000
set_option maxHeartbeats 1000000
namespace Go.Proofs.QZ
open Go
end Go.Proofs.QZ
set_option maxRecDepth 100000
set_option maxHeartbeats 1000000
namespace Go.Proofs.QZ
open Go
end Go.Proofs.QZ
