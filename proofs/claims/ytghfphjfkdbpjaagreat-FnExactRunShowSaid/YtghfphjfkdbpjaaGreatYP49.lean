/- The reference's game reckons winning too. Own work. -/
import Derived.Test.YtghfphjfkdbpjaaGreatYP33
set_option linter.all false
set_option maxRecDepth 100000
namespace Go.Proofs.YtghfphjfkdbpjaaGreatY
open Go
abbrev RecS:=GShow→GState→Option Bool
def xx (s:GShow)(t:Int)(rec:RecS):Prop:=∀ x,aD s x=true→x.now=t→rec s x=some (win s x)
theorem xy {s:GShow}(hs:aM s){rec:RecS}{y:GState}(hr:xx s (y.now+1) rec)(h:MomR s y){nodes:List Int}(hn:nodes∈decL s y):gE rec s y nodes=some (bB (win s) s y nodes):=by
 obtain ⟨ha,hl7,hm⟩:=dd h.right hn
 have hv:=(aT h.val).1
 have h7:=h.right.nodes
 have hln:=h.len
 have hnow:=h.now
 have hh:=h.right.hor
 have hp:∀ p,p∈aA s nodes→1≤p∧p≤3:=fun p hp=>⟨(bC hp).1,(bC hp).2.1⟩
 have hl3:=ni s nodes
 have ho:=He (ps:=aA s nodes) (by omega)
 unfold gE
 rw [tJ hs h hl7 hm]
 simp only [obnd]
 rw [wF (xw s nodes) hp hl3]
 simp only
 have key:=gK (body:=iH rec (((obsL (aA s nodes)).length:Nat):Int) s.nodes s.ties s.horizon (decX y nodes).now (decX y nodes).times (decX y nodes).values (aA s nodes) (obsL (aA s nodes)))
  (obsL (aA s nodes)) (fun vs=>win s (obsX (decX y nodes) (aA s nodes) vs)) (fun i=>(i:Int)) (rT:=.inl ()) (rF:=.inr false) ?_ ?_ ?_
 ·rw [show ((0:Nat):Int)=0 from rfl] at key
  rw [key]
  unfold bB
  cases (obsL (aA s nodes)).all (fun vs=>win s (obsX (decX y nodes) (aA s nodes) vs)) <;> rfl
 all_goals first
  | (
   intro i hi hq
   obtain ⟨h1,h2⟩:=sT (List.getElem_mem hi)
   have hob:=vn h hm h1 h2
   have e:=hr _ hob rfl
   unfold iH
   try simp only
   rw [if_pos (by omega),ay hi]
   simp only [obnd]
   rw [show (GState.mk (decX y nodes).now (decX y nodes).times (decX y nodes).values)=decX y nodes from rfl,(mA (decX y nodes) (aA s nodes) _ (by show 0≤y.now∧y.now≤1000;omega) (by show (bb _ _ _ _).length≤_;rw [bX];omega) hv hp h1 (by omega)).2]
   simp only
   rw [show (GShow.mk s.nodes s.ties s.horizon)=s from rfl,e,hq]
   first | rfl | (simp only [if_true];rw [wr (by omega) (by omega)];rfl))
  | (
   unfold iH
   try simp only
   rw [if_neg (by omega)])
theorem MJ {s:GShow}(hs:aM s){rec:RecS}{y:GState}(hr:xx s (y.now+1) rec)(h:MomR s y):kl rec s y=some (anyB (win s) s y):=by
 have h7:=vk h.right y
 have hpow:=oT h7
 have hpos:0 < 2 ^ (enL s y).length:=Nat.pow_pos (by omega)
 unfold kl
 rw [wu hs h]
 simp only [obnd]
 rw [wru (by omega),am (by omega),Int.toNat_natCast,lA h7,wr (by omega) (by omega)]
 have hlen:(decL s y).length=2 ^ (enL s y).length:=by unfold decL;simp
 have hget:∀ j (hj:j < (decL s y).length),(decL s y)[j]=kT s y j:=by
  intro j hj
  have:(decL s y)[j]?=some (kT s y j):=by
   unfold decL
   rw [List.getElem?_map,List.getElem?_range (by omega)];rfl
  rw [List.getElem?_eq_getElem hj] at this
  exact Option.some.inj this
 have key:=iV (body:=gF rec s.nodes s.ties s.horizon y.now y.times y.values (enL s y)) (decL s y) (bB (win s) s y) (fun j=>((2 ^ (enL s y).length:Nat):Int) - 1 - (j:Int)) (rT:=.inl ()) (fun _=>.inr true) ?_ ?_ ?_
 ·simp only [Int.natCast_zero,Int.sub_zero] at key
  rw [key]
  unfold anyB
  have hany:(decL s y).any (bB (win s) s y)=((decL s y).findIdx? (bB (win s) s y)).isSome:=(List.findIdx?_isSome).symm
  rw [hany]
  cases (decL s y).findIdx? (bB (win s) s y) <;> rfl
 ·intro j hj hq
  have hmem:=List.getElem_mem hj
  have e:=xy hs hr h hmem
  rw [hget j hj] at e hq
  have hd:kT s y j=sel (cd (((2 ^ (enL s y).length:Nat):Int) - 1 - (j:Int))) (enL s y) (enL s y).length:=by
   unfold kT
   rw [show ((2 ^ (enL s y).length - 1 - j:Nat):Int)=((2 ^ (enL s y).length:Nat):Int) - 1 - (j:Int) by omega]
  unfold gF
  try simp only
  rw [if_pos (by omega),qN _ _ (by omega),← hd]
  simp only [obnd]
  rw [show (GShow.mk s.nodes s.ties s.horizon)=s from rfl,show (GState.mk y.now y.times y.values)=y from rfl,e,hq]
  simp only [Bool.false_eq_true,if_false]
  rw [wr (by omega) (by omega)]
  congr 2
  omega
 ·intro j hj hq
  have hmem:=List.getElem_mem hj
  have e:=xy hs hr h hmem
  rw [hget j hj] at e hq
  have hd:kT s y j=sel (cd (((2 ^ (enL s y).length:Nat):Int) - 1 - (j:Int))) (enL s y) (enL s y).length:=by
   unfold kT
   rw [show ((2 ^ (enL s y).length - 1 - j:Nat):Int)=((2 ^ (enL s y).length:Nat):Int) - 1 - (j:Int) by omega]
  unfold gF
  try simp only
  rw [if_pos (by omega),qN _ _ (by omega),← hd]
  simp only [obnd]
  rw [show (GShow.mk s.nodes s.ties s.horizon)=s from rfl,show (GState.mk y.now y.times y.values)=y from rfl,e,hq]
  rfl
 ·unfold gF
  try simp only
  rw [if_neg (by omega)]
theorem EW {s:GShow}(hs:aM s){rec:RecS}{x:GState}(hx:aD s x=true)(hr:xx s (x.now+1) rec):km rec s x=some (win s x):=by
 have hR:=aU hx
 have hv:=(aT hR.val).1
 have h6:=sZ hR.ok x
 have hmm:=tF s x
 have hpow:=oT (m:=(mayL s x).length) (by omega)
 unfold km
 rw [tK hs hR]
 simp only [obnd]
 have hw:=Hj hx
 unfold lC at hw
 cases hb:cQ s x
 ·rw [hb] at hw
  simp only [Bool.false_eq_true,if_false] at hw ⊢
  rw [vR hs hR]
  simp only
  cases ho:jI s x
  ·rw [ho] at hw
   simp only [Bool.false_eq_true,if_false] at hw ⊢
   obtain ⟨b,eb,hbw⟩:=Ip hs hx
   rw [eb]
   simp only
   cases b
   ·simp only [Bool.false_eq_true,if_false]
    rw [wo hx]
    simp only
    have hh:x.now≤s.horizon:=by
     unfold cQ at hb
     rw [Bool.or_eq_false_iff,ho] at hb
     have:=hb.2
     simp only [Bool.not_false,Bool.and_true,decide_eq_false_iff_not] at this
     omega
    have hends:bp s x=(List.range (2 ^ (mayL s x).length)).map (kA s x):=by unfold bp;rw [if_neg (by omega)]
    have hlen:(bp s x).length=2 ^ (mayL s x).length:=by rw [hends];simp
    have hget:∀ j (hj:j < (bp s x).length),(bp s x)[j]=kA s x j:=by
     intro j hj
     have:(bp s x)[j]?=some (kA s x j):=by
      rw [hends,List.getElem?_map,List.getElem?_range (by omega)];rfl
     rw [List.getElem?_eq_getElem hj] at this
     exact Option.some.inj this
    have step:∀ j (hj:j < (bp s x).length),gG rec s.nodes s.ties s.horizon x.now x.times x.values (kz s x) (mayL s x) (j:Int)=(if anyB (win s) s (endX s x (bp s x)[j])=true then some (.next ((j:Int)+1)) else some (.done (.inr false))):=by
     intro j hj
     have hmem:=List.getElem_mem hj
     obtain ⟨a1,a2,a3⟩:=jF hR.ok hmem
     have hM:=lD hx hmem
     have e:=MJ hs (y:=endX s x (bp s x)[j]) hr hM
     obtain ⟨f1,f2,f3,f4,f5,f6⟩:=rK hR.ok x j
     rw [hget j hj] at e a2 a3 ⊢
     unfold gG
     try simp only
     rw [wru (by omega),am (by omega),Int.toNat_natCast,lA (by omega),if_pos (by omega),qN _ _ (by omega)]
     simp only [obnd]
     rw [f2]
     simp only
     rw [show (GShow.mk s.nodes s.ties s.horizon)=s from rfl,show (GState.mk x.now x.times x.values)=x from rfl,xu hx (by omega) (by omega) a3]
     simp only
     rw [e]
     simp only
     rw [wr (by omega) (by omega)]
    have key:=gK (body:=gG rec s.nodes s.ties s.horizon x.now x.times x.values (kz s x) (mayL s x)) (bp s x) (fun ties=>anyB (win s) s (endX s x ties)) (fun i=>(i:Int)) (rT:=.inl ()) (rF:=.inr false) ?_ ?_ ?_
    ·rw [show ((0:Nat):Int)=0 from rfl] at key
     rw [key,hw]
     cases (bp s x).all (fun ties=>anyB (win s) s (endX s x ties)) <;> rfl
    ·intro i hi hq
     rw [step i hi,hq];rfl
    ·intro i hi hq
     rw [step i hi,hq];rfl
    ·unfold gG
     try simp only
     rw [wru (by omega),am (by omega),Int.toNat_natCast,lA (by omega),if_neg (by omega)]
   ·simp only [if_true]
    rw [hbw rfl]
  ·rw [ho] at hw
   rw [hw];rfl
 ·rw [hb] at hw
  rw [hw];rfl
theorem wv {s:GShow}(hs:aM s):∀ (n:Nat) (t:Int),12≤(n:Int)+t→xx s t (ko n)
 | 0,t,h=>by
  intro x hx ht
  have:=(aU hx).now
  have:=(aU hx).right.hor
  omega
 | n+1,t,h=>by
  intro x hx ht
  exact EW hs hx (by rw [ht];exact wv hs n (t+1) (by omega))
theorem Iq {s:GShow}(hs:aM s)(t:Int)(h:0≤t):xx s t m_spec_l15Win:=wv hs 40 t (by omega)
theorem Cd {s:GShow}(hs:aM s){y:GState}(h:MomR s y){nodes:List Int}(hn:nodes∈decL s y):nI s y nodes=some (bB (win s) s y nodes):=
 xy hs (Iq hs _ (by have:=h.now;omega)) h hn
end Go.Proofs.YtghfphjfkdbpjaaGreatY
set_option maxRecDepth 100000
namespace Go.Proofs.YtghfphjfkdbpjaaGreatY
open Go
theorem Ds {α:Type}{l:List α}{n:Nat}{x:α}(h:n < l.length):(l.set n x).take (n+1)=l.take n ++ [x]:=by
 have e:(l.set n x).take n=l.take n:=by
  apply List.ext_getElem?
  intro i
  rw [List.getElem?_take,List.getElem?_take]
  split
  ·rw [List.getElem?_set_ne (by omega)]
  ·rfl
 rw [dc (by simp;exact h),e]
 simp
theorem Kk {α:Type}{xs ys:List α}{i:Nat}(h:i+ys.length≤xs.length):(putL xs i ys).take i=xs.take i:=by
 unfold putL
 rw [if_pos h,List.append_assoc,List.take_append_of_le_length (by rw [List.length_take];omega),List.take_take]
 simp
theorem Kl {α β ρ:Type}(xs:List α)(q:α→Bool)(I:β→Prop)(body:Int × β→Option (Step (Int × β) ρ))(rT:β→ρ)(rF:Int→β→ρ)
  (h1:∀ i (hi:i < xs.length) k,I k→∃ k',I k'∧body ((i:Int),k)=some (if q xs[i]=true then .done (rF (i:Int) k') else .next ((i:Int)+1,k')))
  (h2:∀ k,I k→body ((xs.length:Int),k)=some (.done (rT k))) (k:β) (hk:I k) :
  ∃ k',I k'∧aq body (0,k)=some (if 0≤aK xs q then rF (aK xs q) k' else rT k'):=by
 have key:=cT (body:=body) (s0:=((0:Int),k)) xs.length (fun i st=>st.1=(i:Int)∧I st.2∧∀ j (hj:j < xs.length),j < i→q xs[j]=false)
  (fun r=>∃ k',I k'∧r=(if 0≤aK xs q then rF (aK xs q) k' else rT k')) ⟨rfl,hk,fun j _ h=>absurd h (by omega)⟩ ?_ ?_
 ·obtain ⟨r,hr,hp⟩:=key
  obtain ⟨k',h3,rfl⟩:=hp
  exact ⟨k',h3,hr⟩
 ·rintro i ⟨a,k⟩ hi ⟨rfl,hI,hall⟩
  obtain ⟨k',hk',hb⟩:=h1 i hi k hI
  cases hq:q xs[i]
  ·rw [hq,if_neg (by simp)] at hb
   refine .inl ⟨_,hb,rfl,hk',fun j hj hlt=>?_⟩
   rcases Nat.lt_or_ge j i with h | h
   ·exact hall j hj h
   ·obtain rfl:j=i:=by omega
    exact hq
  ·rw [hq,if_pos rfl] at hb
   refine .inr ⟨_,hb,k',hk',?_⟩
   have:aK xs q=(i:Int):=by
    unfold aK
    have:xs.findIdx? q=some i:=by
     rw [List.findIdx?_eq_some_iff_getElem]
     exact ⟨hi,hq,fun j hj=>by simp [hall j (by omega) hj]⟩
    rw [this]
   rw [this,if_pos (by omega)]
 ·rintro ⟨a,k⟩ ⟨rfl,hI,hall⟩
  refine ⟨_,h2 k hI,k,hI,?_⟩
  rw [if_neg]
  intro h0
  obtain ⟨j,hj,_,hq,_⟩:=iW h0
  rw [hall j hj hj] at hq
  cases hq
theorem Eo {α:Type}{xs:List α}{q:α→Bool}(h:¬ 0≤aK xs q):aK xs q=-1∧xs.any q=false:=by
 constructor
 ·unfold aK at h ⊢
  cases hf:xs.findIdx? q with
  | none=>rfl
  | some j=>rw [hf] at h;simp at h
 ·rw [← nq];exact decide_eq_false h
section
variable {s:GShow} {y:GState}
theorem Nc (hs:aM s)(h:MomR s y){nodes:List Int}(hn:nodes∈decL s y){known:List (ByteArray × Bool)}(hk:bT s known) :
  ∃ known',bT s known'∧dL nodes s known y=some (!bB (win s) s y nodes,known'):=by
 obtain ⟨k',hk',e⟩:=zB (Jb hs _ (by have:=h.now;omega)) h hn hk
 refine ⟨k',hk',?_⟩
 unfold dL ng
 rw [e];rfl
theorem Dt (hs:aM s)(h:MomR s y)(xs:List (List Int))(hx:∀ nd,nd∈xs→nd∈decL s y)(hl:xs.length≤128){known:List (ByteArray × Bool)}(hk:bT s known) :
  ∃ known',bT s known'∧bc xs s known y=some (aK xs (fun nd=>!bB (win s) s y nd),xs,known'):=by
 unfold bc
 have key:=Kl xs (fun nd=>!bB (win s) s y nd) (bT s) (aV ((xs.length:Nat):Int) xs s.nodes s.ties s.horizon y.now y.times y.values)
  (fun k=>.inl k) (fun i k=>.inr (i,xs,k)) ?_ ?_ known hk
 ·obtain ⟨k',hk',e⟩:=key
  rw [e]
  refine ⟨k',hk',?_⟩
  simp only [obnd]
  by_cases h0:0≤aK xs (fun nd=>!bB (win s) s y nd)
  ·rw [if_pos h0]
  ·rw [if_neg h0,(Eo h0).1]
 ·intro i hi k hk
  obtain ⟨k',hk',e⟩:=Nc hs h (hx _ (List.getElem_mem hi)) hk
  refine ⟨k',hk',?_⟩
  unfold aV
  try simp only
  rw [if_pos (by omega),ay hi]
  simp only [obnd]
  rw [show (GShow.mk s.nodes s.ties s.horizon)=s from rfl,show (GState.mk y.now y.times y.values)=y from rfl,e]
  simp only
  rw [wr (by omega) (by omega)]
  cases bB (win s) s y xs[i] <;> rfl
 ·intro k _
  unfold aV
  try simp only
  rw [if_neg (by omega)]
theorem Ce (hs:aM s)(h:MomR s y)(xs:List (List Int))(hx:∀ nd,nd∈xs→nd∈decL s y)(hl:xs.length≤128){known:List (ByteArray × Bool)}(hk:bT s known) :
  ∃ known',bT s known'∧ba xs s known y=some (xs.filter (fun nd=>bB (win s) s y nd),known'):=by
 obtain ⟨k1,hk1,e1⟩:=Dt hs h xs hx hl hk
 have hfn:xs.filter (fun nd=>bB (win s) s y nd)=xs.filter (fun nd=>!(!bB (win s) s y nd)):=by simp
 rw [hfn]
 unfold ba
 rw [e1]
 simp only [obnd]
 generalize hq':(fun nd=>!bB (win s) s y nd)=q at *
 have hq:∀ nd,q nd=!bB (win s) s y nd:=fun nd=>by rw [← hq']
 have hff:(fun nd=>!(!bB (win s) s y nd))=(fun x=>!q x):=by funext nd;rw [hq]
 rw [hff]
 by_cases h0:0≤aK xs q
 ·obtain ⟨i0,hi0,he,hq0,hno⟩:=iW h0
  rw [he,if_neg (by omega),wr (x:=(i0:Int)+1) (by omega) (by omega)]
  have htake:(xs.take i0).filter (fun x=>!q x)=xs.take i0:=by
   rw [List.filter_eq_self]
   intro x hm
   obtain ⟨j,hj,rfl⟩:=List.getElem_of_mem hm
   rw [List.length_take] at hj
   rw [List.getElem_take,hno j (by omega)];rfl
  have inv:∃ r,aq (aR xs.length s.nodes s.ties s.horizon y.now y.times y.values) ((i0:Int),(i0:Int)+1,xs,k1)=some r∧(r.1=(((xs.filter (fun x=>!q x)).length:Nat):Int)∧r.2.1.length=xs.length∧r.2.1.take (xs.filter (fun x=>!q x)).length=xs.filter (fun x=>!q x)∧bT s r.2.2):=by
   refine cT (xs.length - (i0+1)) (fun (k:Nat) (s':Int × Int × List (List Int) × List (ByteArray × Bool))=>s'.2.1=((i0+1+k:Nat):Int)∧s'.1=((((xs.take (i0+1+k)).filter (fun x=>!q x)).length:Nat):Int)∧s'.2.2.1.length=xs.length ∧
    s'.2.2.1.take ((xs.take (i0+1+k)).filter (fun x=>!q x)).length=(xs.take (i0+1+k)).filter (fun x=>!q x)∧(∀ j,i0+1+k≤j→s'.2.2.1[j]?=xs[j]?)∧((xs.take (i0+1+k)).filter (fun x=>!q x)).length < i0+1+k∧bT s s'.2.2.2) _ ?_ ?_ ?_
   ·have e1:(xs.take (i0+1)).filter (fun x=>!q x)=xs.take i0:=by
     rw [dc hi0,List.filter_append,htake]
     simp [hq0]
    have hl:(xs.take i0).length=i0:=by rw [List.length_take];omega
    refine ⟨by simp only;omega,?_,rfl,?_,fun _ _=>rfl,?_,hk1⟩
    ·simp only [Nat.add_zero];rw [e1,hl]
    ·simp only [Nat.add_zero];rw [e1,hl]
    ·simp only [Nat.add_zero];rw [e1,hl];omega
   ·rintro k ⟨v5,v6,v0,kn⟩ hk ⟨h1,h2,h3,h4,h5,h6,h7⟩
    simp only at h1 h2 h3 h4 h5 h6 h7
    have hj:i0+1+k < xs.length:=by omega
    have hg:getI v0 v6=some xs[i0+1+k]:=by
     unfold getI
     rw [h1,if_pos (by omega),Int.toNat_natCast,h5 _ (Nat.le_refl _),List.getElem?_eq_getElem hj]
    obtain ⟨kn',hkn',ec⟩:=Nc hs h (hx _ (List.getElem_mem hj)) h7
    left
    unfold aR
    simp only
    rw [if_pos (by omega),am (by omega),hg,wr (x:=v6+1) (by omega) (by omega)]
    simp only [obnd]
    rw [show (GShow.mk s.nodes s.ties s.horizon)=s from rfl,show (GState.mk y.now y.times y.values)=y from rfl,ec,← hq]
    simp only
    cases hqq:q xs[i0+1+k]
    ·have e2:(xs.take (i0+1+(k+1))).filter (fun x=>!q x)=(xs.take (i0+1+k)).filter (fun x=>!q x) ++ [xs[i0+1+k]]:=by
      rw [show i0+1+(k+1)=i0+1+k+1 by omega,dc hj,List.filter_append]
      simp [hqq]
     have hv5:getI v0 v5=some v0[((xs.take (i0+1+k)).filter (fun x=>!q x)).length]:=by rw [h2,ay (by omega)]
     rw [if_neg (by simp),am (by omega),hv5,wr (x:=v5+1) (by omega) (by omega)]
     refine ⟨_,rfl,by simp only;omega,?_,?_,?_,?_,?_,hkn'⟩
     ·simp only;rw [e2,List.length_append,h2];simp
     ·simp only [List.length_set];exact h3
     ·simp only;rw [e2,List.length_append,h2,Int.toNat_natCast]
      simp only [List.length_cons,List.length_nil,Nat.zero_add]
      rw [Ds (by omega),h4]
     ·intro j hj'
      simp only
      rw [h2,Int.toNat_natCast,List.getElem?_set_ne (by omega)]
      exact h5 j (by omega)
     ·rw [e2,List.length_append];simp;omega
    ·have e2:(xs.take (i0+1+(k+1))).filter (fun x=>!q x)=(xs.take (i0+1+k)).filter (fun x=>!q x):=by
      rw [show i0+1+(k+1)=i0+1+k+1 by omega,dc hj,List.filter_append]
      simp [hqq]
     rw [if_pos rfl]
     refine ⟨_,rfl,by simp only;omega,?_,h3,?_,fun j hj'=>h5 j (by omega),?_,hkn'⟩
     ·simp only;rw [e2];exact h2
     ·simp only;rw [e2];exact h4
     ·rw [e2];omega
   ·rintro ⟨v5,v6,v0,kn⟩ ⟨h1,h2,h3,h4,h5,h6,h7⟩
    simp only at h1 h2 h3 h4 h7
    have hall:i0+1+(xs.length - (i0+1))=xs.length:=by omega
    rw [hall] at h1 h2 h4
    rw [List.take_length] at h2 h4
    unfold aR
    simp only
    rw [if_neg (by omega)]
    exact ⟨_,rfl,h2,h3,h4,h7⟩
  obtain ⟨⟨v5,v0,kn⟩,hr,h1,h2,h3,h4⟩:=inv
  rw [hr]
  simp only at h1 h2 h3 h4 ⊢
  have hle:=List.length_filter_le (fun x=>!q x) xs
  subst h1
  simp only [Int.toNat_natCast]
  rw [am (by omega),am (by omega),am (by omega),am (by omega),am (by rw [zn];omega),am (by omega),Kk (by rw [List.length_replicate];omega),h3]
  exact ⟨kn,h4,rfl⟩
 ·obtain ⟨h2,h1⟩:=Eo h0
  rw [if_pos h2,am (Nat.le_refl _),List.take_length]
  refine ⟨k1,hk1,?_⟩
  congr 2
  symm
  rw [List.filter_eq_self]
  intro x hm
  rw [List.any_eq_false] at h1
  have:=h1 x hm
  cases hqx:q x
  ·rfl
  ·exact absurd hqx this
theorem MK (hs:aM s)(h:MomR s y){known:List (ByteArray × Bool)}(hk:bT s known) :
  ∃ known',bT s known'∧js s known y=some ((decL s y).filter (bB (win s) s y),known'):=by
 obtain ⟨k',hk',e⟩:=Ce hs h (decL s y) (fun _ h=>h) (rC h.right y) hk
 refine ⟨k',hk',?_⟩
 unfold js
 rw [tI hs h]
 simp only [obnd]
 rw [e]
end
def mP (lazy:Bool)(l:List (List Int))(p:List Int→Bool):Option (List Int):=if lazy=true then l.reverse.find? p else l.find? p
theorem ML (l:List (List Int))(p:List Int→Bool)(lazy:Bool)(hl:l.length≤128) :
  nh (l.filter p) lazy=some (match mP lazy l p with | some nd=>(nd,true) | none=>([],false)):=by
 have hle:=List.length_filter_le p l
 unfold nh mP
 have e1:l.find? p=(l.filter p).head?:=(List.head?_filter).symm
 have e2:l.reverse.find? p=(l.filter p).getLast?:=by rw [← List.head?_filter,List.filter_reverse,List.head?_reverse]
 rw [e1,e2]
 generalize l.filter p=m at *
 by_cases h0:m=[]
 ·subst h0
  rw [if_pos (by simp)]
  cases lazy <;> rfl
 ·have hpos:0 < m.length:=List.length_pos_iff.2 h0
  rw [if_neg (by omega)]
  cases lazy
  ·simp only [Bool.false_eq_true,if_false]
   have:getI m ((0:Nat):Int)=some m[0]:=ay hpos
   rw [show ((0:Nat):Int)=0 from rfl] at this
   rw [this,List.head?_eq_getElem?,List.getElem?_eq_getElem hpos];rfl
  ·simp only [if_true]
   rw [wr (by omega) (by omega),show ((m.length:Nat):Int) - 1=((m.length - 1:Nat):Int) by omega,ay (by omega),List.getLast?_eq_getElem?,List.getElem?_eq_getElem (by omega)];rfl
end Go.Proofs.YtghfphjfkdbpjaaGreatY
set_option maxRecDepth 100000
namespace Go.Proofs.YtghfphjfkdbpjaaGreatY
open Go
theorem Km (log:List GEntry)(hl:log.length≤1048576)(he:∀ e,e∈log→FitE e):lk log=some log:=by
 unfold lk
 have key:aq (iy log ((log.length:Nat):Int)) (((0:Nat):Int),log.take 0)=some log:=by
  refine aH log.length (fun i=>((i:Int),log.take i)) ?_ ?_
  ·intro i hi
   have hf:=he _ (List.getElem_mem hi)
   unfold iy
   try simp only
   rw [if_pos (by omega),ay hi]
   simp only [obnd]
   rw [fm _ hf.ties,fm _ hf.nodes,fm _ hf.values]
   simp only
   rw [am (by rw [List.length_take];omega),am (by rw [List.length_take];omega),wr (by omega) (by omega),List.take_succ_eq_append_getElem hi];rfl
  ·unfold iy
   try simp only
   rw [if_neg (by omega),List.take_length]
 simp only [Int.natCast_zero,List.take_zero] at key
 rw [key];rfl
theorem zC (d:GDesk)(h:FitD d):ij d=some d:=by
 unfold ij
 rw [zp _ h.sh]
 simp only [obnd]
 rw [qO _ h.st.times h.st.values]
 simp only
 rw [Km _ h.log h.entry]
theorem sU (d:GDesk)(h:FitD d):eO d=some d:=by
 have hl:=h.log
 unfold eO
 rw [BR _ h.sh]
 simp only [obnd]
 rw [qP _ h.st.times h.st.values]
 simp only
 have key:aq (dA d.log ((d.log.length:Nat):Int) d.show_.horizon d.state.now d.lazy d.show_.nodes d.show_.ties d.state.times d.state.values) (((0:Nat):Int),d.log.take 0)=some d.log:=by
  refine aH d.log.length (fun i=>((i:Int),d.log.take i)) ?_ ?_
  ·intro i hi
   have hf:=h.entry _ (List.getElem_mem hi)
   have f1:=hf.ties
   have f2:=hf.nodes
   have f3:=hf.values
   unfold dA
   try simp only
   rw [if_pos (by omega),ay hi]
   simp only [obnd]
   unfold mN
   rw [am (by omega),am (by omega),am (by omega),am (by omega),am (by omega),am (by omega)]
   simp only
   rw [am (by rw [List.length_take];omega),am (by rw [List.length_take];omega),wr (by omega) (by omega),List.take_succ_eq_append_getElem hi];rfl
  ·unfold dA
   try simp only
   rw [if_neg (by omega),List.take_length]
 simp only [Int.natCast_zero,List.take_zero] at key
 rw [key]
def pmB (values:List Int):Bool:=decide (values.length=3) && values.all (fun v=>decide (v=1) || decide (v=-1))
noncomputable def bh (d:GDesk)(ties values:List Int):Int:=
 if kB d=true then (if pmB values=true then (if cQ d.show_ d.state=true then 2 else if jI d.show_ d.state=true then 2 else if d.show_.horizon < d.state.now then 2 else if ties∈bp d.show_ d.state then 0 else 3) else 1) else 1
def cE (values ps:List Int):List Int:=ps.map (fun p=>tm values (p - 1))
def litL (values ps:List Int):List Int:=ps.map (fun p=>p * tm values (p - 1))
noncomputable def finD (d:GDesk)(ties values nodes:List Int):GDesk:=
 ⟨d.show_,obsX (decX (endX d.show_ d.state ties) nodes) (aA d.show_ nodes) (cE values (aA d.show_ nodes)),d.lazy,d.log ++ [⟨d.state.now,ties,nodes,litL values (aA d.show_ nodes)⟩]⟩
noncomputable def oV (d:GDesk)(ties values:List Int)(refused:Int)(c:Option (List Int)):GDesk × List Int × Int:=
 if bh d ties values=0 then (match c with | some nd=>(finD d ties values nd,nd,0) | none=>(d,[],refused)) else (d,[],bh d ties values)
theorem kD {d:GDesk}(h:kB d=true):aD d.show_ d.state=true:=by
 unfold kB at h
 simp only [Bool.and_eq_true] at h
 exact h.1.1.1
theorem pN {d:GDesk}{ties values:List Int}(h:bh d ties values=0):kB d=true∧pmB values=true∧ties∈bp d.show_ d.state∧cQ d.show_ d.state=false∧jI d.show_ d.state=false∧¬ d.show_.horizon < d.state.now:=by
 unfold bh at h
 split at h
 ·rename_i h1
  split at h
  ·rename_i h2
   split at h
   ·omega
   ·rename_i h3
    split at h
    ·omega
    ·rename_i h4
     split at h
     ·omega
     ·rename_i h5
      split at h
      ·rename_i h6
       exact ⟨h1,h2,h6,by simpa using h3,by simpa using h4,h5⟩
      ·omega
  ·omega
 ·omega
theorem Hm {values:List Int}(h:pmB values=true):values.length=3∧∀ v,v∈values→v=1∨v=-1:=by
 unfold pmB at h
 rw [Bool.and_eq_true,decide_eq_true_eq,List.all_eq_true] at h
 exact ⟨h.1,fun v hv=>by have:=h.2 v hv;simpa using this⟩
theorem Kn {values:List Int}(h:pmB values=true){k:Int}(h0:0≤k)(h1:k < 3):tm values k=1∨tm values k=-1:=by
 obtain ⟨h2,h3⟩:=Hm h
 unfold tm
 rw [List.getElem?_eq_getElem (show k.toNat < values.length by omega)]
 exact h3 _ (List.getElem_mem _)
theorem Rh {values:List Int}(h3:values.length=3):values.any (fun v=>!(decide (v=1) || decide (v=-1)))=!pmB values:=by
 unfold pmB
 rw [decide_eq_true h3,Bool.true_and,List.any_eq_not_all_not]
 simp
theorem Hn (v:Int):fW v=some (!(decide (v=1) || decide (v=-1))):=by
 unfold fW
 by_cases h:v=1
 ·rw [if_pos h,decide_eq_true h];rfl
 ·rw [if_neg h,decide_eq_false h]
  by_cases h2:v=-1
  ·rw [decide_eq_true h2,decide_eq_false (by simpa using h2)];rfl
  ·rw [decide_eq_false h2,decide_eq_true h2];rfl
theorem Ir {values ps:List Int}(hv:pmB values=true)(hp:∀ p,p∈ps→1≤p∧p≤3)(hl:ps.length≤3):kf ps (cE values ps)=some (litL values ps):=by
 unfold kf
 have key:aq (hS (cE values ps) ps ((ps.length:Nat):Int)) (((0:Nat):Int),litL values (ps.take 0))=some (litL values ps):=by
  refine aH ps.length (fun i=>((i:Int),litL values (ps.take i))) ?_ ?_
  ·intro i hi
   have hb:=hp _ (List.getElem_mem hi)
   have ht:=Kn hv (k:=ps[i] - 1) (by omega) (by omega)
   have hl1:(litL values (ps.take i)).length≤3:=by unfold litL;rw [List.length_map,List.length_take];omega
   have hsl:(cE values ps).length=ps.length:=by unfold cE;simp
   unfold hS
   try simp only
   rw [if_pos (by omega),ay hi,ay (show i < (cE values ps).length by omega)]
   simp only [obnd]
   have hs:(cE values ps)[i]'(by omega)=tm values (ps[i] - 1):=by unfold cE;simp
   rw [hs,am (by omega),am (by omega),wr (x:=(i:Int)+1) (by omega) (by omega),wr (x:=ps[i] * tm values (ps[i] - 1)) (by rcases ht with h | h <;> rw [h] <;> omega) (by rcases ht with h | h <;> rw [h] <;> omega)]
   congr 3
   unfold litL
   rw [List.take_succ_eq_append_getElem hi,List.map_append];rfl
  ·unfold hS
   try simp only
   rw [if_neg (by omega),List.take_length]
 simp only [Int.natCast_zero,List.take_zero] at key
 rw [show litL values []=[] from rfl] at key
 rw [key];rfl
theorem vS {values ps:List Int}(hv:pmB values=true)(hp:∀ p,p∈ps→1≤p∧p≤3):(cE values ps).length=ps.length∧∀ v,v∈cE values ps→v=1∨v=-1:=by
 refine ⟨by unfold cE;simp,fun v hm=>?_⟩
 unfold cE at hm
 rw [List.mem_map] at hm
 obtain ⟨p,hpm,rfl⟩:=hm
 have:=hp p hpm
 exact Kn hv (by omega) (by omega)
theorem xz (d:GDesk)(ties values:List Int)(refused:Int)(d':GDesk)(hf:FitD d)(ht:ties.length≤1048576)(hvl:values.length≤1048576)(c:Option (List Int))(hmem:∀ nd,c=some nd→nd∈decL d.show_ (endX d.show_ d.state ties))
  (hc:bh d ties values=0→∃ r,gZ d.show_ [] (endX d.show_ d.state ties) d'=some r∧r.2.1=c.isSome∧∀ nd,c=some nd→r.1=nd) :
  bw d ties values refused d'=some (oV d ties values refused c):=by
 have hs:=hf.sh.small
 have hlog:=hf.log
 have hg0:=@pN d ties values
 unfold oV
 unfold bw
 rw [zC d hf]
 simp only [obnd]
 rw [zw d hf]
 simp only
 cases hd:kB d
 ·have e:bh d ties values=1:=by unfold bh;rw [hd];rfl
  rw [e];rfl
 have hx:=kD hd
 have hR:=aU hx
 simp only [if_true]
 by_cases h3:values.length=3
 rotate_left
 ·have e:bh d ties values=1:=by unfold bh pmB;rw [hd,decide_eq_false h3];rfl
  rw [if_neg (by omega),e];rfl
 rw [if_pos (by omega),lU values _ (fun v=>!(decide (v=1) || decide (v=-1))) (by unfold Cnt;omega) (fun v _=>Hn v),Rh h3]
 simp only
 cases hp:pmB values
 ·have e:bh d ties values=1:=by unfold bh;rw [hd,hp];rfl
  rw [e];rfl
 simp only [Bool.not_true,Bool.false_eq_true,if_false]
 rw [uG hs hR]
 simp only
 cases hb:cQ d.show_ d.state
 rotate_left
 ·have e:bh d ties values=2:=by unfold bh;rw [hd,hp,hb];rfl
  rw [e];rfl
 simp only [Bool.false_eq_true,if_false]
 rw [sS hs hR]
 simp only
 cases ho:jI d.show_ d.state
 rotate_left
 ·have e:bh d ties values=2:=by unfold bh;rw [hd,hp,hb,ho];rfl
  rw [e];rfl
 simp only [Bool.false_eq_true,if_false]
 by_cases hh:d.show_.horizon < d.state.now
 ·have e:bh d ties values=2:=by unfold bh;rw [hd,hp,hb,ho,if_pos hh];rfl
  rw [if_pos hh,e];rfl
 rw [if_neg hh,vM hx]
 simp only
 have hel:=sj (x:=d.state) hR.ok
 rw [zX _ _ (by unfold Cnt;omega) (by unfold Cnt;omega)]
 simp only
 by_cases hm:ties∈bp d.show_ d.state
 rotate_left
 ·have e:bh d ties values=3:=by unfold bh;rw [hd,hp,hb,ho,if_neg hh,if_neg hm];rfl
  rw [decide_eq_false hm,e];rfl
 have e:bh d ties values=0:=by unfold bh;rw [hd,hp,hb,ho,if_neg hh,if_pos hm];rfl
 obtain ⟨a1,a2,a3⟩:=jF hR.ok hm
 have hM:=lD hx hm
 have hv3:=(aT hR.val).1
 rw [decide_eq_true hm,if_pos rfl,zZ hx (by omega) (by omega) a3]
 simp only
 unfold nH
 simp only
 obtain ⟨r,e1,e2,e3⟩:=hc e
 rw [e1,e]
 simp only [if_true]
 rw [e2]
 cases c with
 | none=>rfl
 | some nd=>
  have hn:=hmem nd rfl
  obtain ⟨n1,n2,n3⟩:=dd hM.right hn
  have hps:∀ p,p∈aA d.show_ nd→1≤p∧p≤3:=fun p hp=>⟨(bC hp).1,(bC hp).2.1⟩
  have hpl:=ni d.show_ nd
  simp only [Option.isSome_some,if_true]
  rw [e3 nd rfl,vP hM n1 n2 n3]
  simp only
  have key:aq (aZ ties values nd (((aA d.show_ nd).length:Nat):Int) d.show_.horizon d.state.now d.lazy d.state.now d.state.times d.state.values (decX (endX d.show_ d.state ties) nd).now d.show_.nodes d.show_.ties d.state.times d.state.values d.log (decX (endX d.show_ d.state ties) nd).times (decX (endX d.show_ d.state ties) nd).values (aA d.show_ nd)) (((0:Nat):Int),cE values ((aA d.show_ nd).take 0))=some (cE values (aA d.show_ nd)):=by
   refine aH (aA d.show_ nd).length (fun i=>((i:Int),cE values ((aA d.show_ nd).take i))) ?_ ?_
   ·intro i hi
    have hb:=hps _ (List.getElem_mem hi)
    have hsl:(cE values ((aA d.show_ nd).take i)).length≤3:=by unfold cE;rw [List.length_map,List.length_take];omega
    unfold aZ
    try simp only
    rw [if_pos (by omega),ay hi]
    simp only [obnd]
    rw [wr (x:=(aA d.show_ nd)[i] - 1) (by omega) (by omega),bu (by omega) (by omega)]
    simp only
    rw [am (by omega),am (by omega),wr (by omega) (by omega)]
    congr 3
    unfold cE
    rw [List.take_succ_eq_append_getElem hi,List.map_append];rfl
   ·unfold aZ
    try simp only
    rw [if_neg (by omega),List.take_length]
  simp only [Int.natCast_zero,List.take_zero] at key
  rw [show cE values []=[] from rfl] at key
  rw [key]
  simp only
  obtain ⟨s1,s2⟩:=vS hp hps
  have hnow:=hR.now
  have hhor:=hR.right.hor
  have hln:=hM.len
  have h7:=hM.right.nodes
  rw [(mA (decX (endX d.show_ d.state ties) nd) (aA d.show_ nd) (cE values (aA d.show_ nd)) (by show 0≤d.state.now∧d.state.now≤1000;omega) (by show (bb _ _ _ _).length≤_;rw [bX];omega) hv3 hps s1 (by omega)).1]
  simp only
  rw [fm _ ht,fm _ (by omega),Ir hp hps hpl]
  simp only
  rw [am (by omega),am (by omega)]
  rfl
end Go.Proofs.YtghfphjfkdbpjaaGreatY
set_option maxRecDepth 100000
namespace Go.Proofs.YtghfphjfkdbpjaaGreatY
open Go
end Go.Proofs.YtghfphjfkdbpjaaGreatY
set_option maxRecDepth 100000
namespace Go.Proofs.YtghfphjfkdbpjaaGreatY
open Go
noncomputable def ux (d:GDesk)(ties:List Int):Option (List Int):=mP d.lazy (decL d.show_ (endX d.show_ d.state ties)) (bB (win d.show_) d.show_ (endX d.show_ d.state ties))
theorem uy {lazy:Bool}{l:List (List Int)}{p:List Int→Bool}{nd:List Int}(h:mP lazy l p=some nd):nd∈l∧p nd=true:=by
 unfold mP at h
 split at h
 ·exact ⟨by simpa using List.mem_of_find?_eq_some h,List.find?_some h⟩
 ·exact ⟨List.mem_of_find?_eq_some h,List.find?_some h⟩
theorem EX (d:GDesk)(ties values:List Int)(hf:FitD d)(ht:ties.length≤1048576)(hv:values.length≤1048576):kg d ties values=some (oV d ties values 5 (ux d ties)):=by
 have hs:=hf.sh.small
 unfold kg
 rw [xz d ties values 5 d hf ht hv (ux d ties) (fun nd h=>(uy h).1) ?_]
 ·rfl
 ·intro h0
  obtain ⟨g1,_,g3,_⟩:=pN h0
  have hM:=lD (kD g1) g3
  have hl:=rC hM.right (endX d.show_ d.state ties)
  unfold gZ ux
  cases hz:d.lazy
  ·simp only [Bool.false_eq_true,if_false]
   obtain ⟨k',_,e⟩:=Cc hs (y:=endX d.show_ d.state ties) (Jb hs _ (by have:=hM.now;omega)) hM (Em d.show_)
   unfold nU
   rw [e]
   simp only [obnd]
   refine ⟨_,rfl,?_⟩
   unfold mP
   simp only [Bool.false_eq_true,if_false]
   cases (decL d.show_ (endX d.show_ d.state ties)).find? (bB (win d.show_) d.show_ (endX d.show_ d.state ties)) with
   | none=>exact ⟨rfl,fun nd h=>by cases h⟩
   | some nd=>exact ⟨rfl,fun nd' h=>by cases h;rfl⟩
  ·simp only [if_true]
   obtain ⟨k',_,e⟩:=MK hs hM (Em d.show_)
   rw [e]
   simp only [obnd]
   rw [ML _ _ _ hl]
   simp only
   refine ⟨_,rfl,?_⟩
   cases mP true (decL d.show_ (endX d.show_ d.state ties)) (bB (win d.show_) d.show_ (endX d.show_ d.state ties)) with
   | none=>exact ⟨rfl,fun nd h=>by cases h⟩
   | some nd=>exact ⟨rfl,fun nd' h=>by cases h;rfl⟩
theorem yD {s:GShow}{x:GState}(hs:aM s)(hx:aD s x=true)(ties:List Int)(ht:ties.length≤1048576):cJ s x ties=some (if ties∈bp s x then (endX s x ties,true) else (lB,false)):=by
 have hR:=aU hx
 have hv3:=(aT hR.val).1
 have hln:=hR.len
 have h7:=hR.right.nodes
 have hel:=sj (x:=x) hR.ok
 unfold cJ
 rw [xt hs hx (by omega) (by omega)]
 simp only [obnd]
 rw [zY _ _ (by unfold Cnt;omega) (fun l hl=>by have:=(jF hR.ok hl).2.1;unfold Cnt;omega)]
 simp only
 by_cases hm:ties∈bp s x
 ·obtain ⟨a1,a2,a3⟩:=jF hR.ok hm
  rw [decide_eq_true hm,if_pos rfl,if_pos hm,xu hx (by omega) (by omega) a3]
 ·rw [decide_eq_false hm,if_neg (by simp),if_neg hm];rfl
theorem Is (d:GDesk)(ties values:List Int)(hf:FitD d)(ht:ties.length≤1048576)(hvl:values.length≤1048576):kk d ties values=some (if bh d ties values=0 then (endX d.show_ d.state ties,0) else (lB,bh d ties values)):=by
 have hs:=hf.sh.small
 unfold kk
 rw [zx d hf]
 simp only [obnd]
 cases hd:kB d
 ·have e:bh d ties values=1:=by unfold bh;rw [hd];rfl
  rw [e];rfl
 have hx:=kD hd
 have hR:=aU hx
 simp only [if_true]
 by_cases h3:values.length=3
 rotate_left
 ·have e:bh d ties values=1:=by unfold bh pmB;rw [hd,decide_eq_false h3];rfl
  rw [if_neg (by omega),e];rfl
 rw [if_pos (by omega)]
 have key:=gK (body:=eG ties values ((values.length:Nat):Int) d.show_.nodes d.show_.ties d.show_.horizon d.state.now d.state.times d.state.values d.lazy d.log) values (fun v=>decide (v=1) || decide (v=-1)) (fun i=>(i:Int)) (rT:=.inl ()) (rF:=.inr (GState.mk 0 [] [],1)) ?_ ?_ ?_
 ·rw [show ((0:Nat):Int)=0 from rfl] at key
  rw [key]
  simp only
  cases hp:pmB values
  ·have e:bh d ties values=1:=by unfold bh;rw [hd,hp];rfl
   have hall:values.all (fun v=>decide (v=1) || decide (v=-1))=false:=by unfold pmB at hp;rwa [decide_eq_true h3,Bool.true_and] at hp
   rw [hall,e];rfl
  have hall:values.all (fun v=>decide (v=1) || decide (v=-1))=true:=by unfold pmB at hp;rwa [decide_eq_true h3,Bool.true_and] at hp
  rw [hall]
  simp only [if_true]
  rw [tK hs hR]
  simp only
  cases hb:cQ d.show_ d.state
  rotate_left
  ·have e:bh d ties values=2:=by unfold bh;rw [hd,hp,hb];rfl
   rw [e];rfl
  simp only [Bool.false_eq_true,if_false]
  rw [vR hs hR]
  simp only
  cases ho:jI d.show_ d.state
  rotate_left
  ·have e:bh d ties values=2:=by unfold bh;rw [hd,hp,hb,ho];rfl
   rw [e];rfl
  simp only [Bool.false_eq_true,if_false]
  by_cases hh:d.show_.horizon < d.state.now
  ·have e:bh d ties values=2:=by unfold bh;rw [hd,hp,hb,ho,if_pos hh];rfl
   rw [if_pos hh,e];rfl
  rw [if_neg hh,yD hs hx ties ht]
  simp only
  by_cases hm:ties∈bp d.show_ d.state
  ·have e:bh d ties values=0:=by unfold bh;rw [hd,hp,hb,ho,if_neg hh,if_pos hm];rfl
   rw [if_pos hm,e];rfl
  ·have e:bh d ties values=3:=by unfold bh;rw [hd,hp,hb,ho,if_neg hh,if_neg hm];rfl
   rw [if_neg hm,e];rfl
 ·intro i hi hq
  unfold eG
  try simp only
  rw [if_pos (by omega),ay hi]
  simp only [obnd]
  rw [wr (by omega) (by omega)]
  by_cases h1:values[i]=1
  ·rw [if_pos h1];rfl
  ·rw [if_neg h1,if_pos (by simpa [h1] using hq)];rfl
 ·intro i hi hq
  unfold eG
  try simp only
  rw [if_pos (by omega),ay hi]
  simp only [obnd]
  rw [Bool.or_eq_false_iff,decide_eq_false_iff_not,decide_eq_false_iff_not] at hq
  rw [if_neg hq.1,if_neg hq.2]
 ·unfold eG
  try simp only
  rw [if_neg (by omega)]
theorem Ho (d:GDesk)(ties values nd:List Int)(hf:FitD d)(ht:ties.length≤1048576)(h0:bh d ties values=0)(hn:nd∈decL d.show_ (endX d.show_ d.state ties)) :
  jy d ties (endX d.show_ d.state ties) nd values=some (finD d ties values nd):=by
 have hs:=hf.sh.small
 have hlog:=hf.log
 obtain ⟨g1,hp,g3,_⟩:=pN h0
 have hx:=kD g1
 have hR:=aU hx
 have hM:=lD hx g3
 have hv3:=(aT hR.val).1
 obtain ⟨p3,_⟩:=Hm hp
 obtain ⟨n1,n2,n3⟩:=dd hM.right hn
 have hps:∀ p,p∈aA d.show_ nd→1≤p∧p≤3:=fun p hp=>⟨(bC hp).1,(bC hp).2.1⟩
 have hpl:=ni d.show_ nd
 unfold jy
 rw [sU d hf]
 simp only [obnd]
 rw [tJ hs hM n2 n3]
 simp only
 have key:aq (gi ties nd values (((aA d.show_ nd).length:Nat):Int) (endX d.show_ d.state ties).now (endX d.show_ d.state ties).times (endX d.show_ d.state ties).values d.show_.horizon d.state.now d.lazy (decX (endX d.show_ d.state ties) nd).now d.show_.nodes d.show_.ties d.state.times d.state.values d.log (decX (endX d.show_ d.state ties) nd).times (decX (endX d.show_ d.state ties) nd).values (aA d.show_ nd)) (((0:Nat):Int),cE values ((aA d.show_ nd).take 0),litL values ((aA d.show_ nd).take 0))=some (cE values (aA d.show_ nd),litL values (aA d.show_ nd)):=by
  refine aH (aA d.show_ nd).length (fun i=>((i:Int),cE values ((aA d.show_ nd).take i),litL values ((aA d.show_ nd).take i))) ?_ ?_
  ·intro i hi
   have hb:=hps _ (List.getElem_mem hi)
   have htm:=Kn hp (k:=(aA d.show_ nd)[i] - 1) (by omega) (by omega)
   have hsl:(cE values ((aA d.show_ nd).take i)).length≤3:=by unfold cE;rw [List.length_map,List.length_take];omega
   have hll:(litL values ((aA d.show_ nd).take i)).length≤3:=by unfold litL;rw [List.length_map,List.length_take];omega
   unfold gi
   try simp only
   rw [if_pos (by omega),ay hi]
   simp only [obnd]
   rw [wr (x:=(aA d.show_ nd)[i] - 1) (by omega) (by omega),bu (by omega) (by omega)]
   simp only
   rw [am (by omega),am (by omega),am (by omega),am (by omega),wr (x:=(i:Int)+1) (by omega) (by omega),wr (x:=(aA d.show_ nd)[i] * tm values ((aA d.show_ nd)[i] - 1)) (by rcases htm with h | h <;> rw [h] <;> omega) (by rcases htm with h | h <;> rw [h] <;> omega)]
   have e1:cE values ((aA d.show_ nd).take (i+1))=cE values ((aA d.show_ nd).take i) ++ [tm values ((aA d.show_ nd)[i] - 1)]:=by
    unfold cE;rw [List.take_succ_eq_append_getElem hi,List.map_append];rfl
   have e2:litL values ((aA d.show_ nd).take (i+1))=litL values ((aA d.show_ nd).take i) ++ [(aA d.show_ nd)[i] * tm values ((aA d.show_ nd)[i] - 1)]:=by
    unfold litL;rw [List.take_succ_eq_append_getElem hi,List.map_append];rfl
   rw [e1,e2];rfl
  ·unfold gi
   try simp only
   rw [if_neg (by omega),List.take_length]
 simp only [Int.natCast_zero,List.take_zero] at key
 rw [show cE values []=[] from rfl,show litL values []=[] from rfl] at key
 rw [key]
 simp only
 obtain ⟨s1,s2⟩:=vS hp hps
 have hnow:=hR.now
 have hhor:=hR.right.hor
 have hln:=hM.len
 have h7:=hM.right.nodes
 rw [am (by omega),am (by omega),am (by omega),am (by omega),am (by omega),am (by omega),(mA (decX (endX d.show_ d.state ties) nd) (aA d.show_ nd) (cE values (aA d.show_ nd)) (by show 0≤d.state.now∧d.state.now≤1000;omega) (by show (bb _ _ _ _).length≤_;rw [bX];omega) hv3 hps s1 (by omega)).2]
 rfl
theorem Hq (d:GDesk)(y:GState)(without:Int)(hf:FitD d)(hM:MomR d.show_ y):jx d y without=some (match mP d.lazy (decL d.show_ y) (fun nd=>!decide (without∈nd) && bB (win d.show_) d.show_ y nd) with | some nd=>(nd,true) | none=>([],false)):=by
 have hs:=hf.sh.small
 have hl:=rC hM.right y
 unfold jx
 rw [vl hs hM]
 simp only [obnd]
 have hlen:∀ {nd},nd∈decL d.show_ y→nd.length≤7:=fun h=>(dd hM.right h).2.1
 have e0:mP d.lazy (decL d.show_ y) (fun nd=>!decide (without∈nd) && bB (win d.show_) d.show_ y nd)=(if d.lazy=true then (decL d.show_ y).reverse else decL d.show_ y).find? (fun nd=>!decide (without∈nd) && bB (win d.show_) d.show_ y nd):=by
  unfold mP;split <;> rfl
 rw [e0]
 generalize hpd:(fun nd=>!decide (without∈nd) && bB (win d.show_) d.show_ y nd)=p
 have hp0:∀ nd,p nd=(!decide (without∈nd) && bB (win d.show_) d.show_ y nd):=fun nd=>by rw [← hpd]
 clear hpd
 generalize hL:(if d.lazy=true then (decL d.show_ y).reverse else decL d.show_ y)=L
 have hel:L.length=(decL d.show_ y).length:=by rw [← hL];split <;> simp
 have g1:d.lazy=false→∀ i (hi:i < L.length),L[i]=(decL d.show_ y)[i]'(by omega):=by
  intro hz i hi
  subst hL
  simp [hz]
 have g2:d.lazy=true→∀ i (hi:i < L.length),L[i]=(decL d.show_ y)[(decL d.show_ y).length - 1 - i]'(by omega):=by
  intro hz i hi
  subst hL
  simp [hz]
 clear hL
 have step:∀ i (hi:i < L.length),dN without (((decL d.show_ y).length:Nat):Int) d.show_.nodes d.show_.ties d.show_.horizon d.state.now d.state.times d.state.values d.lazy d.log y.now y.times y.values (decL d.show_ y) (i:Int)=(if p L[i]=true then some (.done (.inr (L[i],true))) else some (.next ((i:Int)+1))):=by
  intro i hi
  rw [hel] at hi
  unfold dN
  try simp only
  rw [if_pos (by omega),ay hi]
  simp only [obnd]
  rw [wr (x:=(i:Int)+1) (by omega) (by omega)]
  cases hz:d.lazy
  ·simp only [Bool.false_eq_true,if_false]
   rw [g1 hz i (by omega),hp0]
   have hmem:=List.getElem_mem hi
   have h7:=hlen hmem
   rw [nk _ _ (by unfold Cnt;omega)]
   simp only
   by_cases hw:without∈(decL d.show_ y)[i]
   ·rw [decide_eq_true hw];rfl
   ·rw [decide_eq_false hw]
    simp only [Bool.false_eq_true,if_false,Bool.not_false,Bool.true_and]
    rw [show (GShow.mk d.show_.nodes d.show_.ties d.show_.horizon)=d.show_ from rfl,show (GState.mk y.now y.times y.values)=y from rfl,Cd hs hM hmem]
    simp only
    rw [am (by omega),am (by omega)]
  ·simp only [if_true]
   have hj:(decL d.show_ y).length - 1 - i < (decL d.show_ y).length:=by omega
   rw [wr (x:=(((decL d.show_ y).length:Nat):Int) - 1) (by omega) (by omega),wr (by omega) (by omega),show (((decL d.show_ y).length:Nat):Int) - 1 - (i:Int)=(((decL d.show_ y).length - 1 - i:Nat):Int) by omega,ay hj]
   simp only
   rw [g2 hz i (by omega),hp0]
   have hmem:=List.getElem_mem hj
   have h7:=hlen hmem
   rw [nk _ _ (by unfold Cnt;omega)]
   simp only
   by_cases hw:without∈(decL d.show_ y)[(decL d.show_ y).length - 1 - i]
   ·rw [decide_eq_true hw];rfl
   ·rw [decide_eq_false hw]
    simp only [Bool.false_eq_true,if_false,Bool.not_false,Bool.true_and]
    rw [show (GShow.mk d.show_.nodes d.show_.ties d.show_.horizon)=d.show_ from rfl,show (GState.mk y.now y.times y.values)=y from rfl,Cd hs hM hmem]
    simp only
    rw [am (by omega),am (by omega)]
 have key:=cT (body:=dN without (((decL d.show_ y).length:Nat):Int) d.show_.nodes d.show_.ties d.show_.horizon d.state.now d.state.times d.state.values d.lazy d.log y.now y.times y.values (decL d.show_ y)) (s0:=(0:Int)) L.length
  (fun (i:Nat) (st:Int)=>st=(i:Int)∧∀ j (hj:j < L.length),j < i→p L[j]=false)
  (fun r=>r=(match L.find? p with | some nd=>.inr (nd,true) | none=>.inl ())) ⟨rfl,fun j _ h=>absurd h (by omega)⟩ ?_ ?_
 ·obtain ⟨r,hr,hp1⟩:=key
  rw [hr,hp1]
  cases L.find? p <;> rfl
 ·rintro i a hi ⟨rfl,hall⟩
  rw [step i hi]
  cases hq:p L[i]
  ·left
   refine ⟨_,if_neg (by simp),rfl,fun j hj hlt=>?_⟩
   rcases Nat.lt_or_ge j i with h | h
   ·exact hall j hj h
   ·obtain rfl:j=i:=by omega
    exact hq
  ·right
   refine ⟨_,if_pos rfl,?_⟩
   have:L.find? p=some L[i]:=by
    rw [List.find?_eq_some_iff_getElem]
    exact ⟨hq,i,hi,rfl,fun j hj=>by have h:=hall j (by omega) hj;show (!_)=true;rw [h];rfl⟩
   rw [this]
 ·rintro a ⟨rfl,hall⟩
  refine ⟨.inl (),?_,?_⟩
  ·unfold dN
   try simp only
   rw [if_neg (by rw [hel];omega)]
  ·have:L.find? p=none:=by
    rw [List.find?_eq_none]
    intro x hx
    obtain ⟨j,hj,rfl⟩:=List.getElem_of_mem hx
    have h:=hall j hj hj
    rw [h];simp
   rw [this]
theorem It {lazy:Bool}{l:List (List Int)}{p q:List Int→Bool}(h:∀ nd,nd∈l→p nd=q nd):mP lazy l p=mP lazy l q:=by
 have key:∀ l:List (List Int),(∀ nd,nd∈l→p nd=q nd)→l.find? p=l.find? q:=by
  intro l
  induction l with
  | nil=>intro _;rfl
  | cons a l ih=>
   intro h
   simp only [List.find?_cons]
   rw [h a (by simp),ih (fun nd hn=>h nd (by simp [hn]))]
 unfold mP
 rw [key l h,key l.reverse (fun nd hn=>h nd (by simpa using hn))]
theorem EY (d:GDesk)(ties values:List Int)(hf:FitD d)(ht:ties.length≤1048576)(hv:values.length≤1048576):kq d ties values=some (oV d ties values 5 (ux d ties)):=by
 unfold kq oV
 rw [Is d ties values hf ht hv]
 simp only [obnd]
 by_cases h0:bh d ties values=0
 ·obtain ⟨g1,_,g3,_⟩:=pN h0
  have hM:=lD (kD g1) g3
  rw [if_pos h0,if_pos h0]
  simp only [if_true]
  rw [Hq d _ _ hf hM]
  have hc:mP d.lazy (decL d.show_ (endX d.show_ d.state ties)) (fun nd=>!decide ((-1:Int)∈nd) && bB (win d.show_) d.show_ (endX d.show_ d.state ties) nd)=ux d ties:=by
   refine It ?_
   intro nd hnd
   have:¬ (-1:Int)∈nd:=by
    intro hm
    obtain ⟨i,_,e,_⟩:=nK ((dd hM.right hnd).2.2 _ hm)
    omega
   rw [decide_eq_false this];rfl
  rw [hc]
  cases hpk:ux d ties with
  | none=>
   simp only [Bool.false_eq_true,if_false]
   rw [sU d hf]
  | some nd=>
   simp only [if_true]
   rw [Ho d ties values nd hf ht h0 (uy hpk).1]
 ·rw [if_neg h0,if_neg h0]
  simp only
  rw [if_neg h0,sU d hf]
theorem Lw (d:GDesk)(ties values:List Int)(refused:Int)(c:Option (List Int))(hf:FitD d)(ht:ties.length≤1048576)(hc:bh d ties values=0→∀ nd,c=some nd→nd∈decL d.show_ (endX d.show_ d.state ties)) :
  FitD (oV d ties values refused c).1∧(oV d ties values refused c).2.1.length≤7:=by
 unfold oV
 by_cases h0:bh d ties values=0
 ·rw [if_pos h0]
  cases c with
  | none=>exact ⟨hf,by simp⟩
  | some nd=>
   obtain ⟨g1,hp,g3,_⟩:=pN h0
   have hx:=kD g1
   have hR:=aU hx
   have hM:=lD hx g3
   have hnd:=hc h0 nd rfl
   obtain ⟨n1,n2,n3⟩:=dd hM.right hnd
   have hlog:(d.log.length:Int)=d.state.now:=by
    unfold kB at g1
    simp only [Bool.and_eq_true,decide_eq_true_eq] at g1
    exact g1.1.1.2
   have hnow:=hR.now
   have hhor:=hR.right.hor
   have hln:=hM.len
   have h7:=hM.right.nodes
   have hv3:=(aT hR.val).1
   have hpl:=ni d.show_ nd
   refine ⟨⟨hf.sh,⟨?_,?_⟩,?_,?_⟩,n2⟩
   ·show (bb _ _ _ _).length≤_
    rw [bX];omega
   ·show (setV _ _ _ _).length≤_
    rw [pd]
    show d.state.values.length≤_
    omega
   ·show (d.log ++ [_]).length≤_
    rw [List.length_append];simp;omega
   ·intro e he
    have he':e∈d.log ++ [⟨d.state.now,ties,nd,litL values (aA d.show_ nd)⟩]:=he
    rw [List.mem_append,List.mem_singleton] at he'
    rcases he' with he' | rfl
    ·exact hf.entry e he'
    ·exact ⟨ht,by show nd.length≤_;omega,by show (litL _ _).length≤_;unfold litL;rw [List.length_map];omega⟩
 ·rw [if_neg h0]
  exact ⟨hf,by simp⟩
end Go.Proofs.YtghfphjfkdbpjaaGreatY
set_option maxRecDepth 100000
namespace Go.Proofs.YtghfphjfkdbpjaaGreatY
open Go
theorem Iu (a:List Int)(h:a.length≤1048576):cC a a=some true:=by
 rw [uA a a (by unfold Cnt;omega),decide_eq_true rfl]
end Go.Proofs.YtghfphjfkdbpjaaGreatY
set_option maxRecDepth 100000
set_option maxHeartbeats 1000000
namespace Go.Proofs.YtghfphjfkdbpjaaGreatY
open Go
noncomputable def bM (c:GChoice)(d:GDesk):GDesk × List Int × Int:=oV d (endL d.show_ d.state c) c.values 5 (ux d (endL d.show_ d.state c))
noncomputable def runF (c:GChoice):Nat→GDesk→GDesk × Int
 | 0,d=>(d,0)
 | n+1,d=>if (bM c d).2.2=0 then runF c n (bM c d).1 else (d,(bM c d).2.2)
noncomputable def runR (d:GDesk)(c:GChoice):GDesk × Int:=if kB d=true then (if cA d.show_ c=true then runF c 13 d else (d,1)) else (d,1)
def tupD (d:GDesk):Int × Int × Bool × (List GNode) × (List GTie) × (List Int) × (List Int) × (List GEntry):=(d.show_.horizon,d.state.now,d.lazy,d.show_.nodes,d.show_.ties,d.state.times,d.state.values,d.log)
theorem ww {s:GShow}{c:GChoice}(h:cA s c=true):c.values.length=3:=by
 unfold cA at h
 simp only [Bool.and_eq_true,decide_eq_true_eq] at h
 exact h.1.1.2
theorem Ko {d:GDesk}{ties values:List Int}{c:Option (List Int)}(h:(oV d ties values 5 c).2.2=0):bh d ties values=0∧∃ nd,c=some nd∧oV d ties values 5 c=(finD d ties values nd,nd,0):=by
 unfold oV at h ⊢
 by_cases h0:bh d ties values=0
 ·rw [if_pos h0] at h ⊢
  cases c with
  | none=>exact absurd h (by simp)
  | some nd=>exact ⟨h0,nd,rfl,rfl⟩
 ·rw [if_neg h0] at h
  exact absurd h h0
theorem Ri {d:GDesk}{ties values nd:List Int}(h0:bh d ties values=0)(hn:nd∈decL d.show_ (endX d.show_ d.state ties)):aD d.show_ (finD d ties values nd).state=true:=by
 obtain ⟨g1,hp,g3,_⟩:=pN h0
 have hM:=lD (kD g1) g3
 obtain ⟨_,_,hm⟩:=dd hM.right hn
 obtain ⟨s1,s2⟩:=vS (values:=values) (ps:=aA d.show_ nd) hp (fun p h=>⟨(bC h).1,(bC h).2.1⟩)
 exact vn hM hm s1 s2
theorem Hr {c:GChoice}{d:GDesk}(hf:FitD d)(h:(bM c d).2.2=0) :
  FitD (bM c d).1∧(bM c d).1.show_=d.show_∧aD d.show_ (bM c d).1.state=true∧(bM c d).1.state.now=d.state.now+1:=by
 unfold bM at h ⊢
 obtain ⟨h0,nd,hc,he⟩:=Ko h
 have hl:=zV d.show_ d.state c hf.sh.ties
 have hnd:nd∈decL d.show_ (endX d.show_ d.state (endL d.show_ d.state c)):=(uy hc).1
 have hfit:=(Lw d (endL d.show_ d.state c) c.values 5 (ux d (endL d.show_ d.state c)) hf hl (fun _ nd h=>(uy h).1)).1
 rw [he] at hfit ⊢
 exact ⟨hfit,rfl,Ri h0 hnd,rfl⟩
theorem Jc (c:GChoice)(body:(Int × Int × Bool × (List GNode) × (List GTie) × (List Int) × (List Int) × (List GEntry))→Option (Step (Int × Int × Bool × (List GNode) × (List GTie) × (List Int) × (List Int) × (List GEntry)) (GDesk × Int)))
  (hb:∀ d,FitD d→aD d.show_ d.state=true→cA d.show_ c=true→body (tupD d)=some (if (bM c d).2.2=0 then .next (tupD (bM c d).1) else .done (d,(bM c d).2.2))) :
  ∀ (n:Nat) (d:GDesk),FitD d→aD d.show_ d.state=true→cA d.show_ c=true→12 < (n:Int)+d.state.now→aq body (tupD d)=some (runF c n d):=by
 intro n
 induction n with
 | zero=>
  intro d hf hx hc h
  have:=(aU hx).now
  have:=(aU hx).right.hor
  omega
 | succ n ih=>
  intro d hf hx hc h
  rw [aP,hb d hf hx hc]
  show _=some (if (bM c d).2.2=0 then runF c n (bM c d).1 else (d,(bM c d).2.2))
  by_cases h0:(bM c d).2.2=0
  ·obtain ⟨f1,f2,f3,f4⟩:=Hr hf h0
   rw [if_pos h0,if_pos h0]
   exact ih _ f1 (by rw [f2];exact f3) (by rw [f2];exact hc) (by rw [f4];omega)
  ·rw [if_neg h0,if_neg h0]
theorem Hs (d:GDesk)(c:GChoice)(hf:FitD d):lq d c=some (runR d c):=by
 unfold lq runR
 rw [zC d hf]
 simp only [obnd]
 rw [zw d hf]
 simp only
 cases hD:kB d
 ·rw [if_neg (by simp),if_neg (by simp)]
 ·have hx:=kD hD
  rw [if_pos rfl,if_pos rfl,uF d.show_ c hf.sh.small (aU hx).right hf.sh.ties]
  simp only
  cases hC:cA d.show_ c
  ·rw [if_neg (by simp),if_neg (by simp)]
  ·rw [if_pos rfl,if_pos rfl]
   have hn:=(aU hx).now
   have key:=Jc c (kR c.lengths c.values) (by
    intro d hf hx hc
    have hl:=zV d.show_ d.state c hf.sh.ties
    have hv:=ww hc
    unfold kR tupD
    simp only
    rw [show (GShow.mk d.show_.nodes d.show_.ties d.show_.horizon)=d.show_ from rfl,show (GState.mk d.state.now d.state.times d.state.values)=d.state from rfl,show (GChoice.mk c.lengths c.values)=c from rfl,show (GDesk.mk d.show_ d.state d.lazy d.log)=d from rfl]
    rw [Dk d.show_ d.state c hf.sh hf.st]
    simp only [obnd]
    rw [EX d _ c.values hf hl (by omega)]
    simp only
    show (if (bM c d).2.2=0 then _ else _)=_
    by_cases h0:(bM c d).2.2=0
    ·rw [if_pos h0,if_pos h0];rfl
    ·rw [if_neg h0,if_neg h0];rfl) 13 d hf hx hC (by omega)
   unfold tupD at key
   rw [key]
theorem Ht (d:GDesk)(c:GChoice)(hf:FitD d):lx d c=some (runR d c):=by
 unfold lx runR
 rw [sU d hf]
 simp only [obnd]
 rw [zx d hf]
 simp only
 cases hD:kB d
 ·rw [if_neg (by simp),if_neg (by simp)]
 ·have hx:=kD hD
  have hShow:aQ d.show_=true:=by
   have h2:=hx
   unfold aD at h2
   simp only [Bool.and_eq_true] at h2
   exact h2.1.1.1.1.1
  rw [if_pos rfl,if_pos rfl,wn d.show_ c hf.sh.small hShow hf.sh.ties]
  simp only
  cases hC:cA d.show_ c
  ·rw [if_neg (by simp),if_neg (by simp)]
  ·rw [if_pos rfl,if_pos rfl]
   have hn:=(aU hx).now
   have key:=Jc c (kS c.lengths c.values) (by
    intro d hf hx hc
    have hl:=zV d.show_ d.state c hf.sh.ties
    have hv:=ww hc
    unfold kS tupD
    simp only
    rw [show (GShow.mk d.show_.nodes d.show_.ties d.show_.horizon)=d.show_ from rfl,show (GState.mk d.state.now d.state.times d.state.values)=d.state from rfl,show (GChoice.mk c.lengths c.values)=c from rfl,show (GDesk.mk d.show_ d.state d.lazy d.log)=d from rfl]
    rw [GS d.show_ d.state c hf.sh hf.st hx hc]
    simp only [obnd]
    rw [EY d _ c.values hf hl (by omega)]
    simp only
    show (if (bM c d).2.2=0 then _ else _)=_
    by_cases h0:(bM c d).2.2=0
    ·rw [if_pos h0,if_pos h0];rfl
    ·rw [if_neg h0,if_neg h0];rfl) 13 d hf hx hC (by omega)
   unfold tupD at key
   rw [key]
theorem Hu (c:GChoice):∀ (n:Nat) (d:GDesk),FitD d→FitD (runF c n d).1∧(runF c n d).1.show_=d.show_
 | 0,d,hf=>⟨hf,rfl⟩
 | n+1,d,hf=>by
  show FitD (if (bM c d).2.2=0 then runF c n (bM c d).1 else (d,(bM c d).2.2)).1∧(if (bM c d).2.2=0 then runF c n (bM c d).1 else (d,(bM c d).2.2)).1.show_=d.show_
  by_cases h0:(bM c d).2.2=0
  ·obtain ⟨f1,f2,f3,f4⟩:=Hr hf h0
   rw [if_pos h0]
   obtain ⟨g1,g2⟩:=Hu c n _ f1
   exact ⟨g1,by rw [g2,f2]⟩
  ·rw [if_neg h0]
   exact ⟨hf,rfl⟩
theorem Ab (d:GDesk)(c:GChoice)(hf:FitD d):FitD (runR d c).1∧(runR d c).1.show_=d.show_:=by
 unfold runR
 split
 ·split
  ·exact Hu c 13 d hf
  ·exact ⟨hf,rfl⟩
 ·exact ⟨hf,rfl⟩
end Go.Proofs.YtghfphjfkdbpjaaGreatY
set_option maxRecDepth 100000
set_option maxHeartbeats 1000000
namespace Go.Proofs.YtghfphjfkdbpjaaGreatY
open Go
def vT (s:GShow)(x:GState):Bool:=if aD s x=true then (if cQ s x=true then false else jI s x) else false
theorem Iv (s:GShow)(x:GState)(hs:aM s)(fx:FitX x):mi s x=some (vT s x):=by
 unfold mi vT
 rw [tD s x hs fx.times fx.values]
 simp only [obnd]
 cases hx:aD s x
 ·rw [if_neg (by simp),if_neg (by simp)]
 ·rw [if_pos rfl,if_pos rfl,uG hs (aU hx)]
  simp only
  cases hb:cQ s x
  ·rw [if_neg (by simp),if_neg (by simp),sS hs (aU hx)]
  ·rw [if_pos rfl,if_pos rfl]
theorem Iw (s:GShow)(x:GState)(hs:aM s)(fx:FitX x):mr s x=some (vT s x):=by
 unfold mr vT
 rw [qM s x hs fx.times fx.values]
 simp only [obnd]
 cases hx:aD s x
 ·rw [if_neg (by simp),if_neg (by simp)]
 ·rw [if_pos rfl,if_pos rfl,tK hs (aU hx)]
  simp only
  cases hb:cQ s x
  ·rw [if_neg (by simp),if_neg (by simp),vR hs (aU hx)]
  ·rw [if_pos rfl,if_pos rfl]
noncomputable def vU (s:GShow)(c:GChoice)(z:Bool):List Int × Bool:=
 if aQ s=true then (if cA s c=true then (if vT s (runR (ky s z).1 c).1.state=true then ((runR (ky s z).1 c).1.state.times,true) else ([],false)) else ([],false)) else ([],false)
theorem Hv {s:GShow}(z:Bool)(h:aQ s=true):(ky s z).2=true:=by
 unfold ky;rw [if_pos h]
theorem Hw {s:GShow}(z:Bool)(h:¬ aQ s=true):(ky s z).2=false:=by
 unfold ky;rw [if_neg h]
theorem Hx (s:GShow)(c:GChoice)(z:Bool)(hf:FitS s):jg s c z=some (vU s c z):=by
 unfold jg vU
 rw [GN s z hf]
 simp only [obnd]
 by_cases hA:aQ s=true
 ·rw [Hv z hA,if_pos rfl,if_pos hA,uF s c hf.small (cD hA) hf.ties]
  simp only
  cases hC:cA s c
  ·rw [if_neg (by simp),if_neg (by simp)]
  ·have hd:=xo s z hf
   have fr:=(Ab (ky s z).1 c hd).1
   rw [if_pos rfl,if_pos rfl,Hs _ c hd]
   simp only
   rw [Iv s _ hf.small fr.st]
   simp only
   cases vT s (runR (ky s z).1 c).1.state
   ·rw [if_neg (by simp),if_neg (by simp)]
   ·rw [if_pos rfl,if_pos rfl,fm _ fr.st.times]
 ·rw [Hw z hA,if_neg (by simp),if_neg hA]
theorem Hy (s:GShow)(c:GChoice)(z:Bool)(hf:FitS s):ly s c z=some (vU s c z):=by
 unfold ly vU
 rw [GO s z hf]
 simp only [obnd]
 by_cases hA:aQ s=true
 ·rw [Hv z hA,if_pos rfl,if_pos hA,wn s c hf.small hA hf.ties]
  simp only
  cases hC:cA s c
  ·rw [if_neg (by simp),if_neg (by simp)]
  ·have hd:=xo s z hf
   have fr:=(Ab (ky s z).1 c hd).1
   have ft:=fr.st.times
   rw [if_pos rfl,if_pos rfl,Ht _ c hd]
   simp only
   rw [Iw s _ hf.small fr.st]
   simp only
   cases vT s (runR (ky s z).1 c).1.state
   ·rw [if_neg (by simp),if_neg (by simp)]
   ·rw [if_pos rfl,if_pos rfl,am (by omega),am (by omega)]
 ·rw [Hw z hA,if_neg (by simp),if_neg hA]
theorem Lx (s:GShow)(c:GChoice)(z:Bool)(hf:FitS s):(vU s c z).1.length≤1048576:=by
 unfold vU
 have fr:=(Ab (ky s z).1 c (xo s z hf)).1.st.times
 split
 ·split
  ·split
   ·exact fr
   ·simp
  ·simp
 ·simp
theorem Ix (s:GShow)(c:GChoice)(z:Bool)(hb:BdS s)(hc:BdC c):ir s c z=some true:=by
 unfold ir
 obtain ⟨r,hr,hp⟩:=Ii hb
 rw [hr]
 simp only [obnd]
 rcases hp with hp | ⟨hf,h0,h1⟩
 ·rw [if_pos hp]
 obtain ⟨r2,e2,h2⟩:=Ik (l:=r) (by omega) (by omega) hc
 rw [if_neg (by omega),e2];simp only
 rcases h2 with h2 | ⟨h2,h2',fc⟩
 ·rw [if_pos h2]
 rw [if_neg (by omega),LC s hf];simp only
 rw [Ij c fc];simp only
 rw [Hy s c z hf];simp only
 rw [Hx s c z hf];simp only
 have hl:=Lx s c z hf
 generalize vU s c z=p at hl ⊢
 obtain ⟨g,b⟩:=p
 simp only at hl ⊢
 rw [Iu g hl];simp only [if_true]
 rw [IG s hf];simp only [if_true]
 rw [ET c fc];simp only [if_true]
 obtain ⟨q,hq,hq1,hq2⟩:=JZ s 1 hf (by omega) (by omega)
 rw [hq];simp only
 obtain ⟨q1,m3,m4⟩:=EU c q.1 fc (by omega) (by omega)
 rw [m3];simp only
 rw [if_neg (by omega),rP g 1 hl (by omega) (by omega)]
 simp only
 rw [am (by rw [Ch];omega),MO,IH 1 _ hl (by omega) (by omega)]
 simp only
 rw [if_neg (by omega)]
 simp only [if_true]
 rw [if_neg (by omega)]
end Go.Proofs.YtghfphjfkdbpjaaGreatY
