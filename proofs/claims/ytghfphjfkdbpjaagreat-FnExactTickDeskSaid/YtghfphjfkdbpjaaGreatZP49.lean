/- The reference's game reckons winning too. Own work. -/
import Derived.Test.YtghfphjfkdbpjaaGreatZP33
set_option linter.all false
set_option maxRecDepth 100000
namespace Go.Proofs.YtghfphjfkdbpjaaGreatZ
open Go
abbrev RecS:=GShow→GState→Option Bool
def wJ (s:GShow)(t:Int)(rec:RecS):Prop:=∀ x,aI s x=true→x.now=t→rec s x=some (win s x)
theorem wK {s:GShow}(hs:aP s){rec:RecS}{y:GState}(hr:wJ s (y.now+1) rec)(h:MomR s y){nodes:List Int}(hn:nodes∈decL s y):gv rec s y nodes=some (bz (win s) s y nodes):=by
 obtain ⟨ha,hl7,hm⟩:=dL h.right hn
 have hv:=(aS h.val).1
 have h7:=h.right.nodes
 have hln:=h.len
 have hnow:=h.now
 have hh:=h.right.hor
 have hp:∀ p,p∈aB s nodes→1≤p∧p≤3:=fun p hp=>⟨(bQ hp).1,(bQ hp).2.1⟩
 have hl3:=mZ s nodes
 have ho:=GK (ps:=aB s nodes) (by omega)
 unfold gv
 rw [th hs h hl7 hm]
 simp only [obnd]
 rw [vO (wG s nodes) hp hl3]
 simp only
 have key:=gC (body:=iC rec (((obsL (aB s nodes)).length:Nat):Int) s.nodes s.ties s.horizon (decX y nodes).now (decX y nodes).times (decX y nodes).values (aB s nodes) (obsL (aB s nodes)))
  (obsL (aB s nodes)) (fun vs=>win s (obsX (decX y nodes) (aB s nodes) vs)) (fun i=>(i:Int)) (rT:=.inl ()) (rF:=.inr false) ?_ ?_ ?_
 ·rw [show ((0:Nat):Int)=0 from rfl] at key
  rw [key]
  unfold bz
  cases (obsL (aB s nodes)).all (fun vs=>win s (obsX (decX y nodes) (aB s nodes) vs)) <;> rfl
 all_goals first
  | (
   intro i hi hq
   obtain ⟨h1,h2⟩:=sB (List.getElem_mem hi)
   have hob:=wH h hm h1 h2
   have e:=hr _ hob rfl
   unfold iC
   try simp only
   rw [if_pos (by omega),au hi]
   simp only [obnd]
   rw [show (GState.mk (decX y nodes).now (decX y nodes).times (decX y nodes).values)=decX y nodes from rfl,(mu (decX y nodes) (aB s nodes) _ (by show 0≤y.now∧y.now≤1000;omega) (by show (aW _ _ _ _).length≤_;rw [bZ];omega) hv hp h1 (by omega)).2]
   simp only
   rw [show (GShow.mk s.nodes s.ties s.horizon)=s from rfl,e,hq]
   first | rfl | (simp only [if_true];rw [wr (by omega) (by omega)];rfl))
  | (
   unfold iC
   try simp only
   rw [if_neg (by omega)])
theorem Ot {s:GShow}(hs:aP s){rec:RecS}{y:GState}(hr:wJ s (y.now+1) rec)(h:MomR s y):kb rec s y=some (anyB (win s) s y):=by
 have h7:=uF h.right y
 have hpow:=oP h7
 have hpos:0 < 2 ^ (enL s y).length:=Nat.pow_pos (by omega)
 unfold kb
 rw [vF hs h]
 simp only [obnd]
 rw [wru (by omega),am (by omega),Int.toNat_natCast,lr h7,wr (by omega) (by omega)]
 have hlen:(decL s y).length=2 ^ (enL s y).length:=by unfold decL;simp
 have hget:∀ j (hj:j < (decL s y).length),(decL s y)[j]=kI s y j:=by
  intro j hj
  have:(decL s y)[j]?=some (kI s y j):=by
   unfold decL
   rw [List.getElem?_map,List.getElem?_range (by omega)];rfl
  rw [List.getElem?_eq_getElem hj] at this
  exact Option.some.inj this
 have key:=iT (body:=gw rec s.nodes s.ties s.horizon y.now y.times y.values (enL s y)) (decL s y) (bz (win s) s y) (fun j=>((2 ^ (enL s y).length:Nat):Int) - 1 - (j:Int)) (rT:=.inl ()) (fun _=>.inr true) ?_ ?_ ?_
 ·simp only [Int.natCast_zero,Int.sub_zero] at key
  rw [key]
  unfold anyB
  have hany:(decL s y).any (bz (win s) s y)=((decL s y).findIdx? (bz (win s) s y)).isSome:=(List.findIdx?_isSome).symm
  rw [hany]
  cases (decL s y).findIdx? (bz (win s) s y) <;> rfl
 ·intro j hj hq
  have hmem:=List.getElem_mem hj
  have e:=wK hs hr h hmem
  rw [hget j hj] at e hq
  have hd:kI s y j=sel (cf (((2 ^ (enL s y).length:Nat):Int) - 1 - (j:Int))) (enL s y) (enL s y).length:=by
   unfold kI
   rw [show ((2 ^ (enL s y).length - 1 - j:Nat):Int)=((2 ^ (enL s y).length:Nat):Int) - 1 - (j:Int) by omega]
  unfold gw
  try simp only
  rw [if_pos (by omega),qC _ _ (by omega),← hd]
  simp only [obnd]
  rw [show (GShow.mk s.nodes s.ties s.horizon)=s from rfl,show (GState.mk y.now y.times y.values)=y from rfl,e,hq]
  simp only [Bool.false_eq_true,if_false]
  rw [wr (by omega) (by omega)]
  congr 2
  omega
 ·intro j hj hq
  have hmem:=List.getElem_mem hj
  have e:=wK hs hr h hmem
  rw [hget j hj] at e hq
  have hd:kI s y j=sel (cf (((2 ^ (enL s y).length:Nat):Int) - 1 - (j:Int))) (enL s y) (enL s y).length:=by
   unfold kI
   rw [show ((2 ^ (enL s y).length - 1 - j:Nat):Int)=((2 ^ (enL s y).length:Nat):Int) - 1 - (j:Int) by omega]
  unfold gw
  try simp only
  rw [if_pos (by omega),qC _ _ (by omega),← hd]
  simp only [obnd]
  rw [show (GShow.mk s.nodes s.ties s.horizon)=s from rfl,show (GState.mk y.now y.times y.values)=y from rfl,e,hq]
  rfl
 ·unfold gw
  try simp only
  rw [if_neg (by omega)]
theorem ED {s:GShow}(hs:aP s){rec:RecS}{x:GState}(hx:aI s x=true)(hr:wJ s (x.now+1) rec):kc rec s x=some (win s x):=by
 have hR:=bA hx
 have hv:=(aS hR.val).1
 have h6:=sG hR.ok x
 have hmm:=td s x
 have hpow:=oP (m:=(mayL s x).length) (by omega)
 unfold kc
 rw [wI hs hR]
 simp only [obnd]
 have hw:=GO hx
 unfold lu at hw
 cases hb:eP s x
 ·rw [hb] at hw
  simp only [Bool.false_eq_true,if_false] at hw ⊢
  rw [By hs hR]
  simp only
  cases ho:km s x
  ·rw [ho] at hw
   simp only [Bool.false_eq_true,if_false] at hw ⊢
   obtain ⟨b,eb,hbw⟩:=HT hs hx
   rw [eb]
   simp only
   cases b
   ·simp only [Bool.false_eq_true,if_false]
    rw [vD hx]
    simp only
    have hh:x.now≤s.horizon:=by
     unfold eP at hb
     rw [Bool.or_eq_false_iff,ho] at hb
     have:=hb.2
     simp only [Bool.not_false,Bool.and_true,decide_eq_false_iff_not] at this
     omega
    have hends:bl s x=(List.range (2 ^ (mayL s x).length)).map (kl s x):=by unfold bl;rw [if_neg (by omega)]
    have hlen:(bl s x).length=2 ^ (mayL s x).length:=by rw [hends];simp
    have hget:∀ j (hj:j < (bl s x).length),(bl s x)[j]=kl s x j:=by
     intro j hj
     have:(bl s x)[j]?=some (kl s x j):=by
      rw [hends,List.getElem?_map,List.getElem?_range (by omega)];rfl
     rw [List.getElem?_eq_getElem hj] at this
     exact Option.some.inj this
    have step:∀ j (hj:j < (bl s x).length),gx rec s.nodes s.ties s.horizon x.now x.times x.values (kk s x) (mayL s x) (j:Int)=(if anyB (win s) s (endX s x (bl s x)[j])=true then some (.next ((j:Int)+1)) else some (.done (.inr false))):=by
     intro j hj
     have hmem:=List.getElem_mem hj
     obtain ⟨a1,a2,a3⟩:=jA hR.ok hmem
     have hM:=mv hx hmem
     have e:=Ot hs (y:=endX s x (bl s x)[j]) hr hM
     obtain ⟨f1,f2,f3,f4,f5,f6⟩:=ru hR.ok x j
     rw [hget j hj] at e a2 a3 ⊢
     unfold gx
     try simp only
     rw [wru (by omega),am (by omega),Int.toNat_natCast,lr (by omega),if_pos (by omega),qC _ _ (by omega)]
     simp only [obnd]
     rw [f2]
     simp only
     rw [show (GShow.mk s.nodes s.ties s.horizon)=s from rfl,show (GState.mk x.now x.times x.values)=x from rfl,wE hx (by omega) (by omega) a3]
     simp only
     rw [e]
     simp only
     rw [wr (by omega) (by omega)]
    have key:=gC (body:=gx rec s.nodes s.ties s.horizon x.now x.times x.values (kk s x) (mayL s x)) (bl s x) (fun ties=>anyB (win s) s (endX s x ties)) (fun i=>(i:Int)) (rT:=.inl ()) (rF:=.inr false) ?_ ?_ ?_
    ·rw [show ((0:Nat):Int)=0 from rfl] at key
     rw [key,hw]
     cases (bl s x).all (fun ties=>anyB (win s) s (endX s x ties)) <;> rfl
    ·intro i hi hq
     rw [step i hi,hq];rfl
    ·intro i hi hq
     rw [step i hi,hq];rfl
    ·unfold gx
     try simp only
     rw [wru (by omega),am (by omega),Int.toNat_natCast,lr (by omega),if_neg (by omega)]
   ·simp only [if_true]
    rw [hbw rfl]
  ·rw [ho] at hw
   rw [hw];rfl
 ·rw [hb] at hw
  rw [hw];rfl
theorem vG {s:GShow}(hs:aP s):∀ (n:Nat) (t:Int),12≤(n:Int)+t→wJ s t (kd n)
 | 0,t,h=>by
  intro x hx ht
  have:=(bA hx).now
  have:=(bA hx).right.hor
  omega
 | n+1,t,h=>by
  intro x hx ht
  exact ED hs hx (by rw [ht];exact vG hs n (t+1) (by omega))
theorem HU {s:GShow}(hs:aP s)(t:Int)(h:0≤t):wJ s t m_spec_l15Win:=vG hs 40 t (by omega)
theorem BB {s:GShow}(hs:aP s){y:GState}(h:MomR s y){nodes:List Int}(hn:nodes∈decL s y):nz s y nodes=some (bz (win s) s y nodes):=
 wK hs (HU hs _ (by have:=h.now;omega)) h hn
end Go.Proofs.YtghfphjfkdbpjaaGreatZ
set_option maxRecDepth 100000
namespace Go.Proofs.YtghfphjfkdbpjaaGreatZ
open Go
theorem CV {α:Type}{l:List α}{n:Nat}{x:α}(h:n < l.length):(l.set n x).take (n+1)=l.take n ++ [x]:=by
 have e:(l.set n x).take n=l.take n:=by
  apply List.ext_getElem?
  intro i
  rw [List.getElem?_take,List.getElem?_take]
  split
  ·rw [List.getElem?_set_ne (by omega)]
  ·rfl
 rw [de (by simp;exact h),e]
 simp
theorem LR {α:Type}{xs ys:List α}{i:Nat}(h:i+ys.length≤xs.length):(putL xs i ys).take i=xs.take i:=by
 unfold putL
 rw [if_pos h,List.append_assoc,List.take_append_of_le_length (by rw [List.length_take];omega),List.take_take]
 simp
theorem LS {α β ρ:Type}(xs:List α)(q:α→Bool)(I:β→Prop)(body:Int × β→Option (Step (Int × β) ρ))(rT:β→ρ)(rF:Int→β→ρ)
  (h1:∀ i (hi:i < xs.length) k,I k→∃ k',I k'∧body ((i:Int),k)=some (if q xs[i]=true then .done (rF (i:Int) k') else .next ((i:Int)+1,k')))
  (h2:∀ k,I k→body ((xs.length:Int),k)=some (.done (rT k))) (k:β) (hk:I k) :
  ∃ k',I k'∧aq body (0,k)=some (if 0≤aN xs q then rF (aN xs q) k' else rT k'):=by
 have key:=cK (body:=body) (s0:=((0:Int),k)) xs.length (fun i st=>st.1=(i:Int)∧I st.2∧∀ j (hj:j < xs.length),j < i→q xs[j]=false)
  (fun r=>∃ k',I k'∧r=(if 0≤aN xs q then rF (aN xs q) k' else rT k')) ⟨rfl,hk,fun j _ h=>absurd h (by omega)⟩ ?_ ?_
 ·obtain ⟨r,hr,hp⟩:=key
  obtain ⟨k',h3,rfl⟩:=hp
  exact ⟨k',h3,hr⟩
 ·rintro i ⟨a,k⟩ hi ⟨rfl,hI,hall⟩
  obtain ⟨k',hk',hb⟩:=h1 i hi k hI
  cases hq:q xs[i]
  ·rw [hq,if_neg (by simp)] at hb
   refine .inl ⟨_,hb,rfl,hk',fun j hj hlt=>?_⟩
   rcases Nat.lt_or_ge j i with h | h
   ·exact hall j hj h
   ·obtain rfl:j=i:=by omega
    exact hq
  ·rw [hq,if_pos rfl] at hb
   refine .inr ⟨_,hb,k',hk',?_⟩
   have:aN xs q=(i:Int):=by
    unfold aN
    have:xs.findIdx? q=some i:=by
     rw [List.findIdx?_eq_some_iff_getElem]
     exact ⟨hi,hq,fun j hj=>by simp [hall j (by omega) hj]⟩
    rw [this]
   rw [this,if_pos (by omega)]
 ·rintro ⟨a,k⟩ ⟨rfl,hI,hall⟩
  refine ⟨_,h2 k hI,k,hI,?_⟩
  rw [if_neg]
  intro h0
  obtain ⟨j,hj,_,hq,_⟩:=iU h0
  rw [hall j hj hj] at hq
  cases hq
theorem DQ {α:Type}{xs:List α}{q:α→Bool}(h:¬ 0≤aN xs q):aN xs q=-1∧xs.any q=false:=by
 constructor
 ·unfold aN at h ⊢
  cases hf:xs.findIdx? q with
  | none=>rfl
  | some j=>rw [hf] at h;simp at h
 ·rw [← nk];exact decide_eq_false h
section
variable {s:GShow} {y:GState}
theorem ON (hs:aP s)(h:MomR s y){nodes:List Int}(hn:nodes∈decL s y){known:List (ByteArray × Bool)}(hk:bV s known) :
  ∃ known',bV s known'∧dP nodes s known y=some (!bz (win s) s y nodes,known'):=by
 obtain ⟨k',hk',e⟩:=yM (IB hs _ (by have:=h.now;omega)) h hn hk
 refine ⟨k',hk',?_⟩
 unfold dP mW
 rw [e];rfl
theorem CW (hs:aP s)(h:MomR s y)(xs:List (List Int))(hx:∀ nd,nd∈xs→nd∈decL s y)(hl:xs.length≤128){known:List (ByteArray × Bool)}(hk:bV s known) :
  ∃ known',bV s known'∧aX xs s known y=some (aN xs (fun nd=>!bz (win s) s y nd),xs,known'):=by
 unfold aX
 have key:=LS xs (fun nd=>!bz (win s) s y nd) (bV s) (aT ((xs.length:Nat):Int) xs s.nodes s.ties s.horizon y.now y.times y.values)
  (fun k=>.inl k) (fun i k=>.inr (i,xs,k)) ?_ ?_ known hk
 ·obtain ⟨k',hk',e⟩:=key
  rw [e]
  refine ⟨k',hk',?_⟩
  simp only [obnd]
  by_cases h0:0≤aN xs (fun nd=>!bz (win s) s y nd)
  ·rw [if_pos h0]
  ·rw [if_neg h0,(DQ h0).1]
 ·intro i hi k hk
  obtain ⟨k',hk',e⟩:=ON hs h (hx _ (List.getElem_mem hi)) hk
  refine ⟨k',hk',?_⟩
  unfold aT
  try simp only
  rw [if_pos (by omega),au hi]
  simp only [obnd]
  rw [show (GShow.mk s.nodes s.ties s.horizon)=s from rfl,show (GState.mk y.now y.times y.values)=y from rfl,e]
  simp only
  rw [wr (by omega) (by omega)]
  cases bz (win s) s y xs[i] <;> rfl
 ·intro k _
  unfold aT
  try simp only
  rw [if_neg (by omega)]
theorem BC (hs:aP s)(h:MomR s y)(xs:List (List Int))(hx:∀ nd,nd∈xs→nd∈decL s y)(hl:xs.length≤128){known:List (ByteArray × Bool)}(hk:bV s known) :
  ∃ known',bV s known'∧aV xs s known y=some (xs.filter (fun nd=>bz (win s) s y nd),known'):=by
 obtain ⟨k1,hk1,e1⟩:=CW hs h xs hx hl hk
 have hfn:xs.filter (fun nd=>bz (win s) s y nd)=xs.filter (fun nd=>!(!bz (win s) s y nd)):=by simp
 rw [hfn]
 unfold aV
 rw [e1]
 simp only [obnd]
 generalize hq':(fun nd=>!bz (win s) s y nd)=q at *
 have hq:∀ nd,q nd=!bz (win s) s y nd:=fun nd=>by rw [← hq']
 have hff:(fun nd=>!(!bz (win s) s y nd))=(fun x=>!q x):=by funext nd;rw [hq]
 rw [hff]
 by_cases h0:0≤aN xs q
 ·obtain ⟨i0,hi0,he,hq0,hno⟩:=iU h0
  rw [he,if_neg (by omega),wr (x:=(i0:Int)+1) (by omega) (by omega)]
  have htake:(xs.take i0).filter (fun x=>!q x)=xs.take i0:=by
   rw [List.filter_eq_self]
   intro x hm
   obtain ⟨j,hj,rfl⟩:=List.getElem_of_mem hm
   rw [List.length_take] at hj
   rw [List.getElem_take,hno j (by omega)];rfl
  have inv:∃ r,aq (aR xs.length s.nodes s.ties s.horizon y.now y.times y.values) ((i0:Int),(i0:Int)+1,xs,k1)=some r∧(r.1=(((xs.filter (fun x=>!q x)).length:Nat):Int)∧r.2.1.length=xs.length∧r.2.1.take (xs.filter (fun x=>!q x)).length=xs.filter (fun x=>!q x)∧bV s r.2.2):=by
   refine cK (xs.length - (i0+1)) (fun (k:Nat) (s':Int × Int × List (List Int) × List (ByteArray × Bool))=>s'.2.1=((i0+1+k:Nat):Int)∧s'.1=((((xs.take (i0+1+k)).filter (fun x=>!q x)).length:Nat):Int)∧s'.2.2.1.length=xs.length ∧
    s'.2.2.1.take ((xs.take (i0+1+k)).filter (fun x=>!q x)).length=(xs.take (i0+1+k)).filter (fun x=>!q x)∧(∀ j,i0+1+k≤j→s'.2.2.1[j]?=xs[j]?)∧((xs.take (i0+1+k)).filter (fun x=>!q x)).length < i0+1+k∧bV s s'.2.2.2) _ ?_ ?_ ?_
   ·have e1:(xs.take (i0+1)).filter (fun x=>!q x)=xs.take i0:=by
     rw [de hi0,List.filter_append,htake]
     simp [hq0]
    have hl:(xs.take i0).length=i0:=by rw [List.length_take];omega
    refine ⟨by simp only;omega,?_,rfl,?_,fun _ _=>rfl,?_,hk1⟩
    ·simp only [Nat.add_zero];rw [e1,hl]
    ·simp only [Nat.add_zero];rw [e1,hl]
    ·simp only [Nat.add_zero];rw [e1,hl];omega
   ·rintro k ⟨v5,v6,v0,kn⟩ hk ⟨h1,h2,h3,h4,h5,h6,h7⟩
    simp only at h1 h2 h3 h4 h5 h6 h7
    have hj:i0+1+k < xs.length:=by omega
    have hg:getI v0 v6=some xs[i0+1+k]:=by
     unfold getI
     rw [h1,if_pos (by omega),Int.toNat_natCast,h5 _ (Nat.le_refl _),List.getElem?_eq_getElem hj]
    obtain ⟨kn',hkn',ec⟩:=ON hs h (hx _ (List.getElem_mem hj)) h7
    left
    unfold aR
    simp only
    rw [if_pos (by omega),am (by omega),hg,wr (x:=v6+1) (by omega) (by omega)]
    simp only [obnd]
    rw [show (GShow.mk s.nodes s.ties s.horizon)=s from rfl,show (GState.mk y.now y.times y.values)=y from rfl,ec,← hq]
    simp only
    cases hqq:q xs[i0+1+k]
    ·have e2:(xs.take (i0+1+(k+1))).filter (fun x=>!q x)=(xs.take (i0+1+k)).filter (fun x=>!q x) ++ [xs[i0+1+k]]:=by
      rw [show i0+1+(k+1)=i0+1+k+1 by omega,de hj,List.filter_append]
      simp [hqq]
     have hv5:getI v0 v5=some v0[((xs.take (i0+1+k)).filter (fun x=>!q x)).length]:=by rw [h2,au (by omega)]
     rw [if_neg (by simp),am (by omega),hv5,wr (x:=v5+1) (by omega) (by omega)]
     refine ⟨_,rfl,by simp only;omega,?_,?_,?_,?_,?_,hkn'⟩
     ·simp only;rw [e2,List.length_append,h2];simp
     ·simp only [List.length_set];exact h3
     ·simp only;rw [e2,List.length_append,h2,Int.toNat_natCast]
      simp only [List.length_cons,List.length_nil,Nat.zero_add]
      rw [CV (by omega),h4]
     ·intro j hj'
      simp only
      rw [h2,Int.toNat_natCast,List.getElem?_set_ne (by omega)]
      exact h5 j (by omega)
     ·rw [e2,List.length_append];simp;omega
    ·have e2:(xs.take (i0+1+(k+1))).filter (fun x=>!q x)=(xs.take (i0+1+k)).filter (fun x=>!q x):=by
      rw [show i0+1+(k+1)=i0+1+k+1 by omega,de hj,List.filter_append]
      simp [hqq]
     rw [if_pos rfl]
     refine ⟨_,rfl,by simp only;omega,?_,h3,?_,fun j hj'=>h5 j (by omega),?_,hkn'⟩
     ·simp only;rw [e2];exact h2
     ·simp only;rw [e2];exact h4
     ·rw [e2];omega
   ·rintro ⟨v5,v6,v0,kn⟩ ⟨h1,h2,h3,h4,h5,h6,h7⟩
    simp only at h1 h2 h3 h4 h7
    have hall:i0+1+(xs.length - (i0+1))=xs.length:=by omega
    rw [hall] at h1 h2 h4
    rw [List.take_length] at h2 h4
    unfold aR
    simp only
    rw [if_neg (by omega)]
    exact ⟨_,rfl,h2,h3,h4,h7⟩
  obtain ⟨⟨v5,v0,kn⟩,hr,h1,h2,h3,h4⟩:=inv
  rw [hr]
  simp only at h1 h2 h3 h4 ⊢
  have hle:=List.length_filter_le (fun x=>!q x) xs
  subst h1
  simp only [Int.toNat_natCast]
  rw [am (by omega),am (by omega),am (by omega),am (by omega),am (by rw [yE];omega),am (by omega),LR (by rw [List.length_replicate];omega),h3]
  exact ⟨kn,h4,rfl⟩
 ·obtain ⟨h2,h1⟩:=DQ h0
  rw [if_pos h2,am (Nat.le_refl _),List.take_length]
  refine ⟨k1,hk1,?_⟩
  congr 2
  symm
  rw [List.filter_eq_self]
  intro x hm
  rw [List.any_eq_false] at h1
  have:=h1 x hm
  cases hqx:q x
  ·rfl
  ·exact absurd hqx this
theorem Ou (hs:aP s)(h:MomR s y){known:List (ByteArray × Bool)}(hk:bV s known) :
  ∃ known',bV s known'∧jo s known y=some ((decL s y).filter (bz (win s) s y),known'):=by
 obtain ⟨k',hk',e⟩:=BC hs h (decL s y) (fun _ h=>h) (rn h.right y) hk
 refine ⟨k',hk',?_⟩
 unfold jo
 rw [tg hs h]
 simp only [obnd]
 rw [e]
end
def mI (lazy:Bool)(l:List (List Int))(p:List Int→Bool):Option (List Int):=if lazy=true then l.reverse.find? p else l.find? p
theorem Ov (l:List (List Int))(p:List Int→Bool)(lazy:Bool)(hl:l.length≤128) :
  mX (l.filter p) lazy=some (match mI lazy l p with | some nd=>(nd,true) | none=>([],false)):=by
 have hle:=List.length_filter_le p l
 unfold mX mI
 have e1:l.find? p=(l.filter p).head?:=(List.head?_filter).symm
 have e2:l.reverse.find? p=(l.filter p).getLast?:=by rw [← List.head?_filter,List.filter_reverse,List.head?_reverse]
 rw [e1,e2]
 generalize l.filter p=m at *
 by_cases h0:m=[]
 ·subst h0
  rw [if_pos (by simp)]
  cases lazy <;> rfl
 ·have hpos:0 < m.length:=List.length_pos_iff.2 h0
  rw [if_neg (by omega)]
  cases lazy
  ·simp only [Bool.false_eq_true,if_false]
   have:getI m ((0:Nat):Int)=some m[0]:=au hpos
   rw [show ((0:Nat):Int)=0 from rfl] at this
   rw [this,List.head?_eq_getElem?,List.getElem?_eq_getElem hpos];rfl
  ·simp only [if_true]
   rw [wr (by omega) (by omega),show ((m.length:Nat):Int) - 1=((m.length - 1:Nat):Int) by omega,au (by omega),List.getLast?_eq_getElem?,List.getElem?_eq_getElem (by omega)];rfl
end Go.Proofs.YtghfphjfkdbpjaaGreatZ
set_option maxRecDepth 100000
namespace Go.Proofs.YtghfphjfkdbpjaaGreatZ
open Go
theorem LT (log:List GEntry)(hl:log.length≤1048576)(he:∀ e,e∈log→FitE e):kV log=some log:=by
 unfold kV
 have key:aq (iq log ((log.length:Nat):Int)) (((0:Nat):Int),log.take 0)=some log:=by
  refine aH log.length (fun i=>((i:Int),log.take i)) ?_ ?_
  ·intro i hi
   have hf:=he _ (List.getElem_mem hi)
   unfold iq
   try simp only
   rw [if_pos (by omega),au hi]
   simp only [obnd]
   rw [hY _ hf.ties,hY _ hf.nodes,hY _ hf.values]
   simp only
   rw [am (by rw [List.length_take];omega),am (by rw [List.length_take];omega),wr (by omega) (by omega),List.take_succ_eq_append_getElem hi];rfl
  ·unfold iq
   try simp only
   rw [if_neg (by omega),List.take_length]
 simp only [Int.natCast_zero,List.take_zero] at key
 rw [key];rfl
theorem HV (d:GDesk)(h:FitD d):jQ d=some d:=by
 unfold jQ
 rw [HJ _ h.sh]
 simp only [obnd]
 rw [qD _ h.st.times h.st.values]
 simp only
 rw [LT _ h.log h.entry]
theorem vl (d:GDesk)(h:FitD d):gy d=some d:=by
 have hl:=h.log
 unfold gy
 rw [LE _ h.sh]
 simp only [obnd]
 rw [qE _ h.st.times h.st.values]
 simp only
 have key:aq (dE d.log ((d.log.length:Nat):Int) d.show_.horizon d.state.now d.lazy d.show_.nodes d.show_.ties d.state.times d.state.values) (((0:Nat):Int),d.log.take 0)=some d.log:=by
  refine aH d.log.length (fun i=>((i:Int),d.log.take i)) ?_ ?_
  ·intro i hi
   have hf:=h.entry _ (List.getElem_mem hi)
   have f1:=hf.ties
   have f2:=hf.nodes
   have f3:=hf.values
   unfold dE
   try simp only
   rw [if_pos (by omega),au hi]
   simp only [obnd]
   unfold mF
   rw [am (by omega),am (by omega),am (by omega),am (by omega),am (by omega),am (by omega)]
   simp only
   rw [am (by rw [List.length_take];omega),am (by rw [List.length_take];omega),wr (by omega) (by omega),List.take_succ_eq_append_getElem hi];rfl
  ·unfold dE
   try simp only
   rw [if_neg (by omega),List.take_length]
 simp only [Int.natCast_zero,List.take_zero] at key
 rw [key]
def pmB (values:List Int):Bool:=decide (values.length=3) && values.all (fun v=>decide (v=1) || decide (v=-1))
noncomputable def br (d:GDesk)(ties values:List Int):Int:=
 if na d=true then (if pmB values=true then (if eP d.show_ d.state=true then 2 else if km d.show_ d.state=true then 2 else if d.show_.horizon < d.state.now then 2 else if ties∈bl d.show_ d.state then 0 else 3) else 1) else 1
def cG (values ps:List Int):List Int:=ps.map (fun p=>tm values (p - 1))
def litL (values ps:List Int):List Int:=ps.map (fun p=>p * tm values (p - 1))
noncomputable def finD (d:GDesk)(ties values:List Int)(nodes:List Int):GDesk:=
 ⟨d.show_,obsX (decX (endX d.show_ d.state ties) nodes) (aB d.show_ nodes) (cG values (aB d.show_ nodes)),d.lazy,d.log ++ [⟨d.state.now,ties,nodes,litL values (aB d.show_ nodes)⟩]⟩
noncomputable def sC (d:GDesk)(ties values:List Int)(refused:Int)(c:Option (List Int)):GDesk × List Int × Int:=
 if br d ties values=0 then (match c with | some nd=>(finD d ties values nd,nd,0) | none=>(d,[],refused)) else (d,[],br d ties values)
theorem pI {d:GDesk}(h:na d=true):aI d.show_ d.state=true:=by
 unfold na at h
 simp only [Bool.and_eq_true] at h
 exact h.1.1.1
theorem rS {d:GDesk}{ties values:List Int}(h:br d ties values=0):na d=true∧pmB values=true∧ties∈bl d.show_ d.state∧eP d.show_ d.state=false∧km d.show_ d.state=false∧¬ d.show_.horizon < d.state.now:=by
 unfold br at h
 split at h
 ·rename_i h1
  split at h
  ·rename_i h2
   split at h
   ·omega
   ·rename_i h3
    split at h
    ·omega
    ·rename_i h4
     split at h
     ·omega
     ·rename_i h5
      split at h
      ·rename_i h6
       exact ⟨h1,h2,h6,by simpa using h3,by simpa using h4,h5⟩
      ·omega
  ·omega
 ·omega
theorem GR {values:List Int}(h:pmB values=true):values.length=3∧∀ v,v∈values→v=1∨v=-1:=by
 unfold pmB at h
 rw [Bool.and_eq_true,decide_eq_true_eq,List.all_eq_true] at h
 exact ⟨h.1,fun v hv=>by have:=h.2 v hv;simpa using this⟩
theorem LU {values:List Int}(h:pmB values=true){k:Int}(h0:0≤k)(h1:k < 3):tm values k=1∨tm values k=-1:=by
 obtain ⟨h2,h3⟩:=GR h
 unfold tm
 rw [List.getElem?_eq_getElem (show k.toNat < values.length by omega)]
 exact h3 _ (List.getElem_mem _)
theorem WX {values:List Int}(h3:values.length=3):values.any (fun v=>!(decide (v=1) || decide (v=-1)))=!pmB values:=by
 unfold pmB
 rw [decide_eq_true h3,Bool.true_and,List.any_eq_not_all_not]
 simp
theorem GS (v:Int):fQ v=some (!(decide (v=1) || decide (v=-1))):=by
 unfold fQ
 by_cases h:v=1
 ·rw [if_pos h,decide_eq_true h];rfl
 ·rw [if_neg h,decide_eq_false h]
  by_cases h2:v=-1
  ·rw [decide_eq_true h2,decide_eq_false (by simpa using h2)];rfl
  ·rw [decide_eq_false h2,decide_eq_true h2];rfl
theorem HW {values ps:List Int}(hv:pmB values=true)(hp:∀ p,p∈ps→1≤p∧p≤3)(hl:ps.length≤3):jW ps (cG values ps)=some (litL values ps):=by
 unfold jW
 have key:aq (gU (cG values ps) ps ((ps.length:Nat):Int)) (((0:Nat):Int),litL values (ps.take 0))=some (litL values ps):=by
  refine aH ps.length (fun i=>((i:Int),litL values (ps.take i))) ?_ ?_
  ·intro i hi
   have hb:=hp _ (List.getElem_mem hi)
   have ht:=LU hv (k:=ps[i] - 1) (by omega) (by omega)
   have hl1:(litL values (ps.take i)).length≤3:=by unfold litL;rw [List.length_map,List.length_take];omega
   have hsl:(cG values ps).length=ps.length:=by unfold cG;simp
   unfold gU
   try simp only
   rw [if_pos (by omega),au hi,au (show i < (cG values ps).length by omega)]
   simp only [obnd]
   have hs:(cG values ps)[i]'(by omega)=tm values (ps[i] - 1):=by unfold cG;simp
   rw [hs,am (by omega),am (by omega),wr (x:=(i:Int)+1) (by omega) (by omega),wr (x:=ps[i] * tm values (ps[i] - 1)) (by rcases ht with h | h <;> rw [h] <;> omega) (by rcases ht with h | h <;> rw [h] <;> omega)]
   congr 3
   unfold litL
   rw [List.take_succ_eq_append_getElem hi,List.map_append];rfl
  ·unfold gU
   try simp only
   rw [if_neg (by omega),List.take_length]
 simp only [Int.natCast_zero,List.take_zero] at key
 rw [show litL values []=[] from rfl] at key
 rw [key];rfl
theorem BD {values ps:List Int}(hv:pmB values=true)(hp:∀ p,p∈ps→1≤p∧p≤3):(cG values ps).length=ps.length∧∀ v,v∈cG values ps→v=1∨v=-1:=by
 refine ⟨by unfold cG;simp,fun v hm=>?_⟩
 unfold cG at hm
 rw [List.mem_map] at hm
 obtain ⟨p,hpm,rfl⟩:=hm
 have:=hp p hpm
 exact LU hv (by omega) (by omega)
theorem wL (d:GDesk)(ties values:List Int)(refused:Int)(d':GDesk)(hf:FitD d)(ht:ties.length≤1048576)(hvl:values.length≤1048576)(c:Option (List Int))(hmem:∀ nd,c=some nd→nd∈decL d.show_ (endX d.show_ d.state ties))
  (hc:br d ties values=0→∃ r,gT d.show_ [] (endX d.show_ d.state ties) d'=some r∧r.2.1=c.isSome∧∀ nd,c=some nd→r.1=nd) :
  bv d ties values refused d'=some (sC d ties values refused c):=by
 have hs:=hf.sh.small
 have hlog:=hf.log
 have hg0:=@rS d ties values
 unfold sC
 unfold bv
 rw [HV d hf]
 simp only [obnd]
 rw [HP d hf]
 simp only
 cases hd:na d
 ·have e:br d ties values=1:=by unfold br;rw [hd];rfl
  rw [e];rfl
 have hx:=pI hd
 have hR:=bA hx
 simp only [if_true]
 by_cases h3:values.length=3
 rotate_left
 ·have e:br d ties values=1:=by unfold br pmB;rw [hd,decide_eq_false h3];rfl
  rw [if_neg (by omega),e];rfl
 rw [if_pos (by omega),lN values _ (fun v=>!(decide (v=1) || decide (v=-1))) (by unfold Cnt;omega) (fun v _=>GS v),WX h3]
 simp only
 cases hp:pmB values
 ·have e:br d ties values=1:=by unfold br;rw [hd,hp];rfl
  rw [e];rfl
 simp only [Bool.not_true,Bool.false_eq_true,if_false]
 rw [yJ hs hR]
 simp only
 cases hb:eP d.show_ d.state
 rotate_left
 ·have e:br d ties values=2:=by unfold br;rw [hd,hp,hb];rfl
  rw [e];rfl
 simp only [Bool.false_eq_true,if_false]
 rw [vk hs hR]
 simp only
 cases ho:km d.show_ d.state
 rotate_left
 ·have e:br d ties values=2:=by unfold br;rw [hd,hp,hb,ho];rfl
  rw [e];rfl
 simp only [Bool.false_eq_true,if_false]
 by_cases hh:d.show_.horizon < d.state.now
 ·have e:br d ties values=2:=by unfold br;rw [hd,hp,hb,ho,if_pos hh];rfl
  rw [if_pos hh,e];rfl
 rw [if_neg hh,vf hx]
 simp only
 have hel:=rQ (x:=d.state) hR.ok
 rw [zi _ _ (by unfold Cnt;omega) (by unfold Cnt;omega)]
 simp only
 by_cases hm:ties∈bl d.show_ d.state
 rotate_left
 ·have e:br d ties values=3:=by unfold br;rw [hd,hp,hb,ho,if_neg hh,if_neg hm];rfl
  rw [decide_eq_false hm,e];rfl
 have e:br d ties values=0:=by unfold br;rw [hd,hp,hb,ho,if_neg hh,if_pos hm];rfl
 obtain ⟨a1,a2,a3⟩:=jA hR.ok hm
 have hM:=mv hx hm
 have hv3:=(aS hR.val).1
 rw [decide_eq_true hm,if_pos rfl,zk hx (by omega) (by omega) a3]
 simp only
 unfold ny
 simp only
 obtain ⟨r,e1,e2,e3⟩:=hc e
 rw [e1,e]
 simp only [if_true]
 rw [e2]
 cases c with
 | none=>rfl
 | some nd=>
  have hn:=hmem nd rfl
  obtain ⟨n1,n2,n3⟩:=dL hM.right hn
  have hps:∀ p,p∈aB d.show_ nd→1≤p∧p≤3:=fun p hp=>⟨(bQ hp).1,(bQ hp).2.1⟩
  have hpl:=mZ d.show_ nd
  simp only [Option.isSome_some,if_true]
  rw [e3 nd rfl,vi hM n1 n2 n3]
  simp only
  have key:aq (aU ties values nd (((aB d.show_ nd).length:Nat):Int) d.show_.horizon d.state.now d.lazy d.state.now d.state.times d.state.values (decX (endX d.show_ d.state ties) nd).now d.show_.nodes d.show_.ties d.state.times d.state.values d.log (decX (endX d.show_ d.state ties) nd).times (decX (endX d.show_ d.state ties) nd).values (aB d.show_ nd)) (((0:Nat):Int),cG values ((aB d.show_ nd).take 0))=some (cG values (aB d.show_ nd)):=by
   refine aH (aB d.show_ nd).length (fun i=>((i:Int),cG values ((aB d.show_ nd).take i))) ?_ ?_
   ·intro i hi
    have hb:=hps _ (List.getElem_mem hi)
    have hsl:(cG values ((aB d.show_ nd).take i)).length≤3:=by unfold cG;rw [List.length_map,List.length_take];omega
    unfold aU
    try simp only
    rw [if_pos (by omega),au hi]
    simp only [obnd]
    rw [wr (x:=(aB d.show_ nd)[i] - 1) (by omega) (by omega),bC (by omega) (by omega)]
    simp only
    rw [am (by omega),am (by omega),wr (by omega) (by omega)]
    congr 3
    unfold cG
    rw [List.take_succ_eq_append_getElem hi,List.map_append];rfl
   ·unfold aU
    try simp only
    rw [if_neg (by omega),List.take_length]
  simp only [Int.natCast_zero,List.take_zero] at key
  rw [show cG values []=[] from rfl] at key
  rw [key]
  simp only
  obtain ⟨s1,s2⟩:=BD hp hps
  have hnow:=hR.now
  have hhor:=hR.right.hor
  have hln:=hM.len
  have h7:=hM.right.nodes
  rw [(mu (decX (endX d.show_ d.state ties) nd) (aB d.show_ nd) (cG values (aB d.show_ nd)) (by show 0≤d.state.now∧d.state.now≤1000;omega) (by show (aW _ _ _ _).length≤_;rw [bZ];omega) hv3 hps s1 (by omega)).1]
  simp only
  rw [hY _ ht,hY _ (by omega),HW hp hps hpl]
  simp only
  rw [am (by omega),am (by omega)]
  rfl
end Go.Proofs.YtghfphjfkdbpjaaGreatZ
set_option maxRecDepth 100000
namespace Go.Proofs.YtghfphjfkdbpjaaGreatZ
open Go
def szE (e:GEntry):Int:=1+(e.ties.length:Int)+(e.nodes.length:Int)+(e.values.length:Int)
def kE (k:Int):List GEntry→Nat→Int
 | _,0=>k
 | [],_+1=>k
 | e :: r,i+1=>kE (k+szE e) r i
theorem xA:∀ (k:Int) (l:List GEntry) (i:Nat) (hi:i < l.length),kE k l (i+1)=kE k l i+szE l[i]
 | k,e :: r,0,_=>by
  show kE (k+szE e) r 0=k+szE e
  cases r <;> rfl
 | k,e :: r,i+1,hi=>by
  show kE (k+szE e) r (i+1)=kE (k+szE e) r i+szE (r[i]'(by simpa using hi))
  exact xA _ r i (by simpa using hi)
 | _,[],_,hi=>by simp at hi
def eE (k:Int)(e:GEntry):GEntry:=⟨k,mkI (k+1) e.ties.length,mkI (k+1+(e.ties.length:Int)) e.nodes.length,mkI (k+1+(e.ties.length:Int)+(e.nodes.length:Int)) e.values.length⟩
def IC:GEntry:=⟨0,[],[],[]⟩
def aE (k:Int)(l:List GEntry)(i:Nat):List GEntry:=(List.range l.length).map (fun j=>if j < i then eE (kE k l j) (l.getD j IC) else l.getD j IC)
theorem ti (k:Int)(l:List GEntry)(i:Nat):(aE k l i).length=l.length:=by simp [aE]
theorem PQ (k:Int)(l:List GEntry):aE k l 0=l:=by
 apply List.ext_getElem?
 intro n
 unfold aE
 rw [List.getElem?_map]
 by_cases hn:n < l.length
 ·rw [List.getElem?_range hn,List.getElem?_eq_getElem hn]
  simp [List.getD_eq_getElem?_getD,List.getElem?_eq_getElem hn]
 ·rw [List.getElem?_eq_none (by simpa using hn),List.getElem?_eq_none (by omega)];rfl
theorem wM {k:Int}{l:List GEntry}{i j:Nat}(hj:j < l.length):(aE k l i)[j]?=some (if j < i then eE (kE k l j) l[j] else l[j]):=by
 unfold aE
 rw [List.getElem?_map,List.getElem?_range hj]
 simp [List.getD_eq_getElem?_getD,List.getElem?_eq_getElem hj]
theorem WY {k:Int}{l:List GEntry}{i:Nat}(hi:i < l.length):(aE k l i).set i (eE (kE k l i) l[i])=aE k l (i+1):=by
 apply List.ext_getElem?
 intro n
 rw [List.getElem?_set]
 by_cases hn:n < l.length
 ·rw [ti]
  by_cases h:i=n
  ·subst h;rw [if_pos rfl,if_pos hn,wM hn,if_pos (by omega)]
  ·rw [if_neg h,wM hn,wM hn]
   by_cases h2:n < i
   ·rw [if_pos h2,if_pos (by omega)]
   ·rw [if_neg h2,if_neg (by omega)]
 ·rw [List.getElem?_eq_none (show (aE k l (i+1)).length≤n by rw [ti];omega)]
  by_cases h:i=n
  ·omega
  ·rw [if_neg h,List.getElem?_eq_none (by rw [ti];omega)]
theorem zm {α:Type}{l:List α}{i:Nat}{x:α}(h:i < l.length):getI (l.set i x) (i:Int)=some x:=by
 rw [au (by simpa using h)]
 simp
theorem ID {α:Type}{l:List α}{i:Nat}{x:α}(h:l[i]?=some x):getI l (i:Int)=some x:=by
 obtain ⟨h1,h2⟩:=List.getElem?_eq_some_iff.1 h
 rw [au h1,h2]
theorem kE_b {k:Int}{l:List GEntry}(hf:∀ e,e∈l→FitE e):∀ i,i≤l.length→k≤kE k l i∧kE k l i≤k+3145730 * (i:Int):=by
 intro i
 induction i with
 | zero=>intro _;cases l <;> exact ⟨Int.le_refl _,by show k≤_;omega⟩
 | succ i ih=>
  intro hi
  have h1:=ih (by omega)
  have h2:=hf _ (List.getElem_mem (show i < l.length by omega))
  have a:=h2.ties
  have b:=h2.nodes
  have c:=h2.values
  rw [xA k l i (by omega)]
  unfold szE
  omega
theorem EE (l:List GEntry)(k:Int)(hl:l.length≤1048576)(hf:∀ e,e∈l→FitE e)(h0:0≤k)(hk:k≤36028797018963968):iG l k=some (kE k l l.length,aE k l l.length):=by
 unfold iG
 have key:aq dw (kE k l 0,((0:Nat):Int),aE k l 0)=some (kE k l l.length,aE k l l.length):=by
  refine aH l.length (fun i=>(kE k l i,(i:Int),aE k l i)) ?_ ?_
  ·intro i hi
   have hE:=hf _ (List.getElem_mem hi)
   have a:=hE.ties
   have b:=hE.nodes
   have c:=hE.values
   have hb:=kE_b (k:=k) hf i (by omega)
   have hlen:=ti k l i
   unfold dw
   try simp only
   rw [if_pos (by omega),ID (wM hi),if_neg (Nat.lt_irrefl i)]
   simp only [obnd,Int.toNat_natCast]
   rw [zm (by omega)]
   simp only
   rw [wr (x:=kE k l i+1) (by omega) (by omega),eR _ _ a (by omega) (by omega)]
   simp only
   rw [am (kq _ _),List.set_set,zm (by omega)]
   simp only
   rw [eR _ _ b (by omega) (by omega)]
   simp only
   rw [am (kq _ _),List.set_set,zm (by omega)]
   simp only
   rw [eR _ _ c (by omega) (by omega)]
   simp only
   rw [am (kq _ _),List.set_set,wr (x:=(i:Int)+1) (by omega) (by omega)]
   have e1:kE k l i+1+(l[i].ties.length:Int)+(l[i].nodes.length:Int)+(l[i].values.length:Int)=kE k l (i+1):=by
    rw [xA k l i hi];unfold szE;omega
   rw [e1,← WY hi]
   rfl
  ·unfold dw
   try simp only
   rw [if_neg (by rw [ti];omega)]
 rw [PQ] at key
 have:kE k l 0=k:=by cases l <;> rfl
 rw [this] at key
 change obnd (aq dw (k,((0:Nat):Int),l)) _=_
 rw [key];rfl
theorem EF (l:List GEntry)(k:Int)(hl:l.length≤1048576)(hf:∀ e,e∈l→FitE e)(h0:0≤k)(hk:k≤36028797018963968):iH (aE k l l.length) k=some (kE k l l.length):=by
 unfold iH
 have hlen:=ti k l l.length
 have key:aq (dx (aE k l l.length)) (kE k l 0,((0:Nat):Int))=some (.inl (kE k l l.length)):=by
  refine aH l.length (fun i=>(kE k l i,(i:Int))) ?_ ?_
  ·intro i hi
   have hE:=hf _ (List.getElem_mem hi)
   have a:=hE.ties
   have b:=hE.nodes
   have c:=hE.values
   have hb:=kE_b (k:=k) hf i (by omega)
   unfold dx
   try simp only
   rw [if_pos (by omega),ID (wM hi),if_pos hi]
   simp only [obnd]
   rw [if_pos (show (eE (kE k l i) l[i]).now=kE k l i from rfl),wr (x:=kE k l i+1) (by omega) (by omega)]
   unfold eE
   simp only
   rw [kw _ _ a (by omega) (by omega)]
   simp only
   rw [if_neg (by omega),kw _ _ b (by omega) (by omega)]
   simp only
   rw [if_neg (by omega),kw _ _ c (by omega) (by omega)]
   simp only
   rw [if_neg (by omega),wr (x:=(i:Int)+1) (by omega) (by omega)]
   have e1:kE k l i+1+(l[i].ties.length:Int)+(l[i].nodes.length:Int)+(l[i].values.length:Int)=kE k l (i+1):=by
    rw [xA k l i hi];unfold szE;omega
   rw [e1];rfl
  ·unfold dx
   try simp only
   rw [if_neg (by omega)]
 have:kE k l 0=k:=by cases l <;> rfl
 rw [this] at key
 change obnd (aq (dx (aE k l l.length)) (k,((0:Nat):Int))) _=_
 rw [key];rfl
theorem uJ (d:GDesk)(h:FitD d):∃ q,ik d 1=some q∧0≤q.1∧q.1≤9007199254740992∧q.2.1.length=d.show_.nodes.length∧q.2.2.1.length=d.show_.ties.length∧q.2.2.2.1.length=d.state.times.length ∧
  q.2.2.2.2.1.length=d.state.values.length∧q.2.2.2.2.2.length=d.log.length∧il ⟨⟨q.2.1,q.2.2.1,d.show_.horizon⟩,⟨d.state.now,q.2.2.2.1,q.2.2.2.2.1⟩,d.lazy,q.2.2.2.2.2⟩ 1=some q.1:=by
 obtain ⟨q',m1,m2,m3,m4,m5,m6⟩:=Ez d.show_ 1 h.sh (by omega) (by omega)
 obtain ⟨q2,n1,_,n3⟩:=LH d.show_ 1 h.sh (by omega) (by omega)
 rw [m1] at n1
 obtain rfl:=Option.some.inj n1
 have h1:=h.st.times
 have h2:=h.st.values
 have h3:=h.log
 unfold ik lL
 rw [m1]
 simp only [obnd]
 rw [eR d.state.times q'.1 h1 m2 (by omega)]
 simp only
 rw [eR d.state.values _ h2 (by omega) (by omega)]
 simp only
 rw [EE d.log _ h3 h.entry (by omega) (by omega)]
 have hb:=kE_b (k:=q'.1+(d.state.times.length:Int)+(d.state.values.length:Int)) h.entry d.log.length (Nat.le_refl _)
 refine ⟨_,rfl,by simp only;omega,by simp only;omega,m4,m5,kq _ _,kq _ _,ti _ _ _,?_⟩
 unfold il lM
 simp only [m6,obnd]
 rw [if_neg (by omega),kw _ _ h1 m2 (by omega)]
 simp only
 rw [if_neg (by omega),kw _ _ h2 (by omega) (by omega)]
 simp only
 rw [if_neg (by omega)]
 simp only
 rw [if_neg (by omega),EF d.log _ h3 h.entry (by omega) (by omega)]
 simp only
 rw [if_neg (by omega)]
end Go.Proofs.YtghfphjfkdbpjaaGreatZ
set_option maxRecDepth 100000
namespace Go.Proofs.YtghfphjfkdbpjaaGreatZ
open Go
noncomputable def tV (d:GDesk)(ties:List Int):Option (List Int):=mI d.lazy (decL d.show_ (endX d.show_ d.state ties)) (bz (win d.show_) d.show_ (endX d.show_ d.state ties))
theorem wN {lazy:Bool}{l:List (List Int)}{p:List Int→Bool}{nd:List Int}(h:mI lazy l p=some nd):nd∈l∧p nd=true:=by
 unfold mI at h
 split at h
 ·exact ⟨by simpa using List.mem_of_find?_eq_some h,List.find?_some h⟩
 ·exact ⟨List.mem_of_find?_eq_some h,List.find?_some h⟩
theorem EG (d:GDesk)(ties values:List Int)(hf:FitD d)(ht:ties.length≤1048576)(hv:values.length≤1048576):ii d ties values=some (sC d ties values 5 (tV d ties)):=by
 have hs:=hf.sh.small
 unfold ii
 rw [wL d ties values 5 d hf ht hv (tV d ties) (fun nd h=>(wN h).1) ?_]
 ·rfl
 ·intro h0
  obtain ⟨g1,_,g3,_⟩:=rS h0
  have hM:=mv (pI g1) g3
  have hl:=rn hM.right (endX d.show_ d.state ties)
  unfold gT tV
  cases hz:d.lazy
  ·simp only [Bool.false_eq_true,if_false]
   obtain ⟨k',_,e⟩:=BA hs (y:=endX d.show_ d.state ties) (IB hs _ (by have:=hM.now;omega)) hM (DO d.show_)
   unfold nQ
   rw [e]
   simp only [obnd]
   refine ⟨_,rfl,?_⟩
   unfold mI
   simp only [Bool.false_eq_true,if_false]
   cases (decL d.show_ (endX d.show_ d.state ties)).find? (bz (win d.show_) d.show_ (endX d.show_ d.state ties)) with
   | none=>exact ⟨rfl,fun nd h=>by cases h⟩
   | some nd=>exact ⟨rfl,fun nd' h=>by cases h;rfl⟩
  ·simp only [if_true]
   obtain ⟨k',_,e⟩:=Ou hs hM (DO d.show_)
   rw [e]
   simp only [obnd]
   rw [Ov _ _ _ hl]
   simp only
   refine ⟨_,rfl,?_⟩
   cases mI true (decL d.show_ (endX d.show_ d.state ties)) (bz (win d.show_) d.show_ (endX d.show_ d.state ties)) with
   | none=>exact ⟨rfl,fun nd h=>by cases h⟩
   | some nd=>exact ⟨rfl,fun nd' h=>by cases h;rfl⟩
theorem xS {s:GShow}{x:GState}(hs:aP s)(hx:aI s x=true)(ties:List Int)(ht:ties.length≤1048576):cM s x ties=some (if ties∈bl s x then (endX s x ties,true) else (ls,false)):=by
 have hR:=bA hx
 have hv3:=(aS hR.val).1
 have hln:=hR.len
 have h7:=hR.right.nodes
 have hel:=rQ (x:=x) hR.ok
 unfold cM
 rw [wD hs hx (by omega) (by omega)]
 simp only [obnd]
 rw [zj _ _ (by unfold Cnt;omega) (fun l hl=>by have:=(jA hR.ok hl).2.1;unfold Cnt;omega)]
 simp only
 by_cases hm:ties∈bl s x
 ·obtain ⟨a1,a2,a3⟩:=jA hR.ok hm
  rw [decide_eq_true hm,if_pos rfl,if_pos hm,wE hx (by omega) (by omega) a3]
 ·rw [decide_eq_false hm,if_neg (by simp),if_neg hm];rfl
theorem HX (d:GDesk)(ties values:List Int)(hf:FitD d)(ht:ties.length≤1048576)(hvl:values.length≤1048576):ka d ties values=some (if br d ties values=0 then (endX d.show_ d.state ties,0) else (ls,br d ties values)):=by
 have hs:=hf.sh.small
 unfold ka
 rw [HQ d hf]
 simp only [obnd]
 cases hd:na d
 ·have e:br d ties values=1:=by unfold br;rw [hd];rfl
  rw [e];rfl
 have hx:=pI hd
 have hR:=bA hx
 simp only [if_true]
 by_cases h3:values.length=3
 rotate_left
 ·have e:br d ties values=1:=by unfold br pmB;rw [hd,decide_eq_false h3];rfl
  rw [if_neg (by omega),e];rfl
 rw [if_pos (by omega)]
 have key:=gC (body:=eD ties values ((values.length:Nat):Int) d.show_.nodes d.show_.ties d.show_.horizon d.state.now d.state.times d.state.values d.lazy d.log) values (fun v=>decide (v=1) || decide (v=-1)) (fun i=>(i:Int)) (rT:=.inl ()) (rF:=.inr (GState.mk 0 [] [],1)) ?_ ?_ ?_
 ·rw [show ((0:Nat):Int)=0 from rfl] at key
  rw [key]
  simp only
  cases hp:pmB values
  ·have e:br d ties values=1:=by unfold br;rw [hd,hp];rfl
   have hall:values.all (fun v=>decide (v=1) || decide (v=-1))=false:=by unfold pmB at hp;rwa [decide_eq_true h3,Bool.true_and] at hp
   rw [hall,e];rfl
  have hall:values.all (fun v=>decide (v=1) || decide (v=-1))=true:=by unfold pmB at hp;rwa [decide_eq_true h3,Bool.true_and] at hp
  rw [hall]
  simp only [if_true]
  rw [wI hs hR]
  simp only
  cases hb:eP d.show_ d.state
  rotate_left
  ·have e:br d ties values=2:=by unfold br;rw [hd,hp,hb];rfl
   rw [e];rfl
  simp only [Bool.false_eq_true,if_false]
  rw [By hs hR]
  simp only
  cases ho:km d.show_ d.state
  rotate_left
  ·have e:br d ties values=2:=by unfold br;rw [hd,hp,hb,ho];rfl
   rw [e];rfl
  simp only [Bool.false_eq_true,if_false]
  by_cases hh:d.show_.horizon < d.state.now
  ·have e:br d ties values=2:=by unfold br;rw [hd,hp,hb,ho,if_pos hh];rfl
   rw [if_pos hh,e];rfl
  rw [if_neg hh,xS hs hx ties ht]
  simp only
  by_cases hm:ties∈bl d.show_ d.state
  ·have e:br d ties values=0:=by unfold br;rw [hd,hp,hb,ho,if_neg hh,if_pos hm];rfl
   rw [if_pos hm,e];rfl
  ·have e:br d ties values=3:=by unfold br;rw [hd,hp,hb,ho,if_neg hh,if_neg hm];rfl
   rw [if_neg hm,e];rfl
 ·intro i hi hq
  unfold eD
  try simp only
  rw [if_pos (by omega),au hi]
  simp only [obnd]
  rw [wr (by omega) (by omega)]
  by_cases h1:values[i]=1
  ·rw [if_pos h1];rfl
  ·rw [if_neg h1,if_pos (by simpa [h1] using hq)];rfl
 ·intro i hi hq
  unfold eD
  try simp only
  rw [if_pos (by omega),au hi]
  simp only [obnd]
  rw [Bool.or_eq_false_iff,decide_eq_false_iff_not,decide_eq_false_iff_not] at hq
  rw [if_neg hq.1,if_neg hq.2]
 ·unfold eD
  try simp only
  rw [if_neg (by omega)]
theorem GT (d:GDesk)(ties values nd:List Int)(hf:FitD d)(ht:ties.length≤1048576)(h0:br d ties values=0)(hn:nd∈decL d.show_ (endX d.show_ d.state ties)) :
  jv d ties (endX d.show_ d.state ties) nd values=some (finD d ties values nd):=by
 have hs:=hf.sh.small
 have hlog:=hf.log
 obtain ⟨g1,hp,g3,_⟩:=rS h0
 have hx:=pI g1
 have hR:=bA hx
 have hM:=mv hx g3
 have hv3:=(aS hR.val).1
 obtain ⟨p3,_⟩:=GR hp
 obtain ⟨n1,n2,n3⟩:=dL hM.right hn
 have hps:∀ p,p∈aB d.show_ nd→1≤p∧p≤3:=fun p hp=>⟨(bQ hp).1,(bQ hp).2.1⟩
 have hpl:=mZ d.show_ nd
 unfold jv
 rw [vl d hf]
 simp only [obnd]
 rw [th hs hM n2 n3]
 simp only
 have key:aq (fZ ties nd values (((aB d.show_ nd).length:Nat):Int) (endX d.show_ d.state ties).now (endX d.show_ d.state ties).times (endX d.show_ d.state ties).values d.show_.horizon d.state.now d.lazy (decX (endX d.show_ d.state ties) nd).now d.show_.nodes d.show_.ties d.state.times d.state.values d.log (decX (endX d.show_ d.state ties) nd).times (decX (endX d.show_ d.state ties) nd).values (aB d.show_ nd)) (((0:Nat):Int),cG values ((aB d.show_ nd).take 0),litL values ((aB d.show_ nd).take 0))=some (cG values (aB d.show_ nd),litL values (aB d.show_ nd)):=by
  refine aH (aB d.show_ nd).length (fun i=>((i:Int),cG values ((aB d.show_ nd).take i),litL values ((aB d.show_ nd).take i))) ?_ ?_
  ·intro i hi
   have hb:=hps _ (List.getElem_mem hi)
   have htm:=LU hp (k:=(aB d.show_ nd)[i] - 1) (by omega) (by omega)
   have hsl:(cG values ((aB d.show_ nd).take i)).length≤3:=by unfold cG;rw [List.length_map,List.length_take];omega
   have hll:(litL values ((aB d.show_ nd).take i)).length≤3:=by unfold litL;rw [List.length_map,List.length_take];omega
   unfold fZ
   try simp only
   rw [if_pos (by omega),au hi]
   simp only [obnd]
   rw [wr (x:=(aB d.show_ nd)[i] - 1) (by omega) (by omega),bC (by omega) (by omega)]
   simp only
   rw [am (by omega),am (by omega),am (by omega),am (by omega),wr (x:=(i:Int)+1) (by omega) (by omega),wr (x:=(aB d.show_ nd)[i] * tm values ((aB d.show_ nd)[i] - 1)) (by rcases htm with h | h <;> rw [h] <;> omega) (by rcases htm with h | h <;> rw [h] <;> omega)]
   have e1:cG values ((aB d.show_ nd).take (i+1))=cG values ((aB d.show_ nd).take i) ++ [tm values ((aB d.show_ nd)[i] - 1)]:=by
    unfold cG;rw [List.take_succ_eq_append_getElem hi,List.map_append];rfl
   have e2:litL values ((aB d.show_ nd).take (i+1))=litL values ((aB d.show_ nd).take i) ++ [(aB d.show_ nd)[i] * tm values ((aB d.show_ nd)[i] - 1)]:=by
    unfold litL;rw [List.take_succ_eq_append_getElem hi,List.map_append];rfl
   rw [e1,e2];rfl
  ·unfold fZ
   try simp only
   rw [if_neg (by omega),List.take_length]
 simp only [Int.natCast_zero,List.take_zero] at key
 rw [show cG values []=[] from rfl,show litL values []=[] from rfl] at key
 rw [key]
 simp only
 obtain ⟨s1,s2⟩:=BD hp hps
 have hnow:=hR.now
 have hhor:=hR.right.hor
 have hln:=hM.len
 have h7:=hM.right.nodes
 rw [am (by omega),am (by omega),am (by omega),am (by omega),am (by omega),am (by omega),(mu (decX (endX d.show_ d.state ties) nd) (aB d.show_ nd) (cG values (aB d.show_ nd)) (by show 0≤d.state.now∧d.state.now≤1000;omega) (by show (aW _ _ _ _).length≤_;rw [bZ];omega) hv3 hps s1 (by omega)).2]
 rfl
theorem GU (d:GDesk)(y:GState)(without:Int)(hf:FitD d)(hM:MomR d.show_ y):ju d y without=some (match mI d.lazy (decL d.show_ y) (fun nd=>!decide (without∈nd) && bz (win d.show_) d.show_ y nd) with | some nd=>(nd,true) | none=>([],false)):=by
 have hs:=hf.sh.small
 have hl:=rn hM.right y
 unfold ju
 rw [uG hs hM]
 simp only [obnd]
 have hlen:∀ {nd},nd∈decL d.show_ y→nd.length≤7:=fun h=>(dL hM.right h).2.1
 have e0:mI d.lazy (decL d.show_ y) (fun nd=>!decide (without∈nd) && bz (win d.show_) d.show_ y nd)=(if d.lazy=true then (decL d.show_ y).reverse else decL d.show_ y).find? (fun nd=>!decide (without∈nd) && bz (win d.show_) d.show_ y nd):=by
  unfold mI;split <;> rfl
 rw [e0]
 generalize hpd:(fun nd=>!decide (without∈nd) && bz (win d.show_) d.show_ y nd)=p
 have hp0:∀ nd,p nd=(!decide (without∈nd) && bz (win d.show_) d.show_ y nd):=fun nd=>by rw [← hpd]
 clear hpd
 generalize hL:(if d.lazy=true then (decL d.show_ y).reverse else decL d.show_ y)=L
 have hel:L.length=(decL d.show_ y).length:=by rw [← hL];split <;> simp
 have g1:d.lazy=false→∀ i (hi:i < L.length),L[i]=(decL d.show_ y)[i]'(by omega):=by
  intro hz i hi
  subst hL
  simp [hz]
 have g2:d.lazy=true→∀ i (hi:i < L.length),L[i]=(decL d.show_ y)[(decL d.show_ y).length - 1 - i]'(by omega):=by
  intro hz i hi
  subst hL
  simp [hz]
 clear hL
 have step:∀ i (hi:i < L.length),dR without (((decL d.show_ y).length:Nat):Int) d.show_.nodes d.show_.ties d.show_.horizon d.state.now d.state.times d.state.values d.lazy d.log y.now y.times y.values (decL d.show_ y) (i:Int)=(if p L[i]=true then some (.done (.inr (L[i],true))) else some (.next ((i:Int)+1))):=by
  intro i hi
  rw [hel] at hi
  unfold dR
  try simp only
  rw [if_pos (by omega),au hi]
  simp only [obnd]
  rw [wr (x:=(i:Int)+1) (by omega) (by omega)]
  cases hz:d.lazy
  ·simp only [Bool.false_eq_true,if_false]
   rw [g1 hz i (by omega),hp0]
   have hmem:=List.getElem_mem hi
   have h7:=hlen hmem
   rw [nc _ _ (by unfold Cnt;omega)]
   simp only
   by_cases hw:without∈(decL d.show_ y)[i]
   ·rw [decide_eq_true hw];rfl
   ·rw [decide_eq_false hw]
    simp only [Bool.false_eq_true,if_false,Bool.not_false,Bool.true_and]
    rw [show (GShow.mk d.show_.nodes d.show_.ties d.show_.horizon)=d.show_ from rfl,show (GState.mk y.now y.times y.values)=y from rfl,BB hs hM hmem]
    simp only
    rw [am (by omega),am (by omega)]
  ·simp only [if_true]
   have hj:(decL d.show_ y).length - 1 - i < (decL d.show_ y).length:=by omega
   rw [wr (x:=(((decL d.show_ y).length:Nat):Int) - 1) (by omega) (by omega),wr (by omega) (by omega),show (((decL d.show_ y).length:Nat):Int) - 1 - (i:Int)=(((decL d.show_ y).length - 1 - i:Nat):Int) by omega,au hj]
   simp only
   rw [g2 hz i (by omega),hp0]
   have hmem:=List.getElem_mem hj
   have h7:=hlen hmem
   rw [nc _ _ (by unfold Cnt;omega)]
   simp only
   by_cases hw:without∈(decL d.show_ y)[(decL d.show_ y).length - 1 - i]
   ·rw [decide_eq_true hw];rfl
   ·rw [decide_eq_false hw]
    simp only [Bool.false_eq_true,if_false,Bool.not_false,Bool.true_and]
    rw [show (GShow.mk d.show_.nodes d.show_.ties d.show_.horizon)=d.show_ from rfl,show (GState.mk y.now y.times y.values)=y from rfl,BB hs hM hmem]
    simp only
    rw [am (by omega),am (by omega)]
 have key:=cK (body:=dR without (((decL d.show_ y).length:Nat):Int) d.show_.nodes d.show_.ties d.show_.horizon d.state.now d.state.times d.state.values d.lazy d.log y.now y.times y.values (decL d.show_ y)) (s0:=(0:Int)) L.length
  (fun (i:Nat) (st:Int)=>st=(i:Int)∧∀ j (hj:j < L.length),j < i→p L[j]=false)
  (fun r=>r=(match L.find? p with | some nd=>.inr (nd,true) | none=>.inl ())) ⟨rfl,fun j _ h=>absurd h (by omega)⟩ ?_ ?_
 ·obtain ⟨r,hr,hp1⟩:=key
  rw [hr,hp1]
  cases L.find? p <;> rfl
 ·rintro i a hi ⟨rfl,hall⟩
  rw [step i hi]
  cases hq:p L[i]
  ·left
   refine ⟨_,if_neg (by simp),rfl,fun j hj hlt=>?_⟩
   rcases Nat.lt_or_ge j i with h | h
   ·exact hall j hj h
   ·obtain rfl:j=i:=by omega
    exact hq
  ·right
   refine ⟨_,if_pos rfl,?_⟩
   have:L.find? p=some L[i]:=by
    rw [List.find?_eq_some_iff_getElem]
    exact ⟨hq,i,hi,rfl,fun j hj=>by have h:=hall j (by omega) hj;show (!_)=true;rw [h];rfl⟩
   rw [this]
 ·rintro a ⟨rfl,hall⟩
  refine ⟨.inl (),?_,?_⟩
  ·unfold dR
   try simp only
   rw [if_neg (by rw [hel];omega)]
  ·have:L.find? p=none:=by
    rw [List.find?_eq_none]
    intro x hx
    obtain ⟨j,hj,rfl⟩:=List.getElem_of_mem hx
    have h:=hall j hj hj
    rw [h];simp
   rw [this]
theorem HY {lazy:Bool}{l:List (List Int)}{p q:List Int→Bool}(h:∀ nd,nd∈l→p nd=q nd):mI lazy l p=mI lazy l q:=by
 have key:∀ l:List (List Int),(∀ nd,nd∈l→p nd=q nd)→l.find? p=l.find? q:=by
  intro l
  induction l with
  | nil=>intro _;rfl
  | cons a l ih=>
   intro h
   simp only [List.find?_cons]
   rw [h a (by simp),ih (fun nd hn=>h nd (by simp [hn]))]
 unfold mI
 rw [key l h,key l.reverse (fun nd hn=>h nd (by simpa using hn))]
theorem EH (d:GDesk)(ties values:List Int)(hf:FitD d)(ht:ties.length≤1048576)(hv:values.length≤1048576):ke d ties values=some (sC d ties values 5 (tV d ties)):=by
 unfold ke sC
 rw [HX d ties values hf ht hv]
 simp only [obnd]
 by_cases h0:br d ties values=0
 ·obtain ⟨g1,_,g3,_⟩:=rS h0
  have hM:=mv (pI g1) g3
  rw [if_pos h0,if_pos h0]
  simp only [if_true]
  rw [GU d _ _ hf hM]
  have hc:mI d.lazy (decL d.show_ (endX d.show_ d.state ties)) (fun nd=>!decide ((-1:Int)∈nd) && bz (win d.show_) d.show_ (endX d.show_ d.state ties) nd)=tV d ties:=by
   refine HY ?_
   intro nd hnd
   have:¬ (-1:Int)∈nd:=by
    intro hm
    obtain ⟨i,_,e,_⟩:=nF ((dL hM.right hnd).2.2 _ hm)
    omega
   rw [decide_eq_false this];rfl
  rw [hc]
  cases hpk:tV d ties with
  | none=>
   simp only [Bool.false_eq_true,if_false]
   rw [vl d hf]
  | some nd=>
   simp only [if_true]
   rw [GT d ties values nd hf ht h0 (wN hpk).1]
 ·rw [if_neg h0,if_neg h0]
  simp only
  rw [if_neg h0,vl d hf]
theorem Nk (d:GDesk)(ties values:List Int)(refused:Int)(c:Option (List Int))(hf:FitD d)(ht:ties.length≤1048576)(hc:br d ties values=0→∀ nd,c=some nd→nd∈decL d.show_ (endX d.show_ d.state ties)) :
  FitD (sC d ties values refused c).1∧(sC d ties values refused c).2.1.length≤7:=by
 unfold sC
 by_cases h0:br d ties values=0
 ·rw [if_pos h0]
  cases c with
  | none=>exact ⟨hf,by simp⟩
  | some nd=>
   obtain ⟨g1,hp,g3,_⟩:=rS h0
   have hx:=pI g1
   have hR:=bA hx
   have hM:=mv hx g3
   have hnd:=hc h0 nd rfl
   obtain ⟨n1,n2,n3⟩:=dL hM.right hnd
   have hlog:(d.log.length:Int)=d.state.now:=by
    unfold na at g1
    simp only [Bool.and_eq_true,decide_eq_true_eq] at g1
    exact g1.1.1.2
   have hnow:=hR.now
   have hhor:=hR.right.hor
   have hln:=hM.len
   have h7:=hM.right.nodes
   have hv3:=(aS hR.val).1
   have hpl:=mZ d.show_ nd
   refine ⟨⟨hf.sh,⟨?_,?_⟩,?_,?_⟩,n2⟩
   ·show (aW _ _ _ _).length≤_
    rw [bZ];omega
   ·show (setV _ _ _ _).length≤_
    rw [oW]
    show d.state.values.length≤_
    omega
   ·show (d.log ++ [_]).length≤_
    rw [List.length_append];simp;omega
   ·intro e he
    have he':e∈d.log ++ [⟨d.state.now,ties,nd,litL values (aB d.show_ nd)⟩]:=he
    rw [List.mem_append,List.mem_singleton] at he'
    rcases he' with he' | rfl
    ·exact hf.entry e he'
    ·exact ⟨ht,by show nd.length≤_;omega,by show (litL _ _).length≤_;unfold litL;rw [List.length_map];omega⟩
 ·rw [if_neg h0]
  exact ⟨hf,by simp⟩
end Go.Proofs.YtghfphjfkdbpjaaGreatZ
set_option maxRecDepth 100000
namespace Go.Proofs.YtghfphjfkdbpjaaGreatZ
open Go
theorem uc (a:List Int)(h:a.length≤1048576):bp a a=some true:=by
 rw [nh a a (by unfold Cnt;omega),decide_eq_true rfl]
theorem GV (d:GDesk)(ties values:List Int)(b1:BdD d):gF d ties values=some true:=by
 unfold gF
 by_cases ht:1048576 < ((ties.length:Nat):Int)
 ·rw [if_pos ht]
 rw [if_neg ht]
 by_cases hv:1048576 < ((values.length:Nat):Int)
 ·rw [if_pos hv]
 rw [if_neg hv]
 obtain ⟨r1,e1,h1⟩:=MU (l:=1048576) (by omega) (by omega) b1
 rw [e1];simp only [obnd]
 rcases h1 with h1 | ⟨hf,h1,h1'⟩
 ·rw [if_pos h1]
 rw [if_neg (by omega),MT d hf];simp only
 rw [lF ties (by omega)];simp only
 rw [lF values (by omega)];simp only
 rw [EH d ties values hf (by omega) (by omega)];simp only
 rw [EG d ties values hf (by omega) (by omega)];simp only
 obtain ⟨f1,f2⟩:=Nk d ties values 5 (tV d ties) hf (by omega) (fun h0 nd h=>(wN h).1)
 generalize sC d ties values 5 (tV d ties)=p at f1 f2 ⊢
 obtain ⟨g,l,c⟩:=p
 simp only at f1 f2 ⊢
 rw [yG g f1];simp only [if_true]
 rw [uc l (by omega)];simp only [if_true]
 rw [yG d hf];simp only [if_true]
 rw [uc ties (by omega)];simp only [if_true]
 rw [uc values (by omega)];simp only [if_true]
 obtain ⟨q0,m0,m1,m2,_⟩:=uJ d hf
 rw [m0];simp only
 rw [eR ties _ (by omega) m1 (by omega)];simp only
 rw [eR values _ (by omega) (by omega) (by omega)];simp only
 rw [if_neg (by omega)]
 obtain ⟨q,n0,n1,n2,n3,n4,n5,n6,n7,n8⟩:=uJ g f1
 rw [n0];simp only
 rw [eR l _ (by omega) n1 (by omega)];simp only
 rw [am (by omega),am (by omega),am (by omega),am (by omega),am (by omega),List.take_of_length_le (by omega),List.take_of_length_le (by omega),List.take_of_length_le (by omega),List.take_of_length_le (by omega),List.take_of_length_le (by omega),n8]
 simp only
 rw [if_neg (by omega),am (by rw [kq];exact Nat.le_refl _),List.take_of_length_le (by rw [kq];exact Nat.le_refl _),kw _ _ (by omega) n1 (by omega)]
 simp only
 rw [if_neg (by omega)]
 simp only [if_true]
 rw [if_neg (by omega)]
 rw [if_neg (by omega)]
end Go.Proofs.YtghfphjfkdbpjaaGreatZ
set_option maxRecDepth 100000
set_option maxHeartbeats 1000000
namespace Go.Proofs.YtghfphjfkdbpjaaGreatZ
open Go
end Go.Proofs.YtghfphjfkdbpjaaGreatZ
set_option maxRecDepth 100000
set_option maxHeartbeats 1000000
namespace Go.Proofs.YtghfphjfkdbpjaaGreatZ
open Go
end Go.Proofs.YtghfphjfkdbpjaaGreatZ
