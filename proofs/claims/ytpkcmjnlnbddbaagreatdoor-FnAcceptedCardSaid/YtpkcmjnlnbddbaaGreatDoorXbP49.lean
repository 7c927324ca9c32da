/- The reference's game reckons winning too. Own work. -/
import Derived.Test.YtpkcmjnlnbddbaaGreatDoorXbP33
import Derived.Test.YtpkcmjnlnbddbaaGreatDoorXbP24
import Derived.Lib.AtoiAllCases
import Derived.Lib.IndexBytes
set_option linter.all false
set_option maxRecDepth 100000
namespace Go.Proofs.Qb
open Go
abbrev RecS:=GShow→GState→Option Bool
def wy (s:GShow)(t:Int)(rec:RecS):Prop:=∀ x,aD s x=true→x.now=t→rec s x=some (win s x)
theorem Et {s:GShow}(hs:aX s){rec:RecS}{y:GState}(hr:wy s (y.now+1) rec)(h:MomR s y){nodes:List Int}(hn:nodes∈decL s y):jC rec s y nodes=some (cg (win s) s y nodes):=by
 obtain ⟨ha,hl7,hm⟩:=fV h.right hn
 have hv:=(bh h.val).1
 have h7:=h.right.nodes
 have hln:=h.len
 have hnow:=h.now
 have hh:=h.right.hor
 have hp:∀ p,p∈aE s nodes→1≤p∧p≤3:=fun p hp=>⟨(bw hp).1,(bw hp).2.1⟩
 have hl3:=pg s nodes
 have ho:=Hd (ps:=aE s nodes) (by omega)
 unfold jC
 rw [GY hs h hl7 hm]
 simp only [obnd]
 rw [vt (tb s nodes) hp hl3]
 simp only
 have key:=lN (body:=iO rec (((obsL (aE s nodes)).length:Nat):Int) s.nodes s.ties s.horizon (decX y nodes).now (decX y nodes).times (decX y nodes).values (aE s nodes) (obsL (aE s nodes)))
  (obsL (aE s nodes)) (fun vs=>win s (obsX (decX y nodes) (aE s nodes) vs)) (fun i=>(i:Int)) (rT:=.inl ()) (rF:=.inr false) ?_ ?_ ?_
 ·rw [show ((0:Nat):Int)=0 from rfl] at key
  rw [key]
  unfold cg
  cases (obsL (aE s nodes)).all (fun vs=>win s (obsX (decX y nodes) (aE s nodes) vs)) <;> rfl
 all_goals first
  | (
   intro i hi hq
   obtain ⟨h1,h2⟩:=rU (List.getElem_mem hi)
   have hob:=ua h hm h1 h2
   have e:=hr _ hob rfl
   unfold iO
   try simp only
   rw [if_pos (by omega),ay hi]
   simp only [obnd]
   rw [show (GState.mk (decX y nodes).now (decX y nodes).times (decX y nodes).values)=decX y nodes from rfl,(qR (decX y nodes) (aE s nodes) _ (by show 0≤y.now∧y.now≤1000;omega) (by show (bn _ _ _ _).length≤_;rw [dh];omega) hv hp h1 (by omega)).2]
   simp only
   rw [show (GShow.mk s.nodes s.ties s.horizon)=s from rfl,e,hq]
   first | rfl | (simp only [if_true];rw [wr (by omega) (by omega)];rfl))
  | (
   unfold iO
   try simp only
   rw [if_neg (by omega)])
theorem No {s:GShow}(hs:aX s){rec:RecS}{y:GState}(hr:wy s (y.now+1) rec)(h:MomR s y):kg rec s y=some (anyB (win s) s y):=by
 have h7:=xM h.right y
 have hpow:=qP h7
 have hpos:0<2^(enL s y).length:=Nat.pow_pos (by omega)
 unfold kg
 rw [EO hs h]
 simp only [obnd]
 rw [wru (by omega),ah (by omega),Int.toNat_natCast,oc h7,wr (by omega) (by omega)]
 have hlen:(decL s y).length=2^(enL s y).length:=by unfold decL;simp
 have hget:∀ j (hj:j<(decL s y).length),(decL s y)[j]=oz s y j:=by
  intro j hj
  have:(decL s y)[j]?=some (oz s y j):=by
   unfold decL
   rw [List.getElem?_map,List.getElem?_range (by omega)];rfl
  rw [List.getElem?_eq_getElem hj] at this
  exact Option.some.inj this
 have key:=gV (body:=gH rec s.nodes s.ties s.horizon y.now y.times y.values (enL s y)) (decL s y) (cg (win s) s y) (fun j=>((2^(enL s y).length:Nat):Int) - 1 - (j:Int)) (rT:=.inl ()) (fun _=>.inr true) ?_ ?_ ?_
 ·simp only [Int.natCast_zero,Int.sub_zero] at key
  rw [key]
  unfold anyB
  have hany:(decL s y).any (cg (win s) s y)=((decL s y).findIdx? (cg (win s) s y)).isSome:=(List.findIdx?_isSome).symm
  rw [hany]
  cases (decL s y).findIdx? (cg (win s) s y) <;> rfl
 ·intro j hj hq
  have hmem:=List.getElem_mem hj
  have e:=Et hs hr h hmem
  rw [hget j hj] at e hq
  have hd:oz s y j=sel (bV (((2^(enL s y).length:Nat):Int) - 1 - (j:Int))) (enL s y) (enL s y).length:=by
   unfold oz
   rw [show ((2^(enL s y).length - 1 - j:Nat):Int)=((2^(enL s y).length:Nat):Int) - 1 - (j:Int) by omega]
  unfold gH
  try simp only
  rw [if_pos (by omega),uH _ _ (by omega),← hd]
  simp only [obnd]
  rw [show (GShow.mk s.nodes s.ties s.horizon)=s from rfl,show (GState.mk y.now y.times y.values)=y from rfl,e,hq]
  simp only [Bool.false_eq_true,if_false]
  rw [wr (by omega) (by omega)]
  congr 2
  omega
 ·intro j hj hq
  have hmem:=List.getElem_mem hj
  have e:=Et hs hr h hmem
  rw [hget j hj] at e hq
  have hd:oz s y j=sel (bV (((2^(enL s y).length:Nat):Int) - 1 - (j:Int))) (enL s y) (enL s y).length:=by
   unfold oz
   rw [show ((2^(enL s y).length - 1 - j:Nat):Int)=((2^(enL s y).length:Nat):Int) - 1 - (j:Int) by omega]
  unfold gH
  try simp only
  rw [if_pos (by omega),uH _ _ (by omega),← hd]
  simp only [obnd]
  rw [show (GShow.mk s.nodes s.ties s.horizon)=s from rfl,show (GState.mk y.now y.times y.values)=y from rfl,e,hq]
  rfl
 ·unfold gH
  try simp only
  rw [if_neg (by omega)]
theorem EQ {s:GShow}(hs:aX s){rec:RecS}{x:GState}(hx:aD s x=true)(hr:wy s (x.now+1) rec):kh rec s x=some (win s x):=by
 have hR:=bb hx
 have hv:=(bh hR.val).1
 have h6:=qF hR.ok x
 have hmm:=qG s x
 have hpow:=qP (m:=(mayL s x).length) (by omega)
 unfold kh
 rw [Hc hs hR]
 simp only [obnd]
 have hw:=ww hx
 unfold jq at hw
 cases hb:ca s x
 ·rw [hb] at hw
  simp only [Bool.false_eq_true,if_false] at hw ⊢
  rw [Kr hs hR]
  simp only
  cases ho:fD s x
  ·rw [ho] at hw
   simp only [Bool.false_eq_true,if_false] at hw ⊢
   obtain ⟨b,eb,hbw⟩:=Iv hs hx
   rw [eb]
   simp only
   cases b
   ·simp only [Bool.false_eq_true,if_false]
    rw [EN hx]
    simp only
    have hh:x.now≤s.horizon:=by
     unfold ca at hb
     rw [Bool.or_eq_false_iff,ho] at hb
     have:=hb.2
     simp only [Bool.not_false,Bool.and_true,decide_eq_false_iff_not] at this
     omega
    have hends:bu s x=(List.range (2^(mayL s x).length)).map (lR s x):=by unfold bu;rw [if_neg (by omega)]
    have hlen:(bu s x).length=2^(mayL s x).length:=by rw [hends];simp
    have hget:∀ j (hj:j<(bu s x).length),(bu s x)[j]=lR s x j:=by
     intro j hj
     have:(bu s x)[j]?=some (lR s x j):=by
      rw [hends,List.getElem?_map,List.getElem?_range (by omega)];rfl
     rw [List.getElem?_eq_getElem hj] at this
     exact Option.some.inj this
    have step:∀ j (hj:j<(bu s x).length),gI rec s.nodes s.ties s.horizon x.now x.times x.values (fb s x) (mayL s x) (j:Int)=(if anyB (win s) s (endX s x (bu s x)[j])=true then some (.next ((j:Int)+1)) else some (.done (.inr false))):=by
     intro j hj
     have hmem:=List.getElem_mem hj
     obtain ⟨a1,a2,a3⟩:=lS hR.ok hmem
     have hM:=lv hx hmem
     have e:=No hs (y:=endX s x (bu s x)[j]) hr hM
     obtain ⟨f1,f2,f3,f4,f5,f6⟩:=qO hR.ok x j
     rw [hget j hj] at e a2 a3 ⊢
     unfold gI
     try simp only
     rw [wru (by omega),ah (by omega),Int.toNat_natCast,oc (by omega),if_pos (by omega),uH _ _ (by omega)]
     simp only [obnd]
     rw [f2]
     simp only
     rw [show (GShow.mk s.nodes s.ties s.horizon)=s from rfl,show (GState.mk x.now x.times x.values)=x from rfl,LM hx (by omega) (by omega) a3]
     simp only
     rw [e]
     simp only
     rw [wr (by omega) (by omega)]
    have key:=lN (body:=gI rec s.nodes s.ties s.horizon x.now x.times x.values (fb s x) (mayL s x)) (bu s x) (fun ties=>anyB (win s) s (endX s x ties)) (fun i=>(i:Int)) (rT:=.inl ()) (rF:=.inr false) ?_ ?_ ?_
    ·rw [show ((0:Nat):Int)=0 from rfl] at key
     rw [key,hw]
     cases (bu s x).all (fun ties=>anyB (win s) s (endX s x ties)) <;> rfl
    ·intro i hi hq
     rw [step i hi,hq];rfl
    ·intro i hi hq
     rw [step i hi,hq];rfl
    ·unfold gI
     try simp only
     rw [wru (by omega),ah (by omega),Int.toNat_natCast,oc (by omega),if_neg (by omega)]
   ·simp only [if_true]
    rw [hbw rfl]
  ·rw [ho] at hw
   rw [hw];rfl
 ·rw [hb] at hw
  rw [hw];rfl
theorem vf {s:GShow}(hs:aX s):∀ (n:Nat) (t:Int),12≤(n:Int)+t→wy s t (ki n)
 | 0,t,h=>by
  intro x hx ht
  have:=(bb hx).now
  have:=(bb hx).right.hor
  omega
 | n+1,t,h=>by
  intro x hx ht
  exact EQ hs hx (by rw [ht];exact vf hs n (t+1) (by omega))
theorem Iw {s:GShow}(hs:aX s)(t:Int)(h:0≤t):wy s t m_spec_l15Win:=vf hs 40 t (by omega)
end Go.Proofs.Qb
set_option maxRecDepth 100000
namespace Go.Proofs.Qb
open Go
theorem Dm {α:Type}{l:List α}{n:Nat}{x:α}(h:n<l.length):(l.set n x).take (n+1)=l.take n++[x]:=by
 have e:(l.set n x).take n=l.take n:=by
  apply List.ext_getElem?
  intro i
  rw [List.getElem?_take,List.getElem?_take]
  split
  ·rw [List.getElem?_set_ne (by omega)]
  ·rfl
 rw [eo (by simp;exact h),e]
 simp
theorem Ku {α:Type}{xs ys:List α}{i:Nat}(h:i+ys.length≤xs.length):(putL xs i ys).take i=xs.take i:=by
 unfold putL
 rw [if_pos h,List.append_assoc,List.take_append_of_le_length (by rw [List.length_take];omega),List.take_take]
 simp
theorem Kv {α β ρ:Type}(xs:List α)(q:α→Bool)(I:β→Prop)(body:Int × β→Option (Step (Int × β) ρ))(rT:β→ρ)(rF:Int→β→ρ)
  (h1:∀ i (hi:i<xs.length) k,I k→∃ k',I k'∧body ((i:Int),k)=some (if q xs[i]=true then .done (rF (i:Int) k') else .next ((i:Int)+1,k')))
  (h2:∀ k,I k→body ((xs.length:Int),k)=some (.done (rT k))) (k:β) (hk:I k) :
  ∃ k',I k'∧ak body (0,k)=some (if 0≤aK xs q then rF (aK xs q) k' else rT k'):=by
 have key:=bk (body:=body) (s0:=((0:Int),k)) xs.length (fun i st=>st.1=(i:Int)∧I st.2∧∀ j (hj:j<xs.length),j<i→q xs[j]=false)
  (fun r=>∃ k',I k'∧r=(if 0≤aK xs q then rF (aK xs q) k' else rT k')) ⟨rfl,hk,fun j _ h=>absurd h (by omega)⟩ ?_ ?_
 ·obtain ⟨r,hr,hp⟩:=key
  obtain ⟨k',h3,rfl⟩:=hp
  exact ⟨k',h3,hr⟩
 ·rintro i ⟨a,k⟩ hi ⟨rfl,hI,hall⟩
  obtain ⟨k',hk',hb⟩:=h1 i hi k hI
  cases hq:q xs[i]
  ·rw [hq,if_neg (by simp)] at hb
   refine .inl ⟨_,hb,rfl,hk',fun j hj hlt=>?_⟩
   rcases Nat.lt_or_ge j i with h | h
   ·exact hall j hj h
   ·obtain rfl:j=i:=by omega
    exact hq
  ·rw [hq,if_pos rfl] at hb
   refine .inr ⟨_,hb,k',hk',?_⟩
   have:aK xs q=(i:Int):=by
    unfold aK
    have:xs.findIdx? q=some i:=by
     rw [List.findIdx?_eq_some_iff_getElem]
     exact ⟨hi,hq,fun j hj=>by simp [hall j (by omega) hj]⟩
    rw [this]
   rw [this,if_pos (by omega)]
 ·rintro ⟨a,k⟩ ⟨rfl,hI,hall⟩
  refine ⟨_,h2 k hI,k,hI,?_⟩
  rw [if_neg]
  intro h0
  obtain ⟨j,hj,_,hq,_⟩:=fR h0
  rw [hall j hj hj] at hq
  cases hq
theorem wz {α:Type}{xs:List α}{q:α→Bool}(h:¬ 0≤aK xs q):aK xs q=-1∧xs.any q=false:=by
 constructor
 ·unfold aK at h ⊢
  cases hf:xs.findIdx? q with
  | none=>rfl
  | some j=>rw [hf] at h;simp at h
 ·rw [← ja];exact decide_eq_false h
section
variable {s:GShow} {y:GState}
theorem NU (hs:aX s)(h:MomR s y){nodes:List Int}(hn:nodes∈decL s y){known:List (ByteArray × Bool)}(hk:cn s known) :
  ∃ known',cn s known'∧eh nodes s known y=some (!cg (win s) s y nodes,known'):=by
 obtain ⟨k',hk',e⟩:=zu (Dl hs _ (by have:=h.now;omega)) h hn hk
 refine ⟨k',hk',?_⟩
 unfold eh mP
 rw [e];rfl
theorem Dn (hs:aX s)(h:MomR s y)(xs:List (List Int))(hx:∀ nd,nd∈xs→nd∈decL s y)(hl:xs.length≤128){known:List (ByteArray × Bool)}(hk:cn s known) :
  ∃ known',cn s known'∧bj xs s known y=some (aK xs (fun nd=>!cg (win s) s y nd),xs,known'):=by
 unfold bj
 have key:=Kv xs (fun nd=>!cg (win s) s y nd) (cn s) (bc ((xs.length:Nat):Int) xs s.nodes s.ties s.horizon y.now y.times y.values)
  (fun k=>.inl k) (fun i k=>.inr (i,xs,k)) ?_ ?_ known hk
 ·obtain ⟨k',hk',e⟩:=key
  rw [e]
  refine ⟨k',hk',?_⟩
  simp only [obnd]
  by_cases h0:0≤aK xs (fun nd=>!cg (win s) s y nd)
  ·rw [if_pos h0]
  ·rw [if_neg h0,(wz h0).1]
 ·intro i hi k hk
  obtain ⟨k',hk',e⟩:=NU hs h (hx _ (List.getElem_mem hi)) hk
  refine ⟨k',hk',?_⟩
  unfold bc
  try simp only
  rw [if_pos (by omega),ay hi]
  simp only [obnd]
  rw [show (GShow.mk s.nodes s.ties s.horizon)=s from rfl,show (GState.mk y.now y.times y.values)=y from rfl,e]
  simp only
  rw [wr (by omega) (by omega)]
  cases cg (win s) s y xs[i] <;> rfl
 ·intro k _
  unfold bc
  try simp only
  rw [if_neg (by omega)]
theorem BV (hs:aX s)(h:MomR s y)(xs:List (List Int))(hx:∀ nd,nd∈xs→nd∈decL s y)(hl:xs.length≤128){known:List (ByteArray × Bool)}(hk:cn s known) :
  ∃ known',cn s known'∧bi xs s known y=some (xs.filter (fun nd=>cg (win s) s y nd),known'):=by
 obtain ⟨k1,hk1,e1⟩:=Dn hs h xs hx hl hk
 have hfn:xs.filter (fun nd=>cg (win s) s y nd)=xs.filter (fun nd=>!(!cg (win s) s y nd)):=by simp
 rw [hfn]
 unfold bi
 rw [e1]
 simp only [obnd]
 generalize hq':(fun nd=>!cg (win s) s y nd)=q at *
 have hq:∀ nd,q nd=!cg (win s) s y nd:=fun nd=>by rw [← hq']
 have hff:(fun nd=>!(!cg (win s) s y nd))=(fun x=>!q x):=by funext nd;rw [hq]
 rw [hff]
 by_cases h0:0≤aK xs q
 ·obtain ⟨i0,hi0,he,hq0,hno⟩:=fR h0
  rw [he,if_neg (by omega),wr (x:=(i0:Int)+1) (by omega) (by omega)]
  have htake:(xs.take i0).filter (fun x=>!q x)=xs.take i0:=by
   rw [List.filter_eq_self]
   intro x hm
   obtain ⟨j,hj,rfl⟩:=List.getElem_of_mem hm
   rw [List.length_take] at hj
   rw [List.getElem_take,hno j (by omega)];rfl
  have inv:∃ r,ak (aY xs.length s.nodes s.ties s.horizon y.now y.times y.values) ((i0:Int),(i0:Int)+1,xs,k1)=some r∧(r.1=(((xs.filter (fun x=>!q x)).length:Nat):Int)∧r.2.1.length=xs.length∧r.2.1.take (xs.filter (fun x=>!q x)).length=xs.filter (fun x=>!q x)∧cn s r.2.2):=by
   refine bk (xs.length - (i0+1)) (fun (k:Nat) (s':Int × Int × List (List Int) × List (ByteArray × Bool))=>s'.2.1=((i0+1+k:Nat):Int)∧s'.1=((((xs.take (i0+1+k)).filter (fun x=>!q x)).length:Nat):Int)∧s'.2.2.1.length=xs.length ∧
    s'.2.2.1.take ((xs.take (i0+1+k)).filter (fun x=>!q x)).length=(xs.take (i0+1+k)).filter (fun x=>!q x)∧(∀ j,i0+1+k≤j→s'.2.2.1[j]?=xs[j]?)∧((xs.take (i0+1+k)).filter (fun x=>!q x)).length<i0+1+k∧cn s s'.2.2.2) _ ?_ ?_ ?_
   ·have e1:(xs.take (i0+1)).filter (fun x=>!q x)=xs.take i0:=by
     rw [eo hi0,List.filter_append,htake]
     simp [hq0]
    have hl:(xs.take i0).length=i0:=by rw [List.length_take];omega
    refine ⟨by simp only;omega,?_,rfl,?_,fun _ _=>rfl,?_,hk1⟩
    ·simp only [Nat.add_zero];rw [e1,hl]
    ·simp only [Nat.add_zero];rw [e1,hl]
    ·simp only [Nat.add_zero];rw [e1,hl];omega
   ·rintro k ⟨v5,v6,v0,kn⟩ hk ⟨h1,h2,h3,h4,h5,h6,h7⟩
    simp only at h1 h2 h3 h4 h5 h6 h7
    have hj:i0+1+k<xs.length:=by omega
    have hg:getI v0 v6=some xs[i0+1+k]:=by
     unfold getI
     rw [h1,if_pos (by omega),Int.toNat_natCast,h5 _ (Nat.le_refl _),List.getElem?_eq_getElem hj]
    obtain ⟨kn',hkn',ec⟩:=NU hs h (hx _ (List.getElem_mem hj)) h7
    left
    unfold aY
    simp only
    rw [if_pos (by omega),ah (by omega),hg,wr (x:=v6+1) (by omega) (by omega)]
    simp only [obnd]
    rw [show (GShow.mk s.nodes s.ties s.horizon)=s from rfl,show (GState.mk y.now y.times y.values)=y from rfl,ec,← hq]
    simp only
    cases hqq:q xs[i0+1+k]
    ·have e2:(xs.take (i0+1+(k+1))).filter (fun x=>!q x)=(xs.take (i0+1+k)).filter (fun x=>!q x)++[xs[i0+1+k]]:=by
      rw [show i0+1+(k+1)=i0+1+k+1 by omega,eo hj,List.filter_append]
      simp [hqq]
     have hv5:getI v0 v5=some v0[((xs.take (i0+1+k)).filter (fun x=>!q x)).length]:=by rw [h2,ay (by omega)]
     rw [if_neg (by simp),ah (by omega),hv5,wr (x:=v5+1) (by omega) (by omega)]
     refine ⟨_,rfl,by simp only;omega,?_,?_,?_,?_,?_,hkn'⟩
     ·simp only;rw [e2,List.length_append,h2];simp
     ·simp only [List.length_set];exact h3
     ·simp only;rw [e2,List.length_append,h2,Int.toNat_natCast]
      simp only [List.length_cons,List.length_nil,Nat.zero_add]
      rw [Dm (by omega),h4]
     ·intro j hj'
      simp only
      rw [h2,Int.toNat_natCast,List.getElem?_set_ne (by omega)]
      exact h5 j (by omega)
     ·rw [e2,List.length_append];simp;omega
    ·have e2:(xs.take (i0+1+(k+1))).filter (fun x=>!q x)=(xs.take (i0+1+k)).filter (fun x=>!q x):=by
      rw [show i0+1+(k+1)=i0+1+k+1 by omega,eo hj,List.filter_append]
      simp [hqq]
     rw [if_pos rfl]
     refine ⟨_,rfl,by simp only;omega,?_,h3,?_,fun j hj'=>h5 j (by omega),?_,hkn'⟩
     ·simp only;rw [e2];exact h2
     ·simp only;rw [e2];exact h4
     ·rw [e2];omega
   ·rintro ⟨v5,v6,v0,kn⟩ ⟨h1,h2,h3,h4,h5,h6,h7⟩
    simp only at h1 h2 h3 h4 h7
    have hall:i0+1+(xs.length - (i0+1))=xs.length:=by omega
    rw [hall] at h1 h2 h4
    rw [List.take_length] at h2 h4
    unfold aY
    simp only
    rw [if_neg (by omega)]
    exact ⟨_,rfl,h2,h3,h4,h7⟩
  obtain ⟨⟨v5,v0,kn⟩,hr,h1,h2,h3,h4⟩:=inv
  rw [hr]
  simp only at h1 h2 h3 h4 ⊢
  have hle:=List.length_filter_le (fun x=>!q x) xs
  subst h1
  simp only [Int.toNat_natCast]
  rw [ah (by omega),ah (by omega),ah (by omega),ah (by omega),ah (by rw [zj];omega),ah (by omega),Ku (by rw [List.length_replicate];omega),h3]
  exact ⟨kn,h4,rfl⟩
 ·obtain ⟨h2,h1⟩:=wz h0
  rw [if_pos h2,ah (Nat.le_refl _),List.take_length]
  refine ⟨k1,hk1,?_⟩
  congr 2
  symm
  rw [List.filter_eq_self]
  intro x hm
  rw [List.any_eq_false] at h1
  have:=h1 x hm
  cases hqx:q x
  ·rfl
  ·exact absurd hqx this
theorem Np (hs:aX s)(h:MomR s y){known:List (ByteArray × Bool)}(hk:cn s known) :
  ∃ known',cn s known'∧jI s known y=some ((decL s y).filter (cg (win s) s y),known'):=by
 obtain ⟨k',hk',e⟩:=BV hs h (decL s y) (fun _ h=>h) (uO h.right y) hk
 refine ⟨k',hk',?_⟩
 unfold jI
 rw [sF hs h]
 simp only [obnd]
 rw [e]
end
def rV (lazy:Bool)(l:List (List Int))(p:List Int→Bool):Option (List Int):=if lazy=true then l.reverse.find? p else l.find? p
theorem Nq (l:List (List Int))(p:List Int→Bool)(lazy:Bool)(hl:l.length≤128) :
  mQ (l.filter p) lazy=some (match rV lazy l p with | some nd=>(nd,true) | none=>([],false)):=by
 have hle:=List.length_filter_le p l
 unfold mQ rV
 have e1:l.find? p=(l.filter p).head?:=(List.head?_filter).symm
 have e2:l.reverse.find? p=(l.filter p).getLast?:=by rw [← List.head?_filter,List.filter_reverse,List.head?_reverse]
 rw [e1,e2]
 generalize l.filter p=m at *
 by_cases h0:m=[]
 ·subst h0
  rw [if_pos (by simp)]
  cases lazy <;> rfl
 ·have hpos:0<m.length:=List.length_pos_iff.2 h0
  rw [if_neg (by omega)]
  cases lazy
  ·simp only [Bool.false_eq_true,if_false]
   have:getI m ((0:Nat):Int)=some m[0]:=ay hpos
   rw [show ((0:Nat):Int)=0 from rfl] at this
   rw [this,List.head?_eq_getElem?,List.getElem?_eq_getElem hpos];rfl
  ·simp only [if_true]
   rw [wr (by omega) (by omega),show ((m.length:Nat):Int) - 1=((m.length - 1:Nat):Int) by omega,ay (by omega),List.getLast?_eq_getElem?,List.getElem?_eq_getElem (by omega)];rfl
end Go.Proofs.Qb
set_option maxRecDepth 100000
namespace Go.Proofs.Qb
open Go
theorem Kw (log:List am)(hl:log.length≤1048576)(he:∀ e,e∈log→FitE e):lg log=some log:=by
 unfold lg
 have key:ak (iP log ((log.length:Nat):Int)) (((0:Nat):Int),log.take 0)=some log:=by
  refine aN log.length (fun i=>((i:Int),log.take i)) ?_ ?_
  ·intro i hi
   have hf:=he _ (List.getElem_mem hi)
   unfold iP
   try simp only
   rw [if_pos (by omega),ay hi]
   simp only [obnd]
   rw [eu _ hf.ties,eu _ hf.nodes,eu _ hf.values]
   simp only
   rw [ah (by rw [List.length_take];omega),ah (by rw [List.length_take];omega),wr (by omega) (by omega),List.take_succ_eq_append_getElem hi];rfl
  ·unfold iP
   try simp only
   rw [if_neg (by omega),List.take_length]
 simp only [Int.natCast_zero,List.take_zero] at key
 rw [key];rfl
theorem zw (d:GDesk)(h:FitD d):iv d=some d:=by
 unfold iv
 rw [zm _ h.sh]
 simp only [obnd]
 rw [qg _ h.st.times h.st.values]
 simp only
 rw [Kw _ h.log h.entry]
def pmB (values:List Int):Bool:=decide (values.length=3)&&values.all (fun v=>decide (v=1) || decide (v=-1))
noncomputable def cR (d:GDesk)(ties values:List Int):Int:=
 if gq d=true then (if pmB values=true then (if ca d.show_ d.state=true then 2 else if fD d.show_ d.state=true then 2 else if d.show_.horizon<d.state.now then 2 else if ties∈bu d.show_ d.state then 0 else 3) else 1) else 1
def dq (values ps:List Int):List Int:=ps.map (fun p=>tm values (p - 1))
def litL (values ps:List Int):List Int:=ps.map (fun p=>p*tm values (p - 1))
noncomputable def finD (d:GDesk)(ties values nodes:List Int):GDesk:=
 ⟨d.show_,obsX (decX (endX d.show_ d.state ties) nodes) (aE d.show_ nodes) (dq values (aE d.show_ nodes)),d.lazy,d.log++[⟨d.state.now,ties,nodes,litL values (aE d.show_ nodes)⟩]⟩
noncomputable def oB (d:GDesk)(ties values:List Int)(refused:Int)(c:Option (List Int)):GDesk × List Int × Int:=
 if cR d ties values=0 then (match c with | some nd=>(finD d ties values nd,nd,0) | none=>(d,[],refused)) else (d,[],cR d ties values)
theorem lJ {d:GDesk}(h:gq d=true):aD d.show_ d.state=true:=by
 unfold gq at h
 simp only [Bool.and_eq_true] at h
 exact h.1.1.1
theorem lK {d:GDesk}{ties values:List Int}(h:cR d ties values=0):gq d=true∧pmB values=true∧ties∈bu d.show_ d.state∧ca d.show_ d.state=false∧fD d.show_ d.state=false∧¬ d.show_.horizon<d.state.now:=by
 unfold cR at h
 split at h
 ·rename_i h1
  split at h
  ·rename_i h2
   split at h
   ·omega
   ·rename_i h3
    split at h
    ·omega
    ·rename_i h4
     split at h
     ·omega
     ·rename_i h5
      split at h
      ·rename_i h6
       exact ⟨h1,h2,h6,by simpa using h3,by simpa using h4,h5⟩
      ·omega
  ·omega
 ·omega
theorem Nr {values:List Int}(h:pmB values=true):values.length=3∧∀ v,v∈values→v=1∨v=-1:=by
 unfold pmB at h
 rw [Bool.and_eq_true,decide_eq_true_eq,List.all_eq_true] at h
 exact ⟨h.1,fun v hv=>by have:=h.2 v hv;simpa using this⟩
theorem Kx {values:List Int}(h:pmB values=true){k:Int}(h0:0≤k)(h1:k<3):tm values k=1∨tm values k=-1:=by
 obtain ⟨h2,h3⟩:=Nr h
 unfold tm
 rw [List.getElem?_eq_getElem (show k.toNat<values.length by omega)]
 exact h3 _ (List.getElem_mem _)
theorem Ta {values:List Int}(h3:values.length=3):values.any (fun v=>!(decide (v=1) || decide (v=-1)))=!pmB values:=by
 unfold pmB
 rw [decide_eq_true h3,Bool.true_and,List.any_eq_not_all_not]
 simp
theorem Hl (v:Int):gm v=some (!(decide (v=1) || decide (v=-1))):=by
 unfold gm
 by_cases h:v=1
 ·rw [if_pos h,decide_eq_true h];rfl
 ·rw [if_neg h,decide_eq_false h]
  by_cases h2:v=-1
  ·rw [decide_eq_true h2,decide_eq_false (by simpa using h2)];rfl
  ·rw [decide_eq_false h2,decide_eq_true h2];rfl
theorem Ix {values ps:List Int}(hv:pmB values=true)(hp:∀ p,p∈ps→1≤p∧p≤3)(hl:ps.length≤3):kq ps (dq values ps)=some (litL values ps):=by
 unfold kq
 have key:ak (ik (dq values ps) ps ((ps.length:Nat):Int)) (((0:Nat):Int),litL values (ps.take 0))=some (litL values ps):=by
  refine aN ps.length (fun i=>((i:Int),litL values (ps.take i))) ?_ ?_
  ·intro i hi
   have hb:=hp _ (List.getElem_mem hi)
   have ht:=Kx hv (k:=ps[i] - 1) (by omega) (by omega)
   have hl1:(litL values (ps.take i)).length≤3:=by unfold litL;rw [List.length_map,List.length_take];omega
   have hsl:(dq values ps).length=ps.length:=by unfold dq;simp
   unfold ik
   try simp only
   rw [if_pos (by omega),ay hi,ay (show i<(dq values ps).length by omega)]
   simp only [obnd]
   have hs:(dq values ps)[i]'(by omega)=tm values (ps[i] - 1):=by unfold dq;simp
   rw [hs,ah (by omega),ah (by omega),wr (x:=(i:Int)+1) (by omega) (by omega),wr (x:=ps[i]*tm values (ps[i] - 1)) (by rcases ht with h | h <;> rw [h] <;> omega) (by rcases ht with h | h <;> rw [h] <;> omega)]
   congr 3
   unfold litL
   rw [List.take_succ_eq_append_getElem hi,List.map_append];rfl
  ·unfold ik
   try simp only
   rw [if_neg (by omega),List.take_length]
 simp only [Int.natCast_zero,List.take_zero] at key
 rw [show litL values []=[] from rfl] at key
 rw [key];rfl
theorem uQ {values ps:List Int}(hv:pmB values=true)(hp:∀ p,p∈ps→1≤p∧p≤3):(dq values ps).length=ps.length∧∀ v,v∈dq values ps→v=1∨v=-1:=by
 refine ⟨by unfold dq;simp,fun v hm=>?_⟩
 unfold dq at hm
 rw [List.mem_map] at hm
 obtain ⟨p,hpm,rfl⟩:=hm
 have:=hp p hpm
 exact Kx hv (by omega) (by omega)
theorem wA (d:GDesk)(ties values:List Int)(refused:Int)(d':GDesk)(hf:FitD d)(ht:ties.length≤1048576)(hvl:values.length≤1048576)(c:Option (List Int))(hmem:∀ nd,c=some nd→nd∈decL d.show_ (endX d.show_ d.state ties))
  (hc:cR d ties values=0→∃ r,ij d.show_ [] (endX d.show_ d.state ties) d'=some r∧r.2.1=c.isSome∧∀ nd,c=some nd→r.1=nd) :
  bN d ties values refused d'=some (oB d ties values refused c):=by
 have hs:=hf.sh.small
 have hlog:=hf.log
 have hg0:=@lK d ties values
 unfold oB
 unfold bN
 rw [zw d hf]
 simp only [obnd]
 rw [zp d hf]
 simp only
 cases hd:gq d
 ·have e:cR d ties values=1:=by unfold cR;rw [hd];rfl
  rw [e];rfl
 have hx:=lJ hd
 have hR:=bb hx
 simp only [if_true]
 by_cases h3:values.length=3
 rotate_left
 ·have e:cR d ties values=1:=by unfold cR pmB;rw [hd,decide_eq_false h3];rfl
  rw [if_neg (by omega),e];rfl
 rw [if_pos (by omega),jO values _ (fun v=>!(decide (v=1) || decide (v=-1))) (by unfold Cnt;omega) (fun v _=>Hl v),Ta h3]
 simp only
 cases hp:pmB values
 ·have e:cR d ties values=1:=by unfold cR;rw [hd,hp];rfl
  rw [e];rfl
 simp only [Bool.not_true,Bool.false_eq_true,if_false]
 rw [tv hs hR]
 simp only
 cases hb:ca d.show_ d.state
 rotate_left
 ·have e:cR d ties values=2:=by unfold cR;rw [hd,hp,hb];rfl
  rw [e];rfl
 simp only [Bool.false_eq_true,if_false]
 rw [rS hs hR]
 simp only
 cases ho:fD d.show_ d.state
 rotate_left
 ·have e:cR d ties values=2:=by unfold cR;rw [hd,hp,hb,ho];rfl
  rw [e];rfl
 simp only [Bool.false_eq_true,if_false]
 by_cases hh:d.show_.horizon<d.state.now
 ·have e:cR d ties values=2:=by unfold cR;rw [hd,hp,hb,ho,if_pos hh];rfl
  rw [if_pos hh,e];rfl
 rw [if_neg hh,uK hx]
 simp only
 have hel:=wo (x:=d.state) hR.ok
 rw [zH _ _ (by unfold Cnt;omega) (by unfold Cnt;omega)]
 simp only
 by_cases hm:ties∈bu d.show_ d.state
 rotate_left
 ·have e:cR d ties values=3:=by unfold cR;rw [hd,hp,hb,ho,if_neg hh,if_neg hm];rfl
  rw [decide_eq_false hm,e];rfl
 have e:cR d ties values=0:=by unfold cR;rw [hd,hp,hb,ho,if_neg hh,if_pos hm];rfl
 obtain ⟨a1,a2,a3⟩:=lS hR.ok hm
 have hM:=lv hx hm
 have hv3:=(bh hR.val).1
 rw [decide_eq_true hm,if_pos rfl,zI hx (by omega) (by omega) a3]
 simp only
 unfold jn
 simp only
 obtain ⟨r,e1,e2,e3⟩:=hc e
 rw [e1,e]
 simp only [if_true]
 rw [e2]
 cases c with
 | none=>rfl
 | some nd=>
  have hn:=hmem nd rfl
  obtain ⟨n1,n2,n3⟩:=fV hM.right hn
  have hps:∀ p,p∈aE d.show_ nd→1≤p∧p≤3:=fun p hp=>⟨(bw hp).1,(bw hp).2.1⟩
  have hpl:=pg d.show_ nd
  simp only [Option.isSome_some,if_true]
  rw [e3 nd rfl,uP hM n1 n2 n3]
  simp only
  have key:ak (bg ties values nd (((aE d.show_ nd).length:Nat):Int) d.show_.horizon d.state.now d.lazy d.state.now d.state.times d.state.values (decX (endX d.show_ d.state ties) nd).now d.show_.nodes d.show_.ties d.state.times d.state.values d.log (decX (endX d.show_ d.state ties) nd).times (decX (endX d.show_ d.state ties) nd).values (aE d.show_ nd)) (((0:Nat):Int),dq values ((aE d.show_ nd).take 0))=some (dq values (aE d.show_ nd)):=by
   refine aN (aE d.show_ nd).length (fun i=>((i:Int),dq values ((aE d.show_ nd).take i))) ?_ ?_
   ·intro i hi
    have hb:=hps _ (List.getElem_mem hi)
    have hsl:(dq values ((aE d.show_ nd).take i)).length≤3:=by unfold dq;rw [List.length_map,List.length_take];omega
    unfold bg
    try simp only
    rw [if_pos (by omega),ay hi]
    simp only [obnd]
    rw [wr (x:=(aE d.show_ nd)[i] - 1) (by omega) (by omega),bG (by omega) (by omega)]
    simp only
    rw [ah (by omega),ah (by omega),wr (by omega) (by omega)]
    congr 3
    unfold dq
    rw [List.take_succ_eq_append_getElem hi,List.map_append];rfl
   ·unfold bg
    try simp only
    rw [if_neg (by omega),List.take_length]
  simp only [Int.natCast_zero,List.take_zero] at key
  rw [show dq values []=[] from rfl] at key
  rw [key]
  simp only
  obtain ⟨s1,s2⟩:=uQ hp hps
  have hnow:=hR.now
  have hhor:=hR.right.hor
  have hln:=hM.len
  have h7:=hM.right.nodes
  rw [(qR (decX (endX d.show_ d.state ties) nd) (aE d.show_ nd) (dq values (aE d.show_ nd)) (by show 0≤d.state.now∧d.state.now≤1000;omega) (by show (bn _ _ _ _).length≤_;rw [dh];omega) hv3 hps s1 (by omega)).1]
  simp only
  rw [eu _ ht,eu _ (by omega),Ix hp hps hpl]
  simp only
  rw [ah (by omega),ah (by omega)]
  rfl
end Go.Proofs.Qb
set_option maxRecDepth 100000
namespace Go.Proofs.Qb
open Go
end Go.Proofs.Qb
set_option maxRecDepth 100000
namespace Go.Proofs.Qb
open Go
noncomputable def uR (d:GDesk)(ties:List Int):Option (List Int):=rV d.lazy (decL d.show_ (endX d.show_ d.state ties)) (cg (win d.show_) d.show_ (endX d.show_ d.state ties))
theorem ph {lazy:Bool}{l:List (List Int)}{p:List Int→Bool}{nd:List Int}(h:rV lazy l p=some nd):nd∈l∧p nd=true:=by
 unfold rV at h
 split at h
 ·exact ⟨by simpa using List.mem_of_find?_eq_some h,List.find?_some h⟩
 ·exact ⟨List.mem_of_find?_eq_some h,List.find?_some h⟩
theorem ER (d:GDesk)(ties values:List Int)(hf:FitD d)(ht:ties.length≤1048576)(hv:values.length≤1048576):kr d ties values=some (oB d ties values 5 (uR d ties)):=by
 have hs:=hf.sh.small
 unfold kr
 rw [wA d ties values 5 d hf ht hv (uR d ties) (fun nd h=>(ph h).1) ?_]
 ·rfl
 ·intro h0
  obtain ⟨g1,_,g3,_⟩:=lK h0
  have hM:=lv (lJ g1) g3
  have hl:=uO hM.right (endX d.show_ d.state ties)
  unfold ij uR
  cases hz:d.lazy
  ·simp only [Bool.false_eq_true,if_false]
   obtain ⟨k',_,e⟩:=BU hs (y:=endX d.show_ d.state ties) (Dl hs _ (by have:=hM.now;omega)) hM (wx d.show_)
   unfold nE
   rw [e]
   simp only [obnd]
   refine ⟨_,rfl,?_⟩
   unfold rV
   simp only [Bool.false_eq_true,if_false]
   cases (decL d.show_ (endX d.show_ d.state ties)).find? (cg (win d.show_) d.show_ (endX d.show_ d.state ties)) with
   | none=>exact ⟨rfl,fun nd h=>by cases h⟩
   | some nd=>exact ⟨rfl,fun nd' h=>by cases h;rfl⟩
  ·simp only [if_true]
   obtain ⟨k',_,e⟩:=Np hs hM (wx d.show_)
   rw [e]
   simp only [obnd]
   rw [Nq _ _ _ hl]
   simp only
   refine ⟨_,rfl,?_⟩
   cases rV true (decL d.show_ (endX d.show_ d.state ties)) (cg (win d.show_) d.show_ (endX d.show_ d.state ties)) with
   | none=>exact ⟨rfl,fun nd h=>by cases h⟩
   | some nd=>exact ⟨rfl,fun nd' h=>by cases h;rfl⟩
theorem LT (d:GDesk)(ties values:List Int)(refused:Int)(c:Option (List Int))(hf:FitD d)(ht:ties.length≤1048576)(hc:cR d ties values=0→∀ nd,c=some nd→nd∈decL d.show_ (endX d.show_ d.state ties)) :
  FitD (oB d ties values refused c).1∧(oB d ties values refused c).2.1.length≤7:=by
 unfold oB
 by_cases h0:cR d ties values=0
 ·rw [if_pos h0]
  cases c with
  | none=>exact ⟨hf,by simp⟩
  | some nd=>
   obtain ⟨g1,hp,g3,_⟩:=lK h0
   have hx:=lJ g1
   have hR:=bb hx
   have hM:=lv hx g3
   have hnd:=hc h0 nd rfl
   obtain ⟨n1,n2,n3⟩:=fV hM.right hnd
   have hlog:(d.log.length:Int)=d.state.now:=by
    unfold gq at g1
    simp only [Bool.and_eq_true,decide_eq_true_eq] at g1
    exact g1.1.1.2
   have hnow:=hR.now
   have hhor:=hR.right.hor
   have hln:=hM.len
   have h7:=hM.right.nodes
   have hv3:=(bh hR.val).1
   have hpl:=pg d.show_ nd
   refine ⟨⟨hf.sh,⟨?_,?_⟩,?_,?_⟩,n2⟩
   ·show (bn _ _ _ _).length≤_
    rw [dh];omega
   ·show (setV _ _ _ _).length≤_
    rw [mT]
    show d.state.values.length≤_
    omega
   ·show (d.log++[_]).length≤_
    rw [List.length_append];simp;omega
   ·intro e he
    have he':e∈d.log++[⟨d.state.now,ties,nd,litL values (aE d.show_ nd)⟩]:=he
    rw [List.mem_append,List.mem_singleton] at he'
    rcases he' with he' | rfl
    ·exact hf.entry e he'
    ·exact ⟨ht,by show nd.length≤_;omega,by show (litL _ _).length≤_;unfold litL;rw [List.length_map];omega⟩
 ·rw [if_neg h0]
  exact ⟨hf,by simp⟩
end Go.Proofs.Qb
set_option maxRecDepth 100000
namespace Go.Proofs.Qb
open Go
end Go.Proofs.Qb
set_option maxRecDepth 100000
set_option maxHeartbeats 1000000
namespace Go.Proofs.Qb
open Go
noncomputable def bo (c:GChoice)(d:GDesk):GDesk × List Int × Int:=oB d (endL d.show_ d.state c) c.values 5 (uR d (endL d.show_ d.state c))
noncomputable def runF (c:GChoice):Nat→GDesk→GDesk × Int
 | 0,d=>(d,0)
 | n+1,d=>if (bo c d).2.2=0 then runF c n (bo c d).1 else (d,(bo c d).2.2)
noncomputable def runR (d:GDesk)(c:GChoice):GDesk × Int:=if gq d=true then (if aO d.show_ c=true then runF c 13 d else (d,1)) else (d,1)
def tupD (d:GDesk):Int × Int × Bool × (List GNode) × (List GTie) × (List Int) × (List Int) × (List am):=(d.show_.horizon,d.state.now,d.lazy,d.show_.nodes,d.show_.ties,d.state.times,d.state.values,d.log)
theorem rC {s:GShow}{c:GChoice}(h:aO s c=true):c.values.length=3:=by
 unfold aO at h
 simp only [Bool.and_eq_true,decide_eq_true_eq] at h
 exact h.1.1.2
theorem rW {d:GDesk}{ties values:List Int}{c:Option (List Int)}(h:(oB d ties values 5 c).2.2=0):cR d ties values=0∧∃ nd,c=some nd∧oB d ties values 5 c=(finD d ties values nd,nd,0):=by
 unfold oB at h ⊢
 by_cases h0:cR d ties values=0
 ·rw [if_pos h0] at h ⊢
  cases c with
  | none=>exact absurd h (by simp)
  | some nd=>exact ⟨h0,nd,rfl,rfl⟩
 ·rw [if_neg h0] at h
  exact absurd h h0
theorem LU {d:GDesk}{ties values nd:List Int}(h0:cR d ties values=0)(hn:nd∈decL d.show_ (endX d.show_ d.state ties)):aD d.show_ (finD d ties values nd).state=true:=by
 obtain ⟨g1,hp,g3,_⟩:=lK h0
 have hM:=lv (lJ g1) g3
 obtain ⟨_,_,hm⟩:=fV hM.right hn
 obtain ⟨s1,s2⟩:=uQ (values:=values) (ps:=aE d.show_ nd) hp (fun p h=>⟨(bw h).1,(bw h).2.1⟩)
 exact ua hM hm s1 s2
theorem Hm {c:GChoice}{d:GDesk}(hf:FitD d)(h:(bo c d).2.2=0) :
  FitD (bo c d).1∧(bo c d).1.show_=d.show_∧aD d.show_ (bo c d).1.state=true∧(bo c d).1.state.now=d.state.now+1:=by
 unfold bo at h ⊢
 obtain ⟨h0,nd,hc,he⟩:=rW h
 have hl:=GS d.show_ d.state c hf.sh.ties
 have hnd:nd∈decL d.show_ (endX d.show_ d.state (endL d.show_ d.state c)):=(ph hc).1
 have hfit:=(LT d (endL d.show_ d.state c) c.values 5 (uR d (endL d.show_ d.state c)) hf hl (fun _ nd h=>(ph h).1)).1
 rw [he] at hfit ⊢
 exact ⟨hfit,rfl,LU h0 hnd,rfl⟩
theorem Pa (c:GChoice)(body:(Int × Int × Bool × (List GNode) × (List GTie) × (List Int) × (List Int) × (List am))→Option (Step (Int × Int × Bool × (List GNode) × (List GTie) × (List Int) × (List Int) × (List am)) (GDesk × Int)))
  (hb:∀ d,FitD d→aD d.show_ d.state=true→aO d.show_ c=true→body (tupD d)=some (if (bo c d).2.2=0 then .next (tupD (bo c d).1) else .done (d,(bo c d).2.2))) :
  ∀ (n:Nat) (d:GDesk),FitD d→aD d.show_ d.state=true→aO d.show_ c=true→12<(n:Int)+d.state.now→ak body (tupD d)=some (runF c n d):=by
 intro n
 induction n with
 | zero=>
  intro d hf hx hc h
  have:=(bb hx).now
  have:=(bb hx).right.hor
  omega
 | succ n ih=>
  intro d hf hx hc h
  rw [ba,hb d hf hx hc]
  show _=some (if (bo c d).2.2=0 then runF c n (bo c d).1 else (d,(bo c d).2.2))
  by_cases h0:(bo c d).2.2=0
  ·obtain ⟨f1,f2,f3,f4⟩:=Hm hf h0
   rw [if_pos h0,if_pos h0]
   exact ih _ f1 (by rw [f2];exact f3) (by rw [f2];exact hc) (by rw [f4];omega)
  ·rw [if_neg h0,if_neg h0]
theorem Hn (d:GDesk)(c:GChoice)(hf:FitD d):ln d c=some (runR d c):=by
 unfold ln runR
 rw [zw d hf]
 simp only [obnd]
 rw [zp d hf]
 simp only
 cases hD:gq d
 ·rw [if_neg (by simp),if_neg (by simp)]
 ·have hx:=lJ hD
  rw [if_pos rfl,if_pos rfl,qN d.show_ c hf.sh.small (bb hx).right hf.sh.ties]
  simp only
  cases hC:aO d.show_ c
  ·rw [if_neg (by simp),if_neg (by simp)]
  ·rw [if_pos rfl,if_pos rfl]
   have hn:=(bb hx).now
   have key:=Pa c (kO c.lengths c.values) (by
    intro d hf hx hc
    have hl:=GS d.show_ d.state c hf.sh.ties
    have hv:=rC hc
    unfold kO tupD
    simp only
    rw [show (GShow.mk d.show_.nodes d.show_.ties d.show_.horizon)=d.show_ from rfl,show (GState.mk d.state.now d.state.times d.state.values)=d.state from rfl,show (GChoice.mk c.lengths c.values)=c from rfl,show (GDesk.mk d.show_ d.state d.lazy d.log)=d from rfl]
    rw [De d.show_ d.state c hf.sh hf.st]
    simp only [obnd]
    rw [ER d _ c.values hf hl (by omega)]
    simp only
    show (if (bo c d).2.2=0 then _ else _)=_
    by_cases h0:(bo c d).2.2=0
    ·rw [if_pos h0,if_pos h0];rfl
    ·rw [if_neg h0,if_neg h0];rfl) 13 d hf hx hC (by omega)
   unfold tupD at key
   rw [key]
theorem Ho (c:GChoice):∀ (n:Nat) (d:GDesk),FitD d→FitD (runF c n d).1∧(runF c n d).1.show_=d.show_
 | 0,d,hf=>⟨hf,rfl⟩
 | n+1,d,hf=>by
  show FitD (if (bo c d).2.2=0 then runF c n (bo c d).1 else (d,(bo c d).2.2)).1∧(if (bo c d).2.2=0 then runF c n (bo c d).1 else (d,(bo c d).2.2)).1.show_=d.show_
  by_cases h0:(bo c d).2.2=0
  ·obtain ⟨f1,f2,f3,f4⟩:=Hm hf h0
   rw [if_pos h0]
   obtain ⟨g1,g2⟩:=Ho c n _ f1
   exact ⟨g1,by rw [g2,f2]⟩
  ·rw [if_neg h0]
   exact ⟨hf,rfl⟩
theorem Hq (d:GDesk)(c:GChoice)(hf:FitD d):FitD (runR d c).1∧(runR d c).1.show_=d.show_:=by
 unfold runR
 split
 ·split
  ·exact Ho c 13 d hf
  ·exact ⟨hf,rfl⟩
 ·exact ⟨hf,rfl⟩
end Go.Proofs.Qb
set_option maxRecDepth 100000
set_option maxHeartbeats 1000000
namespace Go.Proofs.Qb
open Go
def nk (s:GShow)(x:GState):Bool:=if aD s x=true then (if ca s x=true then false else fD s x) else false
theorem Iy (s:GShow)(x:GState)(hs:aX s)(fx:FitX x):mj s x=some (nk s x):=by
 unfold mj nk
 rw [qd s x hs fx.times fx.values]
 simp only [obnd]
 cases hx:aD s x
 ·rw [if_neg (by simp),if_neg (by simp)]
 ·rw [if_pos rfl,if_pos rfl,tv hs (bb hx)]
  simp only
  cases hb:ca s x
  ·rw [if_neg (by simp),if_neg (by simp),rS hs (bb hx)]
  ·rw [if_pos rfl,if_pos rfl]
noncomputable def rX (s:GShow)(c:GChoice)(z:Bool):List Int × Bool:=
 if az s=true then (if aO s c=true then (if nk s (runR (dY s z).1 c).1.state=true then ((runR (dY s z).1 c).1.state.times,true) else ([],false)) else ([],false)) else ([],false)
theorem Ns {s:GShow}(z:Bool)(h:az s=true):(dY s z).2=true:=by
 unfold dY;rw [if_pos h]
theorem Nt {s:GShow}(z:Bool)(h:¬ az s=true):(dY s z).2=false:=by
 unfold dY;rw [if_neg h]
theorem sG (s:GShow)(c:GChoice)(z:Bool)(hf:FitS s):gL s c z=some (rX s c z):=by
 unfold gL rX
 rw [GP s z hf]
 simp only [obnd]
 by_cases hA:az s=true
 ·rw [Ns z hA,if_pos rfl,if_pos hA,qN s c hf.small (bm hA) hf.ties]
  simp only
  cases hC:aO s c
  ·rw [if_neg (by simp),if_neg (by simp)]
  ·have hd:=El s z hf
   have fr:=(Hq (dY s z).1 c hd).1
   rw [if_pos rfl,if_pos rfl,Hn _ c hd]
   simp only
   rw [Iy s _ hf.small fr.st]
   simp only
   cases nk s (runR (dY s z).1 c).1.state
   ·rw [if_neg (by simp),if_neg (by simp)]
   ·rw [if_pos rfl,if_pos rfl,eu _ fr.st.times]
 ·rw [Nt z hA,if_neg (by simp),if_neg hA]
theorem Eu (s:GShow)(c:GChoice)(z:Bool)(hf:FitS s):(rX s c z).1.length≤1048576:=by
 unfold rX
 have fr:=(Hq (dY s z).1 c (El s z hf)).1.st.times
 split
 ·split
  ·split
   ·exact fr
   ·simp
  ·simp
 ·simp
end Go.Proofs.Qb
set_option maxRecDepth 100000
set_option maxHeartbeats 1000000
namespace Go.Proofs.Qb
open Go
theorem lit1 {p v:Int}(h1:1≤p)(h2:p≤3)(hv:v=1∨v=-1):pr (p*v)=p∧sgn (p*v)=v∧p*v≠0∧-3≤p*v∧p*v≤3:=by
 have:p=1∨p=2∨p=3:=by omega
 rcases this with rfl | rfl | rfl <;> rcases hv with rfl | rfl <;> decide
theorem BW {values ps:List Int}(hv:pmB values=true)(hp:∀ p,p∈ps→1≤p∧p≤3){p:Int}(h:p∈ps):pr (p*tm values (p - 1))=p∧sgn (p*tm values (p - 1))=tm values (p - 1)∧p*tm values (p - 1)≠0∧-3≤p*tm values (p - 1)∧p*tm values (p - 1)≤3:=by
 have h1:=hp p h
 exact lit1 h1.1 h1.2 (Kx hv (by omega) (by omega))
theorem Tb {values ps:List Int}(hv:pmB values=true)(hp:∀ p,p∈ps→1≤p∧p≤3):(litL values ps).map pr=ps:=by
 unfold litL
 rw [List.map_map]
 conv=>rhs;rw [← List.map_id ps]
 exact List.map_congr_left (fun p h=>(BW hv hp h).1)
theorem Pb {values ps:List Int}(hv:pmB values=true)(hp:∀ p,p∈ps→1≤p∧p≤3):(litL values ps).map sgn=dq values ps:=by
 unfold litL dq
 rw [List.map_map]
 exact List.map_congr_left (fun p h=>(BW hv hp h).2.1)
theorem LV {values ps:List Int}(hv:pmB values=true)(hp:∀ p,p∈ps→1≤p∧p≤3)(ha:Asc ps):bI (litL values ps)=true:=by
 have hlen:(litL values ps).length=ps.length:=List.length_map _
 have hget:∀ i,i<ps.length→(litL values ps).getD i 0=ps.getD i 0*tm values (ps.getD i 0 - 1):=by
  intro i hi
  unfold litL
  simp [hi]
 have hmem:∀ i,i<ps.length→ps.getD i 0∈ps:=by
  intro i hi
  rw [show ps.getD i 0=ps[i] by simp [hi]]
  exact List.getElem_mem hi
 unfold bI
 refine decide_eq_true ?_
 intro i hi
 rw [hlen] at hi
 unfold labP
 refine decide_eq_true ?_
 rw [hget i hi]
 obtain ⟨a1,a2,a3,a4,a5⟩:=BW hv hp (hmem i hi)
 refine ⟨a3,a4,a5,?_⟩
 intro h0
 rw [hget (i - 1) (by omega),a1,(BW hv hp (hmem (i - 1) (by omega))).1]
 exact zK ha hi h0
theorem zx {s:GShow}(e:am):∀ (log:List am) (x:GState),(bp s x log).2=true→(cK s (bp s x log).1 e).2=true→bp s x (log++[e])=((cK s (bp s x log).1 e).1,true)
 | [],x,_,h=>by
  show (if (cK s x e).2=true then bp s (cK s x e).1 [] else (lu,false))=_
  have h':(cK s x e).2=true:=h
  rw [if_pos h'];rfl
 | f::r,x,h,g=>by
  have hc:∀ l,bp s x (f::l)=if (cK s x f).2=true then bp s (cK s x f).1 l else (lu,false):=fun _=>rfl
  rw [hc] at h g
  rw [List.cons_append,hc,hc]
  by_cases he:(cK s x f).2=true
  ·rw [if_pos he] at h g
   rw [if_pos he,if_pos he]
   exact zx e r _ h g
  ·rw [if_neg he] at h;cases h
theorem Hr {d:GDesk}{ties values nd:List Int}(h0:cR d ties values=0)(hn:nd∈decL d.show_ (endX d.show_ d.state ties)):gq (finD d ties values nd)=true:=by
 obtain ⟨g1,hp,g3,_⟩:=lK h0
 have hps:∀ p,p∈aE d.show_ nd→1≤p∧p≤3:=fun p h=>⟨(bw h).1,(bw h).2.1⟩
 have hst:=LU (values:=values) h0 hn
 have hg:=g1
 unfold gq at hg
 simp only [Bool.and_eq_true,decide_eq_true_eq] at hg
 obtain ⟨⟨⟨e1,e2⟩,e3⟩,e4⟩:=hg
 have hstep:cK d.show_ d.state ⟨d.state.now,ties,nd,litL values (aE d.show_ nd)⟩=((finD d ties values nd).state,true):=by
  unfold cK
  rw [if_pos ⟨rfl,g3,LV hp hps (tb _ _),hn,Tb hp hps⟩]
  simp only
  rw [Pb hp hps]
  rfl
 have hrep:dS d.show_ (d.log++[⟨d.state.now,ties,nd,litL values (aE d.show_ nd)⟩])=((finD d ties values nd).state,true):=by
  unfold dS at e3 e4 ⊢
  by_cases hA:az d.show_=true
  ·rw [if_pos hA] at e3 e4 ⊢
   rw [zx _ d.log _ e3 (by rw [e4,hstep]),e4,hstep]
  ·rw [if_neg hA] at e3;cases e3
 unfold gq
 simp only [Bool.and_eq_true,decide_eq_true_eq]
 refine ⟨⟨⟨hst,?_⟩,?_⟩,?_⟩
 ·show (((d.log++[_]).length:Nat):Int)=d.state.now+1
  rw [List.length_append]
  simp only [List.length_cons,List.length_nil]
  omega
 ·show (dS d.show_ (d.log++[_])).2=true
  rw [hrep]
 ·show (dS d.show_ (d.log++[_])).1=_
  rw [hrep]
theorem zL {s:GShow}(z:Bool)(h:az s=true):gq (dY s z).1=true:=by
 unfold dY
 rw [if_pos h]
 unfold gq
 simp only [Bool.and_eq_true,decide_eq_true_eq]
 refine ⟨⟨⟨lT h,rfl⟩,?_⟩,?_⟩
 ·unfold dS;rw [if_pos h];rfl
 ·unfold dS;rw [if_pos h];rfl
end Go.Proofs.Qb
set_option maxRecDepth 100000
set_option maxHeartbeats 1000000
namespace Go.Proofs.Qb
open Go
theorem Ev {ns:List GNode}{ts:List GTie}{z:Int}(hA:fa ⟨ns,[],0⟩=true)(hW:ez ⟨ns,[],0⟩=true)(ht:∀ i (hi:i<ts.length),tieB ⟨ns,ts,z⟩ ts[i]=true∧ly ⟨ns,ts,z⟩ i ts[i]=true)(h14:ts.length≤14)(hz:1≤z∧z≤10):az ⟨ns,ts,z⟩=true:=by
 unfold az
 simp only [Bool.and_eq_true,decide_eq_true_eq]
 refine ⟨⟨⟨⟨hA,?_⟩,h14⟩,hz⟩,hW⟩
 intro i hi
 rw [qI hi,Bool.and_eq_true]
 exact ht i hi
def brN:List GNode:=[(GNode.mk (ByteArray.mk #[103,111]) ([]) 0),(GNode.mk (ByteArray.mk #[97]) ([]) 1),(GNode.mk (ByteArray.mk #[98]) ([1]) 0),(GNode.mk (ByteArray.mk #[99]) ([(-1)]) 0)]
def brM:List GNode:=brN++([(GNode.mk (ByteArray.mk #[100]) ([1]) 0)])
theorem UN:fa ⟨brN,[],0⟩=true:=by decide +kernel
theorem UO:fa ⟨brM,[],0⟩=true:=by decide +kernel
theorem UP:ez ⟨brN,[],0⟩=true:=by decide +kernel
theorem UQ:ez ⟨brM,[],0⟩=true:=by decide +kernel
structure BrT (t:GTie):Prop where
 f0:0≤t.from_
 f1:t.from_<4
 t0:0≤t.to
 t1:t.to<4
 ne:t.from_≠t.to
 lo:-20≤t.low
 hi:t.high≤20
 lh:t.low≤t.high
 fr:t.free=false
theorem BrT.b {t:GTie}(h:BrT t){ns:List GNode}{ts:List GTie}{z:Int}(hn:4≤ns.length):tieB ⟨ns,ts,z⟩ t=true:=by
 have h1:=h.f1
 have h2:=h.t1
 unfold tieB
 rw [decide_eq_true_eq]
 exact ⟨⟨h.f0,by show t.from_<(ns.length:Int);omega⟩,⟨h.t0,by show t.to<(ns.length:Int);omega⟩,h.ne,h.lo,h.hi,h.lh⟩
theorem BrT.f {t:GTie}(h:BrT t){s:GShow}{i:Nat}:ly s i t=true:=by
 unfold ly
 rw [h.fr];rfl
theorem Hs {c:GL01Cur}(hc:Cur c):∃ r,jK c=some r∧az r.1=true∧FitS r.1∧Cur r.2:=by
 unfold jK
 obtain ⟨r1,e,a0,a1,hc⟩:=bq hc 3 (by omega)
 have a1:=a1 (by omega)
 rw [e];simp only [obnd]
 obtain ⟨r2,e,b0,b1,hc⟩:=bq hc 2 (by omega)
 have b1:=b1 (by omega)
 rw [e];simp only
 obtain ⟨r3,e,d0,d1,hc⟩:=bq hc 3 (by omega)
 have d1:=d1 (by omega)
 rw [e];simp only
 rw [wr (x:=4+r1.1) (by omega) (by omega),wr (x:=r2.1+r3.1) (by omega) (by omega)]
 have key:∃ q,ak (gp (4+r1.1) brN) (2,[(GTie.mk 0 1 r2.1 (r2.1+r3.1) false)],r3.2.b,r3.2.i,r3.2.h)=some q∧(∀ t,t∈q.1→BrT t)∧q.1.length≤3∧Cur ⟨q.2.1,q.2.2.1,q.2.2.2⟩:=by
  refine bk 2 (fun i st=>st.1=2+(i:Int)∧(∀ t,t∈st.2.1→BrT t)∧st.2.1.length≤1+i∧Cur ⟨st.2.2.1,st.2.2.2.1,st.2.2.2.2⟩) _ ?_ ?_ ?_
  ·refine ⟨by simp,?_,by simp,hc⟩
   intro t ht
   rw [List.mem_singleton] at ht
   subst ht
   exact ⟨by simp only;omega,by simp only;omega,by simp only;omega,by simp only;omega,by simp only;omega,by simp only;omega,by simp only;omega,by simp only;omega,rfl⟩
  ·rintro i ⟨k,ts,b,j,d⟩ hi ⟨hk,hp,hl,hcu⟩
   simp only at hk hp hl hcu
   subst hk
   unfold gp
   simp only
   rw [if_pos (by omega)]
   obtain ⟨r7,e,f0,f1,hcu⟩:=bq hcu 3 (by omega)
   have f1:=f1 (by omega)
   rw [e];simp only [obnd]
   obtain ⟨r8,e,g0,g1,hcu⟩:=bq hcu 2 (by omega)
   have g1:=g1 (by omega)
   rw [e];simp only
   obtain ⟨r9,e,k0,k1,hcu⟩:=bq hcu 3 (by omega)
   have k1:=k1 (by omega)
   rw [e];simp only
   rw [ah (by omega),ah (by omega),wr (x:=2+(i:Int)+1) (by omega) (by omega),wr (x:=r7.1+1) (by omega) (by omega),wr (x:=r7.1+1+r9.1) (by omega) (by omega)]
   refine .inl ⟨_,rfl,?_,?_,?_,hcu⟩
   ·simp only;omega
   ·intro t ht
    rw [List.mem_append,List.mem_singleton] at ht
    rcases ht with ht | rfl
    ·exact hp t ht
    ·exact ⟨by simp only;omega,by simp only;omega,by simp only;omega,by simp only;omega,by simp only;omega,by simp only;omega,by simp only;omega,by simp only;omega,rfl⟩
   ·simp only [List.length_append,List.length_singleton];omega
  ·rintro ⟨k,ts,b,j,d⟩ ⟨hk,hp,hl,hcu⟩
   simp only at hk hp hl hcu
   subst hk
   unfold gp
   simp only
   rw [if_neg (by omega)]
   exact ⟨_,rfl,hp,by simp only;omega,hcu⟩
 obtain ⟨q,e,hp,hl,hcu⟩:=key
 unfold brN at e
 rw [e];simp only
 obtain ⟨r11,e,hcu⟩:=uF hcu 2 (by omega)
 rw [e];simp only
 by_cases h1:r11.1=true
 ·rw [if_pos h1]
  obtain ⟨r12,e,g0,g1,hcu⟩:=bq hcu 2 (by omega)
  have g1:=g1 (by omega)
  rw [e];simp only
  rw [ah (by decide),ah (by decide)]
  obtain ⟨r13,e,k0,k1,hcu⟩:=bq hcu 2 (by omega)
  have k1:=k1 (by omega)
  rw [e];simp only
  rw [ah (by omega),ah (by omega),wr (x:=1+r12.1) (by omega) (by omega),wr (x:=1+r12.1+r13.1) (by omega) (by omega)]
  refine ⟨_,rfl,?_,?_,hcu⟩
  ·refine Ev (ns:=brM) UO UQ ?_ (by simp only [List.length_append,List.length_singleton];omega) (by omega)
   intro i hi
   rw [List.length_append,List.length_singleton] at hi
   by_cases hi':i<q.1.length
   ·rw [List.getElem_append_left hi']
    have h:=hp _ (List.getElem_mem hi')
    exact ⟨h.b (by decide),h.f⟩
   ·have hie:i=q.1.length:=by omega
    subst hie
    rw [List.getElem_append_right (Nat.le_refl _)]
    simp only [Nat.sub_self,List.getElem_cons_zero]
    constructor
    ·unfold tieB
     rw [decide_eq_true_eq]
     refine ⟨⟨by simp only;omega,(by decide:(2:Int)<((brM.length:Nat):Int))⟩,⟨by simp only;omega,(by decide:(4:Int)<((brM.length:Nat):Int))⟩,by simp only;omega,by simp only;omega,by simp only;omega,by simp only;omega⟩
    ·unfold ly
     simp only [Bool.not_true,Bool.false_or,Bool.and_eq_true,decide_eq_true_eq]
     refine ⟨⟨by omega,by decide⟩,?_⟩
     rw [Bool.not_eq_true',List.any_eq_false]
     intro u hu hx
     rw [List.take_append_of_le_length (Nat.le_refl _),List.take_length] at hu
     rw [(hp u hu).fr] at hx
     simp at hx
  ·refine ⟨(by decide:brM.length≤1048576),by simp only [List.length_append,List.length_singleton];omega,?_⟩
   intro n hn
   have:∀ n,n∈brM→FitN n:=by
    intro n hn
    unfold brM brN at hn
    simp only [List.mem_append,List.mem_cons,List.not_mem_nil,or_false] at hn
    rcases hn with (rfl | rfl | rfl | rfl) | rfl <;> exact ⟨by decide,by decide⟩
   exact this n hn
 ·rw [if_neg h1]
  refine ⟨_,rfl,?_,?_,hcu⟩
  ·refine Ev (ns:=brN) UN UP ?_ (by omega) (by omega)
   intro i hi
   have h:=hp _ (List.getElem_mem hi)
   exact ⟨h.b (by decide),h.f⟩
  ·refine ⟨(by decide:brN.length≤1048576),by show q.1.length≤_;omega,?_⟩
   intro n hn
   have:∀ n,n∈brN→FitN n:=by
    intro n hn
    unfold brN at hn
    simp only [List.mem_cons,List.not_mem_nil,or_false] at hn
    rcases hn with rfl | rfl | rfl | rfl <;> exact ⟨by decide,by decide⟩
   exact this n hn
theorem Ky {c:GL01Cur}(hc:Cur c):∃ r,lq c=some r∧az r.1=true∧FitS r.1∧Cur r.2:=by
 unfold lq
 obtain ⟨r1,e,hc⟩:=uF hc 3 (by omega)
 rw [e];simp only [obnd]
 by_cases h1:r1.1=true
 ·rw [if_pos h1]
  obtain ⟨r,e,h1,h2,h3⟩:=Hs hc
  rw [e]
  exact ⟨_,rfl,h1,h2,h3⟩
 ·rw [if_neg h1]
  obtain ⟨r,e,h1,h2,h3⟩:=Iq hc
  rw [e]
  exact ⟨_,rfl,h1,h2,h3⟩
theorem Iz (code:List Int)(h:code.length≤1048576):∃ s,kv code=some s∧az s=true∧FitS s:=by
 unfold kv
 obtain ⟨c,e,hc⟩:=En code h
 rw [e];simp only [obnd]
 obtain ⟨r,e,h1,h2,_⟩:=Ky hc
 rw [e]
 exact ⟨_,rfl,h1,h2⟩
end Go.Proofs.Qb
set_option maxRecDepth 100000
set_option maxHeartbeats 1000000
namespace Go.Proofs.Qb
open Go
theorem tw {s:GShow}{x:GState}(hs:aX s)(fx:FitX x)(hx:aD s x=true):iz s x=some (win s x):=by
 unfold iz
 rw [qd s x hs fx.times fx.values]
 simp only [obnd]
 rw [hx,if_pos rfl]
 unfold jn
 simp only
 obtain ⟨k,_,e⟩:=Dl hs x.now (bb hx).now.1 [] x hx rfl (wx s)
 rw [e]
end Go.Proofs.Qb
set_option maxRecDepth 100000
set_option maxHeartbeats 1000000
namespace Go.Proofs.Qb
open Go
theorem Pc {ps vs:List Int}(h3:ps.length≤3)(hl:vs.length=ps.length)(hv:∀ v,v∈vs→v=1∨v=-1):vs∈obsL ps:=by
 unfold obsL
 rw [← hl]
 have h3':vs.length≤3:=by omega
 clear hl
 match vs,hv,h3' with
 | [],_,_=>decide +kernel
 | [a],hv,_=>
  rcases hv a (by simp) with rfl | rfl <;> decide +kernel
 | [a,b],hv,_=>
  rcases hv a (by simp) with rfl | rfl <;> rcases hv b (by simp) with rfl | rfl <;> decide +kernel
 | [a,b,c],hv,_=>
  rcases hv a (by simp) with rfl | rfl <;> rcases hv b (by simp) with rfl | rfl <;> rcases hv c (by simp) with rfl | rfl <;> decide +kernel
 | _::_::_::_::_,_,h=>simp at h
theorem Pd {d:GDesk}{ties values nd:List Int}(h0:cR d ties values=0)(hs:cg (win d.show_) d.show_ (endX d.show_ d.state ties) nd=true):win d.show_ (finD d ties values nd).state=true:=by
 obtain ⟨g1,hp,g3,_⟩:=lK h0
 have hps:∀ p,p∈aE d.show_ nd→1≤p∧p≤3:=fun p h=>⟨(bw h).1,(bw h).2.1⟩
 obtain ⟨s1,s2⟩:=uQ (values:=values) (ps:=aE d.show_ nd) hp hps
 unfold cg at hs
 rw [List.all_eq_true] at hs
 exact hs _ (Pc (pg _ _) s1 s2)
theorem LW {d:GDesk}{ties values:List Int}(hd:gq d=true)(hp:pmB values=true):(cR d ties values=2∧(ca d.show_ d.state=true∨fD d.show_ d.state=true∨d.show_.horizon<d.state.now))∨(¬ ca d.show_ d.state=true∧¬ fD d.show_ d.state=true∧¬ d.show_.horizon<d.state.now∧cR d ties values=if ties∈bu d.show_ d.state then 0 else 3):=by
 unfold cR
 rw [if_pos hd,if_pos hp]
 by_cases hb:ca d.show_ d.state=true
 ·rw [if_pos hb];exact .inl ⟨rfl,.inl hb⟩
 ·rw [if_neg hb]
  by_cases ho:fD d.show_ d.state=true
  ·rw [if_pos ho];exact .inl ⟨rfl,.inr (.inl ho)⟩
  ·rw [if_neg ho]
   by_cases hh:d.show_.horizon<d.state.now
   ·rw [if_pos hh];exact .inl ⟨rfl,.inr (.inr hh)⟩
   ·rw [if_neg hh];exact .inr ⟨hb,ho,hh,rfl⟩
theorem Kz {lazy:Bool}{l:List (List Int)}{p:List Int→Bool}(h:rV lazy l p=none):∀ nd,nd∈l→p nd=false:=by
 unfold rV at h
 intro nd hn
 split at h
 ·simpa using List.find?_eq_none.1 h nd (by simpa using hn)
 ·simpa using List.find?_eq_none.1 h nd hn
theorem IA (code:List Int)(n:Int)(h:code.length≤1048576)(h0:0≤n)(h1:n≤1000000):∃ r,lr code n=some r∧0≤r:=by
 unfold lr
 obtain ⟨c,e,hc⟩:=LI code n h h0 h1
 rw [e]
 simp only [obnd]
 obtain ⟨r,e,a0,a1,hr⟩:=rR hc
 rw [e]
 simp only
 obtain ⟨q,e,b0,b1,hq⟩:=rR hr
 rw [e]
 refine ⟨_,rfl,?_⟩
 rw [wr (x:=r.1*256) (by omega) (by omega),wr (x:=r.1*256+q.1) (by omega) (by omega)]
 omega
end Go.Proofs.Qb
set_option maxRecDepth 100000
set_option maxHeartbeats 1000000
namespace Go.Proofs.Qb
open Go
theorem xP {s:GShow}{k:Int}(h:k∈aQ s):∃ i,∃ hi:i<s.ties.length,k=(i:Int)∧s.ties[i].free=true:=by
 obtain ⟨i,hi,hp,rfl⟩:=fC.1 h
 unfold ep at hp
 rw [List.getElem?_eq_getElem hi] at hp
 exact ⟨i,hi,rfl,hp⟩
theorem zM {s:GShow}(h:az s=true):(aQ s).length≤6:=by
 have hR:=bm h
 have hn:=hR.nodes
 have hnd:((aQ s).map (fun k=>(aH s k).to)).Nodup:=by
  unfold List.Nodup
  rw [List.pairwise_map]
  refine List.Pairwise.imp_of_mem ?_ (qf _ _)
  intro a b ha hb hab he
  obtain ⟨i,hi,rfl,hf⟩:=xP ha
  obtain ⟨j,hj,rfl,hg⟩:=xP hb
  rw [bU hi,bU hj] at he
  have:=uJ h hi hj hf hg he
  omega
 have:=ta (r:=[1,2,3,4,5,6]) hnd (fun y hy=>by
  rw [List.mem_map] at hy
  obtain ⟨k,hk,rfl⟩:=hy
  obtain ⟨i,hi,rfl,hf⟩:=xP hk
  rw [bU hi]
  have hT:=hR.tie _ (List.getElem_mem hi)
  have h0:=(fc h hi hf).t0
  have h1:=hT.t0
  have h2:=hT.t1
  simp only [List.mem_cons,List.not_mem_nil,or_false]
  omega)
 simpa using this
theorem Ht {s:GShow}(h:az s=true){k:Int}(hk:k∈aQ s):∃ t,getI s.ties k=some t∧-20≤t.low∧t.low≤t.high∧t.high≤20:=by
 obtain ⟨i,hi,rfl,_⟩:=xP hk
 have hT:=(bm h).tie _ (List.getElem_mem hi)
 exact ⟨_,ay hi,hT.lo,hT.lh,hT.hi⟩
theorem zN {s:GShow}(hf:FitS s)(h:az s=true):∃ n,bE s=some n∧1≤n∧n≤1000000000000:=by
 have h6:=zM h
 have hs:=hf.small
 unfold bE
 rw [qT s hs,h]
 simp only [obnd,if_true]
 rw [qe s hf.ties]
 change ∃ n,(obnd (ak (bX (((aQ s).length:Nat):Int) s.nodes s.ties s.horizon (aQ s)) (1,0)) _)=_∧_
 have key:∃ q,ak (bX (((aQ s).length:Nat):Int) s.nodes s.ties s.horizon (aQ s)) (1,0)=some q∧1≤q∧q≤4750104241:=by
  have hp:∀ i:Nat,i≤6→(41:Int)^i≤4750104241:=by
   intro i hi
   have:i=0∨i=1∨i=2∨i=3∨i=4∨i=5∨i=6:=by omega
   rcases this with rfl | rfl | rfl | rfl | rfl | rfl | rfl <;> decide
  refine bk (aQ s).length (fun i st=>st.2=(i:Int)∧1≤st.1∧st.1≤41^i) _ ⟨rfl,by decide,by decide⟩ ?_ ?_
  ·rintro i ⟨n,v⟩ hi ⟨hk,h1,h2⟩
   simp only at hk h1 h2
   subst hk
   obtain ⟨t,e,b1,b2,b3⟩:=Ht h (List.getElem_mem hi)
   unfold bX
   simp only
   rw [if_pos (by omega),ay hi]
   simp only [obnd]
   rw [e]
   simp only
   have hp1:=hp (i+1) (by omega)
   rw [wr (x:=t.high - t.low) (by omega) (by omega),wr (x:=t.high - t.low+1) (by omega) (by omega)]
   have hm:n*(t.high - t.low+1)≤41^i*41:=Int.mul_le_mul h2 (by omega) (by omega) (by omega)
   have hm0:1*1≤n*(t.high - t.low+1):=Int.mul_le_mul h1 (by omega) (by omega) (by omega)
   rw [Int.pow_succ] at hp1
   rw [wr (x:=n*(t.high - t.low+1)) (by omega) (by omega),wr (x:=(i:Int)+1) (by omega) (by omega)]
   refine .inl ⟨_,rfl,by simp only;omega,by simp only;omega,?_⟩
   simp only
   rw [Int.pow_succ]
   exact hm
  ·rintro ⟨n,v⟩ ⟨hk,h1,h2⟩
   simp only at hk h1 h2
   subst hk
   unfold bX
   simp only
   rw [if_neg (by omega)]
   exact ⟨_,rfl,h1,Int.le_trans h2 (hp _ h6)⟩
 obtain ⟨q,e,q1,q2⟩:=key
 rw [e]
 simp only [obnd]
 have key:∃ r,ak (cw s.nodes s.ties s.horizon) (q,1)=some r∧1≤r∧r≤1000000000000:=by
  refine bk 3 (fun i st=>st.2=1+(i:Int)∧1≤st.1∧(i=0→st.1≤4750104241)∧(i=1→st.1≤9500208482)∧(i=2→st.1≤19000416964)∧(i=3→st.1≤38000833928)) _ (by refine ⟨by simp,q1,?_,?_,?_,?_⟩ <;> intro h <;> first | exact q2 | omega) ?_ ?_
  ·rintro i ⟨n,p⟩ hi ⟨hk,h1,h2,h3,h4,h5⟩
   simp only at hk h1 h2 h3 h4 h5
   subst hk
   unfold cw
   simp only
   rw [if_pos (by omega),show (GShow.mk s.nodes s.ties s.horizon)=s from rfl,fW s _ hs.nodes]
   simp only [obnd]
   have hb:n≤19000416964:=by
    have:i=0∨i=1∨i=2:=by omega
    rcases this with rfl | rfl | rfl
    ·have:=h2 rfl;omega
    ·have:=h3 rfl;omega
    ·exact h4 rfl
   rw [wr (x:=1+(i:Int)+1) (by omega) (by omega)]
   split
   ·rw [wr (x:=2*n) (by omega) (by omega)]
    refine .inl ⟨_,rfl,by simp only;omega,by simp only;omega,fun h=>by omega,fun h=>?_,fun h=>?_,fun h=>?_⟩
    ·have:=h2 (by omega);simp only;omega
    ·have:=h3 (by omega);simp only;omega
    ·have:=h4 (by omega);simp only;omega
   ·refine .inl ⟨_,rfl,by simp only;omega,h1,fun h=>by omega,fun h=>?_,fun h=>?_,fun h=>?_⟩
    ·have:=h2 (by omega);simp only;omega
    ·have:=h3 (by omega);simp only;omega
    ·have:=h4 (by omega);simp only;omega
  ·rintro ⟨n,p⟩ ⟨hk,h1,h2,h3,h4,h5⟩
   simp only at hk h1 h2 h3 h4 h5
   subst hk
   unfold cw
   simp only
   rw [if_neg (by omega)]
   exact ⟨_,rfl,h1,by have:=h5 trivial;omega⟩
 obtain ⟨r,e,r1,r2⟩:=key
 rw [e]
 exact ⟨_,rfl,r1,r2⟩
theorem IB {s:GShow}(hf:FitS s)(h:az s=true)(n:Int):∃ r,cG s n=some r:=by
 have h6:=zM h
 have hs:=hf.small
 unfold cG
 obtain ⟨k,e,_,_⟩:=zN hf h
 rw [e]
 simp only [obnd]
 rw [iA]
 simp only
 split
 ·rw [qe s hf.ties]
  change ∃ r,(obnd (ak (bJ (((aQ s).length:Nat):Int) s.nodes s.ties s.horizon (aQ s)) (n,0,[])) _)=_
  have key:∃ q,ak (bJ (((aQ s).length:Nat):Int) s.nodes s.ties s.horizon (aQ s)) (n,0,[])=some q∧True:=by
   refine bk (aQ s).length (fun i st=>st.2.1=(i:Int)∧st.2.2.length=i) _ ⟨rfl,rfl⟩ ?_ ?_
   ·rintro i ⟨m,v,l⟩ hi ⟨hk,h1⟩
    simp only at hk h1
    subst hk
    obtain ⟨t,e,b1,b2,b3⟩:=Ht h (List.getElem_mem hi)
    unfold bJ
    simp only
    rw [if_pos (by omega),ay hi]
    simp only [obnd]
    rw [e]
    simp only
    rw [wr (x:=t.high - t.low) (by omega) (by omega),wr (x:=t.high - t.low+1) (by omega) (by omega),ah (by omega),ah (by omega),ah (by omega),wr (x:=(i:Int)+1) (by omega) (by omega)]
    exact .inl ⟨_,rfl,by simp only;omega,by simp only [List.length_append,List.length_singleton];omega⟩
   ·rintro ⟨m,v,l⟩ ⟨hk,h1⟩
    simp only at hk h1
    subst hk
    unfold bJ
    simp only
    rw [if_neg (by omega)]
    exact ⟨_,rfl,trivial⟩
  obtain ⟨q,e,_⟩:=key
  rw [e]
  simp only [obnd]
  have key:∃ r,ak (bK s.nodes s.ties s.horizon q.2) (q.1,1,[])=some r∧True:=by
   refine bk 3 (fun i st=>st.2.1=1+(i:Int)∧st.2.2.length=i) _ ⟨by simp,rfl⟩ ?_ ?_
   ·rintro i ⟨m,v,l⟩ hi ⟨hk,h1⟩
    simp only at hk h1
    subst hk
    unfold bK
    simp only
    rw [if_pos (by omega),show (GShow.mk s.nodes s.ties s.horizon)=s from rfl,fW s _ hs.nodes]
    simp only [obnd]
    rw [wr (x:=1+(i:Int)+1) (by omega) (by omega)]
    split
    ·rw [ah (by omega),ah (by omega)]
     exact .inl ⟨_,rfl,by simp only;omega,by simp only [List.length_append,List.length_singleton];omega⟩
    ·rw [ah (by omega),ah (by omega)]
     exact .inl ⟨_,rfl,by simp only;omega,by simp only [List.length_append,List.length_singleton];omega⟩
   ·rintro ⟨m,v,l⟩ ⟨hk,h1⟩
    simp only at hk h1
    subst hk
    unfold bK
    simp only
    rw [if_neg (by omega)]
    exact ⟨_,rfl,trivial⟩
  obtain ⟨r,e,_⟩:=key
  rw [e]
  exact ⟨_,rfl⟩
 ·exact ⟨_,rfl⟩
end Go.Proofs.Qb
set_option maxRecDepth 100000
set_option maxHeartbeats 1000000
namespace Go.Proofs.Qb
open Go
theorem KA {s:GShow}(h:az s=true){i:Nat}(hi:i<s.ties.length)(hf:s.ties[i].free=true):bv s s.ties[i].to.toNat=bv s s.ties[i].from_.toNat:=by
 have hR:=bm h
 have hT:=hR.tie _ (List.getElem_mem hi)
 unfold az at h
 simp only [Bool.and_eq_true,decide_eq_true_eq] at h
 have hp:=h.1.1.1.2 i hi
 rw [qI hi,Bool.and_eq_true] at hp
 have hF:=hp.2
 unfold ly at hF
 rw [hf] at hF
 simp only [Bool.not_true,Bool.false_or,Bool.and_eq_true,decide_eq_true_eq] at hF
 obtain ⟨⟨⟨h1,h2⟩,h3⟩,h4⟩:=hF
 have a1:=hT.t1
 have a2:=hT.f1
 have b1:s.nodes[s.ties[i].to.toNat]?=some (s.nodes[s.ties[i].to.toNat]'(by have:=hT.t0;omega)):=List.getElem?_eq_getElem _
 have b2:s.nodes[s.ties[i].from_.toNat]?=some (s.nodes[s.ties[i].from_.toNat]'(by have:=hT.f0;omega)):=List.getElem?_eq_getElem _
 rw [b1,b2] at h3
 simp only [decide_eq_true_eq] at h3
 unfold bv
 rw [b1,b2]
 simp only [Option.map_some,Option.getD_some]
 exact h3.2
theorem uS {s:GShow}(h:az s=true):bv s 0=[]∧∀ (h0:0<s.nodes.length),s.nodes[0].watch=0:=by
 have hR:=bm h
 have hn:=hR.node1
 unfold az fa qH at h
 simp only [Bool.and_eq_true] at h
 obtain ⟨⟨⟨⟨⟨⟨h1,hf⟩,_⟩,h2⟩,h3⟩,h4⟩,_⟩:=h
 rw [List.getElem?_eq_getElem (show 0<s.nodes.length by omega)] at hf
 simp only [Option.any_some,Bool.and_eq_true,decide_eq_true_eq] at hf
 refine ⟨?_,fun _=>hf.2⟩
 rw [jN (by omega)]
 exact hf.1
theorem Hu {ps v:List Int}(f:Int→Int)(hv:v.length=3)(hp:∀ p,p∈ps→1≤p∧p≤3):∀ n,n≤ps.length→∀ k:Int,0≤k→(∃ i,i<n∧ps.getD i 0 - 1=k)→tm (setV ps (ps.map f) v n) k=f (k+1)
 | 0,_,k,_,h=>by obtain ⟨i,hi,_⟩:=h;omega
 | n+1,hn,k,hk,h=>by
  rw [mS]
  have hb:=hp (ps.getD n 0) (by rw [List.getD_eq_getElem?_getD,List.getElem?_eq_getElem (show n<ps.length by omega)];exact List.getElem_mem _)
  rw [rj _ _ _ _ (by omega) (by rw [mT];omega) hk]
  by_cases e:k=ps.getD n 0 - 1
  ·rw [if_pos e,List.getD_eq_getElem?_getD,List.getElem?_map,List.getElem?_eq_getElem (show n<ps.length by omega)]
   rw [List.getD_eq_getElem?_getD,List.getElem?_eq_getElem (show n<ps.length by omega),Option.getD_some] at e
   simp only [Option.map_some,Option.getD_some]
   congr 1;omega
  ·rw [if_neg e]
   obtain ⟨i,hi,he⟩:=h
   exact Hu f hv hp n (by omega) k hk ⟨i,by rcases Nat.lt_or_ge i n with h1 | h1;exact h1;exact absurd (by rw [← he,show i=n by omega]) e,he⟩
structure ub (s:GShow) (c:GChoice) (x:GState):Prop where
 val:∀ k:Int,0≤k→k<3→tm x.values k≠0→tm x.values k=tm c.values k
 lab:∀ i:Nat,i<s.nodes.length→tm x.times (i:Int)≠-1→cd (bv s i) x.values=1
 lit:∀ i:Nat,i<s.nodes.length→tm x.times (i:Int)≠-1→∀ l,l∈bv s i→tm x.times (aI s (pr l))≠-1∧tm x.times (aI s (pr l))+1≤tm x.times (i:Int)
 ord:∀ i (hi:i<s.ties.length),s.ties[i].free=true→tm x.times s.ties[i].to≠-1→tm x.times s.ties[i].from_≠-1
 act:∀ i (hi:i<s.ties.length),s.ties[i].free=true→tm x.times s.ties[i].from_≠-1→tm x.times s.ties[i].to=-1→x.now - tm x.times s.ties[i].from_≤eZ s c (i:Int)
 fin:∀ i (hi:i<s.ties.length),s.ties[i].free=true→tm x.times s.ties[i].to≠-1→tm x.times s.ties[i].to - tm x.times s.ties[i].from_=eZ s c (i:Int)
theorem Pe {s:GShow}{i:Nat}(hi:i<s.ties.length)(hf:s.ties[i].free=true):(i:Int)∈aQ s:=by
 refine fC.2 ⟨i,hi,?_,rfl⟩
 unfold ep
 rw [List.getElem?_eq_getElem hi];exact hf
theorem uT {s:GShow}{c:GChoice}(hc:aO s c=true)(h:az s=true){i:Nat}(hi:i<s.ties.length)(hf:s.ties[i].free=true):s.ties[i].low≤eZ s c (i:Int)∧eZ s c (i:Int)≤s.ties[i].high:=by
 have hm:=Pe hi hf
 have hlt:=GR hm
 have hl:=sE hc
 unfold aO at hc
 simp only [Bool.and_eq_true,decide_eq_true_eq] at hc
 have hp:=hc.1.2 (idxOf (aQ s) (i:Int)).toNat (by omega)
 unfold lenP at hp
 rw [decide_eq_true_eq] at hp
 have e:(aQ s).getD (idxOf (aQ s) (i:Int)).toNat 0=(i:Int):=by
  have h0:=hlt.1
  unfold idxOf at h0 ⊢
  cases hf:(List.range (aQ s).length).find? (fun j=>decide ((i:Int)=(aQ s).getD j 0)) with
  | none=>rw [hf] at h0;simp at h0
  | some j=>
   have:=List.find?_some hf
   simp only [decide_eq_true_eq] at this
   simp only [Int.toNat_natCast]
   exact this.symm
 rw [e,bU hi] at hp
 have e2:c.lengths.getD (idxOf (aQ s) (i:Int)).toNat 0=eZ s c (i:Int):=by
  unfold eZ;rw [List.getD_eq_getElem?_getD]
 rw [e2] at hp
 exact hp
theorem LX {s:GShow}{c:GChoice}(h:az s=true)(hc:aO s c=true):ub s c (aL s):=by
 have hR:=bm h
 have hn:=hR.node1
 have h0:=uS h
 have ht:∀ i:Int,0≤i→i<s.nodes.length→tm (aL s).times i≠-1→i=0:=by
  intro i hi hl hne
  refine Classical.byContradiction (fun h1=>hne ?_)
  have key:∀ n (j:Nat),j<n→0<j→(stL n)[j]?=some (-1):=by
   intro n
   induction n with
   | zero=>intro j hj;omega
   | succ n ih=>
    intro j hj hj0
    cases n with
    | zero=>omega
    | succ n=>
     rw [sD]
     rcases Nat.lt_or_ge j (n+1) with h2 | h2
     ·rw [List.getElem?_append_left (by rw [jp];exact h2)];exact ih j h2 hj0
     ·rw [List.getElem?_append_right (by rw [jp];exact h2),jp,show j - (n+1)=0 by omega];rfl
  show tm (stL s.nodes.length) i=-1
  unfold tm
  rw [key s.nodes.length i.toNat (by omega) (by omega)];rfl
 have ht0:tm (aL s).times 0=0:=by
  show tm (stL s.nodes.length) 0=0
  have key:∀ n,(stL (n+1))[0]?=some 0:=by
   intro n
   induction n with
   | zero=>rfl
   | succ n ih=>rw [sD,List.getElem?_append_left (by rw [jp];omega)];exact ih
  obtain ⟨n,hn2⟩:=Nat.exists_eq_add_of_le hn
  rw [hn2,Nat.add_comm]
  unfold tm
  rw [show (0:Int).toNat=0 from rfl,key n];rfl
 refine ⟨?_,?_,?_,?_,?_,?_⟩
 ·intro k h1 h2 hne
  refine absurd ?_ hne
  show tm (List.replicate 3 0) k=0
  have:k=0∨k=1∨k=2:=by omega
  rcases this with rfl | rfl | rfl <;> rfl
 ·intro i hi hne
  have:=ht i (by omega) (by omega) hne
  have:i=0:=by omega
  subst this
  rw [h0.1];rfl
 ·intro i hi hne l hl
  have:=ht i (by omega) (by omega) hne
  have:i=0:=by omega
  subst this
  rw [h0.1] at hl;cases hl
 ·intro i hi hf hne
  have hT:=hR.tie _ (List.getElem_mem hi)
  exact absurd (ht _ hT.t0 hT.t1 hne) (fc h hi hf).t0
 ·intro i hi hf hne _
  have hT:=hR.tie _ (List.getElem_mem hi)
  have e:=ht _ hT.f0 hT.f1 hne
  rw [e,ht0]
  have:=(uT hc h hi hf).1
  have:=(fc h hi hf).low
  show (0:Int) - 0≤_
  omega
 ·intro i hi hf hne
  have hT:=hR.tie _ (List.getElem_mem hi)
  exact absurd (ht _ hT.t0 hT.t1 hne) (fc h hi hf).t0
theorem KB {s:GShow}{x:GState}(hx:aD s x=true){ties:List Int}(ht:ties∈bu s x){nodes:List Int}(hn:nodes∈decL s (endX s x ties))(vs:List Int) :
  ∀ i:Int,0≤i→tm (obsX (decX (endX s x ties) nodes) (aE s nodes) vs).times i=if i∈nodes then x.now else if i∈ties.map (fun k=>(aH s k).to) then x.now else tm x.times i:=by
 have hR:=bb hx
 obtain ⟨_,_,ha⟩:=lS hR.ok ht
 have hM:=lv hx ht
 obtain ⟨_,_,hm⟩:=fV hM.right hn
 have hlen:(endX s x ties).times.length=s.nodes.length:=hM.len
 intro i hi
 show tm (bn (fun k=>k) (endX s x ties).now nodes (endX s x ties).times) i=_
 rw [rl _ _ _ _ _ hi (fun k hk=>by obtain ⟨j,hj,e,_,_⟩:=ni (hm k hk);omega),List.map_id',tX hx ha hi]
 rfl
theorem uU {s:GShow}{x:GState}(hx:aD s x=true){i:Nat}(hi:i<s.nodes.length)(hl:cd (bv s i) x.values=1){l:Int}(hm:l∈bv s i) :
  0≤aI s (pr l)∧aI s (pr l)<s.nodes.length∧tm x.times (aI s (pr l))≠-1∧tm x.times (aI s (pr l))+1≤x.now:=by
 have hR:=bb hx
 have h1:=(td.1 hl) l hm
 have hlo:=oe hR.ok hi
 rw [jN hi] at hm
 obtain ⟨p1,p2,p3⟩:=sL hlo.1 hm
 have p4:=uN p2 p3
 have hne:tm x.values (pr l - 1)≠0:=by
  unfold litV at h1
  split at h1 <;> omega
 have hx2:=hx
 unfold aD at hx2
 simp only [Bool.and_eq_true,decide_eq_true_eq] at hx2
 have hw:=hx2.2 (pr l - 1).toNat (by unfold fB;omega)
 unfold ls at hw
 rw [show (((pr l - 1).toNat:Nat):Int)=pr l - 1 by omega] at hw
 change (decide (tm x.values (pr l - 1)≠0) == (decide (0≤aI s (pr l - 1+1))&&decide (tm x.times (aI s (pr l - 1+1))≠-1)))=true at hw
 rw [show pr l - 1+1=pr l by omega,decide_eq_true hne] at hw
 simp only [beq_iff_eq,Bool.true_eq,Bool.and_eq_true,decide_eq_true_eq] at hw
 obtain ⟨w1,w2⟩:=hw
 obtain ⟨j,hj,e,hq,_⟩:=fR (show 0≤aK s.nodes (fun n=>decide (n.watch=pr l)) from w1)
 have e':aI s (pr l)=(j:Int):=e
 refine ⟨w1,by rw [e'];omega,w2,?_⟩
 have hj0:j≠0:=by
  rintro rfl
  have:=(uS hR.ok).2 hj
  simp only [decide_eq_true_eq] at hq
  omega
 have htp:=hx2.1.2 j (by rw [hR.len];exact hj)
 unfold lQ at htp
 rw [if_neg hj0,decide_eq_true_eq] at htp
 rw [e'];omega
theorem Nu {s:GShow}{c:GChoice}{x:GState}(hx:aD s x=true)(hc:aO s c=true)(hI:ub s c x)(ht:endL s x c∈bu s x){nodes:List Int}(hn:nodes∈decL s (endX s x (endL s x c))) :
  ub s c (obsX (decX (endX s x (endL s x c)) nodes) (aE s nodes) (dq c.values (aE s nodes))):=by
 have hR:=bb hx
 have hok:=hR.ok
 obtain ⟨hh,_,ha⟩:=lS hok ht
 have hM:=lv hx ht
 obtain ⟨_,_,hm⟩:=fV hM.right hn
 have hE:=Hi hx hh ht hn (dq c.values (aE s nodes))
 have hT:=KB hx ht hn (dq c.values (aE s nodes))
 have heL:endL s x c=(actL s x).filter (fun k=>!endP s x c k):=by unfold endL;rw [if_pos ⟨hx,hc⟩]
 have hx2:=hx
 unfold aD at hx2
 simp only [Bool.and_eq_true,decide_eq_true_eq] at hx2
 have htp:∀ j:Nat,j<s.nodes.length→j≠0→tm x.times (j:Int)≤x.now - 1:=by
  intro j hj hj0
  have h5:=hx2.1.2 j (by rw [hR.len];exact hj)
  unfold lQ at h5
  rw [if_neg hj0,decide_eq_true_eq] at h5
  exact h5.2
 have hV:(obsX (decX (endX s x (endL s x c)) nodes) (aE s nodes) (dq c.values (aE s nodes))).values=setV (aE s nodes) ((aE s nodes).map (fun p=>tm c.values (p - 1))) x.values (aE s nodes).length:=rfl
 have hN:(obsX (decX (endX s x (endL s x c)) nodes) (aE s nodes) (dq c.values (aE s nodes))).now=x.now+1:=rfl
 generalize hz:obsX (decX (endX s x (endL s x c)) nodes) (aE s nodes) (dq c.values (aE s nodes))=z at *
 have newN:∀ i:Int,i∈nodes→∃ j:Nat,i=(j:Int)∧j<s.nodes.length∧0<j∧mR s (j:Int)<0∧cd (bv s j) x.values=1:=by
  intro i hi
  obtain ⟨j,hj,hp,rfl⟩:=fC.1 (hm i hi)
  unfold enAt chAt opAt at hp
  simp only [Bool.and_eq_true,decide_eq_true_eq] at hp
  exact ⟨j,rfl,hj,hp.1.1,hp.1.2,hp.2.2⟩
 have newT:∀ i:Int,i∈(endL s x c).map (fun k=>(aH s k).to)→∃ k,∃ hk:k<s.ties.length,s.ties[k].free=true∧s.ties[k].to=i∧tm x.times s.ties[k].from_≠-1∧tm x.times i=-1∧¬ x.now - tm x.times s.ties[k].from_<eZ s c (k:Int):=by
  intro i hi
  rw [List.mem_map] at hi
  obtain ⟨k,hk,rfl⟩:=hi
  obtain ⟨j,hj,rfl,h1,h2,h3⟩:=oa (ha k hk)
  rw [heL,List.mem_filter] at hk
  have h4:=hk.2
  unfold endP at h4
  rw [bU hj] at h4 ⊢
  simp only [Bool.not_eq_true',decide_eq_false_iff_not] at h4
  exact ⟨j,hj,h1,rfl,h2,h3,h4⟩
 have labN:∀ i:Nat,i<s.nodes.length→cd (bv s i) x.values=1→cd (bv s i) z.values=1:=by
  intro i hi hl
  have:=Hk hR hE (i:=(i:Int)) (by omega) (by omega) (by unfold fE;rw [decide_eq_true_eq];exact hl)
  unfold fE at this
  rw [decide_eq_true_eq] at this
  exact this
 have litN:∀ i:Nat,i<s.nodes.length→cd (bv s i) x.values=1→x.now≤tm z.times (i:Int)→∀ l,l∈bv s i→tm z.times (aI s (pr l))≠-1∧tm z.times (aI s (pr l))+1≤tm z.times (i:Int):=by
  intro i hi hl hnow l hm
  obtain ⟨w1,w2,w3,w4⟩:=uU hx hi hl hm
  rw [hE.t1 _ w1 w2 w3]
  exact ⟨w3,by omega⟩
 have fromLab:∀ k (hk:k<s.ties.length),s.ties[k].free=true→tm x.times s.ties[k].from_≠-1→∀ i:Nat,s.ties[k].to=(i:Int)→cd (bv s i) x.values=1:=by
  intro k hk hf hne i hi
  have hTk:=hR.right.tie _ (List.getElem_mem hk)
  have h1:=hI.lab s.ties[k].from_.toNat (by have:=hTk.f0;have:=hTk.f1;omega) (by rw [show ((s.ties[k].from_.toNat:Nat):Int)=s.ties[k].from_ by have:=hTk.f0;omega];exact hne)
  rw [← KA hok hk hf,hi,Int.toNat_natCast] at h1
  exact h1
 refine ⟨?_,?_,?_,?_,?_,?_⟩
 ·intro k h1 h2 hne
  by_cases h0:tm x.values k=0
  ·rw [hV] at hne ⊢
   by_cases hin:∃ i,i<(aE s nodes).length∧(aE s nodes).getD i 0 - 1=k
   ·rw [Hu _ (bh hR.val).1 (fun p hp=>⟨(bw hp).1,(bw hp).2.1⟩) _ (Nat.le_refl _) k h1 hin]
    simp only [Int.add_sub_cancel]
   ·rw [tZ (bh hR.val).1 (fun p hp=>⟨(bw hp).1,(bw hp).2.1⟩) _ (Nat.le_refl _) k h1 (fun i hi he=>hin ⟨i,hi,he⟩)] at hne
    exact absurd h0 hne
  ·rw [hE.v k h1 h0]
   exact hI.val k h1 h2 h0
 ·intro i hi hne
  refine labN i hi ?_
  rw [hT _ (by omega)] at hne
  by_cases h1:(i:Int)∈nodes
  ·obtain ⟨j,e,_,_,_,h2⟩:=newN _ h1
   obtain rfl:i=j:=by omega
   exact h2
  ·rw [if_neg h1] at hne
   by_cases h2:(i:Int)∈(endL s x c).map (fun k=>(aH s k).to)
   ·obtain ⟨k,hk,hf,e,h3,h4,_⟩:=newT _ h2
    exact fromLab k hk hf h3 i e
   ·rw [if_neg h2] at hne
    exact hI.lab i hi hne
 ·intro i hi hne l hl
  by_cases h1:(i:Int)∈nodes
  ·obtain ⟨j,e,_,_,_,h2⟩:=newN _ h1
   obtain rfl:i=j:=by omega
   exact litN i hi h2 (by rw [hT _ (by omega),if_pos h1];exact Int.le_refl _) l hl
  ·by_cases h2:(i:Int)∈(endL s x c).map (fun k=>(aH s k).to)
   ·obtain ⟨k,hk,hf,e,h3,h4,_⟩:=newT _ h2
    exact litN i hi (fromLab k hk hf h3 i e) (by rw [hT _ (by omega),if_neg h1,if_pos h2];exact Int.le_refl _) l hl
   ·have hne':tm x.times (i:Int)≠-1:=by rw [hT _ (by omega),if_neg h1,if_neg h2] at hne;exact hne
    obtain ⟨w3,w4⟩:=hI.lit i hi hne' l hl
    obtain ⟨w1,w2,_,_⟩:=uU hx hi (hI.lab i hi hne') hl
    rw [hE.t1 _ w1 w2 w3,hE.t1 (i:Int) (by omega) (by omega) hne']
    exact ⟨w3,w4⟩
 ·intro i hi hf hne
  have hTi:=hR.right.tie _ (List.getElem_mem hi)
  have hfr:tm x.times s.ties[i].from_≠-1:=by
   rw [hT _ hTi.t0] at hne
   by_cases h1:s.ties[i].to∈nodes
   ·obtain ⟨j,e,hj,_,h3,_⟩:=newN _ h1
    have:=ja (xs:=s.ties) (q:=fun t=>t.free&&decide (t.to=(j:Int)))
    unfold mR at h3
    rw [decide_eq_false (by omega)] at this
    have h4:=this.symm
    rw [List.any_eq_false] at h4
    exact absurd (by rw [hf,decide_eq_true e];rfl) (h4 s.ties[i] (List.getElem_mem hi))
   ·rw [if_neg h1] at hne
    by_cases h2:s.ties[i].to∈(endL s x c).map (fun k=>(aH s k).to)
    ·obtain ⟨k,hk,hfk,e,h3,h4,_⟩:=newT _ h2
     obtain rfl:=uJ hok hk hi hfk hf e
     exact h3
    ·rw [if_neg h2] at hne
     exact hI.ord i hi hf hne
  rw [hE.t1 _ hTi.f0 hTi.f1 hfr]
  exact hfr
 ·intro i hi hf hne hop
  have hTi:=hR.right.tie _ (List.getElem_mem hi)
  have hlen:=uT hc hok hi hf
  have hlow:=(fc hok hi hf).low
  have hop':tm x.times s.ties[i].to=-1:=by
   refine Classical.byContradiction (fun h1=>?_)
   rw [hE.t1 _ hTi.t0 hTi.t1 h1] at hop
   exact h1 hop
  rw [hN]
  by_cases hfr:tm x.times s.ties[i].from_=-1
  ·have:tm z.times s.ties[i].from_=x.now:=by
    rw [hT _ hTi.f0] at hne ⊢
    by_cases h1:s.ties[i].from_∈nodes
    ·rw [if_pos h1]
    ·rw [if_neg h1] at hne ⊢
     by_cases h2:s.ties[i].from_∈(endL s x c).map (fun k=>(aH s k).to)
     ·rw [if_pos h2]
     ·rw [if_neg h2] at hne;exact absurd hfr hne
   omega
  ·rw [hE.t1 _ hTi.f0 hTi.f1 hfr]
   have hact:(i:Int)∈actL s x:=by
    refine fC.2 ⟨i,hi,?_,rfl⟩
    unfold kQ actT
    rw [List.getElem?_eq_getElem hi]
    simp only [Option.any_some,hf,Bool.true_and,decide_eq_true_eq]
    exact ⟨hfr,hop'⟩
   have hnot:¬ (i:Int)∈endL s x c:=by
    intro hin
    have:s.ties[i].to∈(endL s x c).map (fun k=>(aH s k).to):=List.mem_map.2 ⟨(i:Int),hin,by rw [bU hi]⟩
    have h1:=hT _ hTi.t0
    rw [if_pos this] at h1
    have h2:=hR.now
    split at h1 <;> omega
   have hlt:x.now - tm x.times s.ties[i].from_<eZ s c (i:Int):=by
    refine Classical.byContradiction (fun h1=>hnot ?_)
    rw [heL,List.mem_filter]
    refine ⟨hact,?_⟩
    unfold endP
    rw [bU hi,decide_eq_false h1];rfl
   omega
 ·intro i hi hf hne
  have hTi:=hR.right.tie _ (List.getElem_mem hi)
  by_cases hto:tm x.times s.ties[i].to=-1
  ·have h0:=hT _ hTi.t0
   by_cases h1:s.ties[i].to∈nodes
   ·obtain ⟨j,e,hj,_,h3,_⟩:=newN _ h1
    have:=ja (xs:=s.ties) (q:=fun t=>t.free&&decide (t.to=(j:Int)))
    unfold mR at h3
    rw [decide_eq_false (by omega)] at this
    have h4:=this.symm
    rw [List.any_eq_false] at h4
    exact absurd (by rw [hf,decide_eq_true e];rfl) (h4 s.ties[i] (List.getElem_mem hi))
   ·rw [if_neg h1] at h0
    by_cases h2:s.ties[i].to∈(endL s x c).map (fun k=>(aH s k).to)
    ·rw [if_pos h2] at h0
     obtain ⟨k,hk,hfk,e,h3,h4,h5⟩:=newT _ h2
     obtain rfl:=uJ hok hk hi hfk hf e
     have:=hI.act k hk hf h3 hto
     rw [h0,hE.t1 _ hTi.f0 hTi.f1 h3]
     omega
    ·rw [if_neg h2] at h0
     rw [h0] at hne
     exact absurd hto hne
  ·have hfr:=hI.ord i hi hf hto
   rw [hE.t1 _ hTi.t0 hTi.t1 hto,hE.t1 _ hTi.f0 hTi.f1 hfr]
   exact hI.fin i hi hf hto
theorem Hv (c:GChoice):∀ (n:Nat) (d:GDesk),gq d=true→aO d.show_ c=true→ub d.show_ c d.state→ub d.show_ c (runF c n d).1.state∧(runF c n d).1.show_=d.show_
 | 0,d,_,_,hI=>⟨hI,rfl⟩
 | n+1,d,hd,hc,hI=>by
  unfold runF
  by_cases h0:(bo c d).2.2=0
  ·rw [if_pos h0]
   unfold bo at h0 ⊢
   obtain ⟨hg,nd,hnd,he⟩:=rW h0
   have hmem:nd∈decL d.show_ (endX d.show_ d.state (endL d.show_ d.state c)):=by
    unfold uR at hnd
    exact (ph hnd).1
   rw [he]
   have h1:=Hr hg hmem
   have h2:=Nu (lJ hd) hc hI (lK hg).2.2.1 hmem
   exact Hv c n _ h1 hc h2
  ·rw [if_neg h0]
   exact ⟨hI,rfl⟩
structure Done (s:GShow) (c:GChoice) (T:List Int):Prop where
 len:T.length=s.nodes.length
 root:tm T 0=0
 hap:∀ i:Nat,i<s.nodes.length→(tm T (i:Int)≠-1↔cd (bv s i) c.values=1)
 hor:∀ i:Nat,i<s.nodes.length→-1≤tm T (i:Int)∧tm T (i:Int)≤s.horizon
 tie:∀ t,t∈s.ties→tm T t.from_≠-1→tm T t.to≠-1→t.low≤tm T t.to - tm T t.from_∧tm T t.to - tm T t.from_≤t.high
 fin:∀ i (hi:i<s.ties.length),s.ties[i].free=true→tm T s.ties[i].to≠-1→tm T s.ties[i].from_≠-1∧tm T s.ties[i].to - tm T s.ties[i].from_=eZ s c (i:Int)
 lit:∀ i:Nat,i<s.nodes.length→tm T (i:Int)≠-1→∀ l,l∈bv s i→0≤aI s (pr l)∧aI s (pr l)<s.nodes.length∧tm T (aI s (pr l))≠-1∧tm T (aI s (pr l))+1≤tm T (i:Int)
theorem LY {l v:List Int}(h:cd l v=-1):∃ x,x∈l∧litV v x≤-1:=by
 have key:∀ (l:List Int) (o:Int),-1<o→l.foldl (fun o x=>if litV v x<o then litV v x else o) o=-1→∃ x,x∈l∧litV v x≤-1:=by
  intro l
  induction l with
  | nil=>intro o ho he;simp at he;omega
  | cons a l ih=>
   intro o ho he
   rw [List.foldl_cons] at he
   by_cases h1:litV v a≤-1
   ·exact ⟨a,by simp,h1⟩
   ·obtain ⟨x,hx,hl⟩:=ih (if litV v a<o then litV v a else o) (by split <;> omega) he
    exact ⟨x,by simp [hx],hl⟩
 exact key l 1 (by omega) h
theorem KD {s:GShow}{c:GChoice}{x:GState}(hc:aO s c=true)(hI:ub s c x)(hd:nk s x=true):Done s c x.times:=by
 unfold nk at hd
 split at hd
 ·rename_i hx
  split at hd
  ·cases hd
  ·rename_i hb
   have hR:=bb hx
   have hok:=hR.ok
   have hx2:=hx
   unfold aD at hx2
   simp only [Bool.and_eq_true,decide_eq_true_eq] at hx2
   have cv:=rC hc
   have litEq:∀ i:Nat,i<s.nodes.length→∀ l,l∈bv s i→litV x.values l≠0→litV x.values l=litV c.values l:=by
    intro i hi l hl hne
    have hlo:=oe hok hi
    rw [jN hi] at hl
    obtain ⟨p1,p2,p3⟩:=sL hlo.1 hl
    have p4:=uN p2 p3
    unfold litV at hne ⊢
    have h1:tm x.values (pr l - 1)≠0:=by split at hne <;> omega
    rw [hI.val _ (by omega) (by omega) h1]
   refine ⟨hR.len,?_,?_,?_,?_,?_,?_⟩
   ·have h5:=hx2.1.2 0 (by rw [hR.len];have:=hR.right.node1;omega)
    unfold lQ at h5
    rw [if_pos rfl,decide_eq_true_eq] at h5
    exact h5
   ·intro i hi
    constructor
    ·intro hne
     have h1:=hI.lab i hi hne
     rw [td] at h1 ⊢
     intro l hl
     have:=h1 l hl
     rw [← litEq i hi l hl (by omega)];exact this
    ·intro hl hne
     unfold fD at hd
     have h1:=List.all_eq_true.1 hd i (List.mem_range.2 hi)
     unfold og at h1
     rw [decide_eq_true hne] at h1
     simp only [Bool.true_and,Bool.not_not,decide_eq_true_eq] at h1
     obtain ⟨l,hm,hlt⟩:=LY h1
     have h2:=(td.1 hl) l hm
     rw [← litEq i hi l hm (by omega)] at h2
     omega
   ·intro i hi
    have h5:=hx2.1.2 i (by rw [hR.len];exact hi)
    unfold lQ at h5
    have h6:=hR.now
    have h7:=hR.right.hor
    split at h5
    ·rename_i h0
     subst h0
     rw [decide_eq_true_eq] at h5
     rw [show ((0:Nat):Int)=0 from rfl,h5];omega
    ·rw [decide_eq_true_eq] at h5
     omega
   ·intro t ht h1 h2
    have hb':ca s x=false:=by simpa using hb
    unfold ca at hb'
    rw [Bool.or_eq_false_iff] at hb'
    have h3:=List.any_eq_false.1 hb'.1 t ht
    unfold late at h3
    rw [if_neg h1,if_neg h2] at h3
    simp only [Bool.not_eq_true,Bool.or_eq_false_iff,decide_eq_false_iff_not] at h3
    omega
   ·intro i hi hf hne
    exact ⟨hI.ord i hi hf hne,hI.fin i hi hf hne⟩
   ·intro i hi hne l hl
    obtain ⟨w1,w2,_,_⟩:=uU hx hi (hI.lab i hi hne) hl
    obtain ⟨w3,w4⟩:=hI.lit i hi hne l hl
    exact ⟨w1,w2,w3,w4⟩
 ·cases hd
theorem LZ {s:GShow}{c:GChoice}{z:Bool}(hs:az s=true)(hc:aO s c=true)(hd:nk s (runR (dY s z).1 c).1.state=true):Done s c (runR (dY s z).1 c).1.state.times:=by
 have e:(dY s z).1=⟨s,aL s,z,[]⟩:=by unfold dY;rw [if_pos hs]
 have hdk:=zL z hs
 rw [e] at hdk hd ⊢
 unfold runR at hd ⊢
 rw [if_pos hdk,if_pos hc] at hd ⊢
 obtain ⟨h1,h2⟩:=Hv c 13 _ hdk hc (LX hs hc)
 exact KD hc h1 hd
end Go.Proofs.Qb
set_option maxRecDepth 100000
set_option maxHeartbeats 1000000
namespace Go.Proofs.Qb
open Go Go.Lib
theorem Ma (l:List UInt8):bs (ofL l)=l:=by simp [bs,ofL]
theorem Ew (a b:ByteArray):bs (a++b)=bs a++bs b:=by
 unfold bs;rw [ByteArray.data_append,Array.toList_append]
theorem uc (s:ByteArray):s.size=(bs s).length:=by unfold bs;rw [Array.length_toList];rfl
def i64 (n:Int):Prop:=-9223372036854775808≤n∧n≤9223372036854775807
theorem ES {u:Nat}(h:¬ u<10):decDigits u=decDigits (u / 10)++[UInt8.ofNat (48+u % 10)]:=by rw [decDigits,dif_neg h]
theorem te {u:Nat}(h:u<10):decDigits u=[UInt8.ofNat (48+u)]:=by rw [decDigits,dif_pos h]
theorem rD:∀ (k u:Nat),u<10^(k+1)→(decDigits u).length≤k+1
 | 0,u,h=>by rw [te (by omega)];simp
 | k+1,u,h=>by
  by_cases h1:u<10
  ·rw [te h1];simp
  ·rw [ES h1,List.length_append,List.length_singleton]
   have:=rD k (u / 10) (by rw [Nat.pow_succ] at h;omega)
   omega
theorem zO {n:Int}(h:i64 n):(itoa n).length≤20:=by
 have h1:=h.1
 have h2:=h.2
 unfold itoa;split
 ·have:=rD 18 n.natAbs (by omega)
  simp only [List.length_cons];omega
 ·have:=rD 18 n.toNat (by omega)
  omega
theorem ud {n:Int}(h:i64 n):du n=some (ofL (itoa n)):=by
 unfold du nc JN
 rw [if_pos (show -9223372036854775808≤n∧n≤9223372036854775807 from h)];rfl
def val (l:List UInt8):Nat:=l.foldl (fun a c=>a*10+(c.toNat - 48)) 0
end Go.Proofs.Qb
set_option maxRecDepth 100000
set_option maxHeartbeats 1000000
namespace Go.Proofs.Qb
open Go Go.Lib
theorem Hw {B:Nat}(sep:List UInt8)(xs:List (List UInt8))(h:∀ x,x∈xs→x.length≤B):(Lib.join xs sep).length≤xs.length*(B+sep.length):=by
 have key:∀ xs:List (List UInt8),(∀ x,x∈xs→x.length≤B)→(joinTail sep xs).length≤xs.length*(B+sep.length):=by
  intro xs
  induction xs with
  | nil=>intro _;simp [joinTail]
  | cons x r ih=>
   intro h
   have h1:=ih (fun y hy=>h y (by simp [hy]))
   have h2:=h x (by simp)
   simp only [joinTail,List.map_cons,List.flatten_cons,List.length_append,List.length_cons] at h1 ⊢
   rw [Nat.succ_mul];omega
 cases xs with
 | nil=>simp [Lib.join_nil]
 | cons x r=>
  rw [Lib.join_cons,List.length_append,List.length_cons,Nat.succ_mul]
  have h1:=key r (fun y hy=>h y (by simp [hy]))
  have h2:=h x (by simp)
  omega
def UR (l:List ByteArray)(sep:ByteArray):ByteArray:=ofL (Lib.join (l.map bs) (bs sep))
theorem Mb (l:List ByteArray)(sep:ByteArray)(h1:l.length≤1073741824)(h2:(Lib.join (l.map bs) (bs sep)).length≤1099511627776):kC l sep=some (UR l sep):=by
 unfold kC ng JO
 rw [if_pos ⟨by omega,by omega⟩];rfl
end Go.Proofs.Qb
