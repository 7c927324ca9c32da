/- The reference's game reckons winning too. Own work. -/
import Derived.Test.YtpkcmjnlnbddbaaGreatDoorXcP33
import Derived.Test.YtpkcmjnlnbddbaaGreatDoorXcP24
import Derived.Lib.AtoiAllCases
import Derived.Lib.IndexBytes
set_option linter.all false
set_option maxRecDepth 100000
namespace Go.Proofs.Qc
open Go
abbrev RecS:=GShow→GState→Option Bool
def yc (s:GShow)(t:Int)(rec:RecS):Prop:=∀ x,aC s x=true→x.now=t→rec s x=some (win s x)
theorem yd {s:GShow}(hs:aM s){rec:RecS}{y:GState}(hr:yc s (y.now+1) rec)(h:MomR s y){nodes:List Int}(hn:nodes∈decL s y):iv rec s y nodes=some (bK (win s) s y nodes):=by
 obtain⟨ha,hl7,hm⟩:=dQ h.right hn
 have hv:=(bb h.val).1
 have h7:=h.right.nodes
 have hln:=h.len
 have hnow:=h.now
 have hh:=h.right.hor
 have hp:∀ p,p∈az s nodes→1≤p∧p≤3:=fun p hp=>⟨(bN hp).1,(bN hp).2.1⟩
 have hl3:=oH s nodes
 have ho:=II (ps:=az s nodes) (by omega)
 unfold iv
 rw[uH hs h hl7 hm]
 simp only[obnd]
 rw[xd (yb s nodes) hp hl3]
 simp only
 have key:=eW (body:=jB rec (((obsL (az s nodes)).length:Nat):Int) s.nodes s.ties s.horizon (decX y nodes).now (decX y nodes).times (decX y nodes).values (az s nodes) (obsL (az s nodes)))
  (obsL (az s nodes)) (fun vs=>win s (obsX (decX y nodes) (az s nodes) vs)) (fun i=>(i:Int)) (rT:=.inl ()) (rF:=.inr false) ?_ ?_ ?_
 ·rw[show((0:Nat):Int)=0 from rfl]at key
  rw[key]
  unfold bK
  cases(obsL (az s nodes)).all (fun vs=>win s (obsX (decX y nodes) (az s nodes) vs)) <;> rfl
 all_goals first
  | (
   intro i hi hq
   obtain⟨h1,h2⟩:=tZ (List.getElem_mem hi)
   have hob:=vT h hm h1 h2
   have e:=hr _ hob rfl
   unfold jB
   try simp only
   rw[if_pos (by omega),ao hi]
   simp only[obnd]
   rw[show(GState.mk (decX y nodes).now (decX y nodes).times (decX y nodes).values)=decX y nodes from rfl,(nM (decX y nodes) (az s nodes) _ (by show 0≤y.now∧y.now≤1000;omega) (by show(bk _ _ _ _).length≤_;rw[ct];omega) hv hp h1 (by omega)).2]
   simp only
   rw[show(GShow.mk s.nodes s.ties s.horizon)=s from rfl,e,hq]
   first|rfl|(simp only[if_true];rw[wr (by omega) (by omega)];rfl))
  | (
   unfold jB
   try simp only
   rw[if_neg (by omega)])
theorem ON {s:GShow}(hs:aM s){rec:RecS}{y:GState}(hr:yc s (y.now+1) rec)(h:MomR s y):lj rec s y=some (anyB (win s) s y):=by
 have h7:=vQ h.right y
 have hpow:=qg h7
 have hpos:0<2^(enL s y).length:=Nat.pow_pos (by omega)
 unfold lj
 rw[wS hs h]
 simp only[obnd]
 rw[wru (by omega),ai (by omega),Int.toNat_natCast,mC h7,wr (by omega) (by omega)]
 have hlen:(decL s y).length=2^(enL s y).length:=by unfold decL;simp
 have hget:∀ j (hj:j<(decL s y).length),(decL s y)[j]=lY s y j:=by
  intro j hj
  have:(decL s y)[j]?=some (lY s y j):=by
   unfold decL
   rw[List.getElem?_map,List.getElem?_range (by omega)];rfl
  rw[List.getElem?_eq_getElem hj]at this
  exact Option.some.inj this
 have key:=gG (body:=iw rec s.nodes s.ties s.horizon y.now y.times y.values (enL s y)) (decL s y) (bK (win s) s y) (fun j=>((2^(enL s y).length:Nat):Int) - 1 - (j:Int)) (rT:=.inl ()) (fun _=>.inr true) ?_ ?_ ?_
 ·simp only[Int.natCast_zero,Int.sub_zero]at key
  rw[key]
  unfold anyB
  have hany:(decL s y).any (bK (win s) s y)=((decL s y).findIdx? (bK (win s) s y)).isSome:=(List.findIdx?_isSome).symm
  rw[hany]
  cases(decL s y).findIdx? (bK (win s) s y) <;> rfl
 ·intro j hj hq
  have hmem:=List.getElem_mem hj
  have e:=yd hs hr h hmem
  rw[hget j hj]at e hq
  have hd:lY s y j=sel (cz (((2^(enL s y).length:Nat):Int) - 1 - (j:Int))) (enL s y) (enL s y).length:=by
   unfold lY
   rw[show((2^(enL s y).length - 1 - j:Nat):Int)=((2^(enL s y).length:Nat):Int) - 1 - (j:Int) by omega]
  unfold iw
  try simp only
  rw[if_pos (by omega),rZ _ _ (by omega),← hd]
  simp only[obnd]
  rw[show(GShow.mk s.nodes s.ties s.horizon)=s from rfl,show(GState.mk y.now y.times y.values)=y from rfl,e,hq]
  simp only[Bool.false_eq_true,if_false]
  rw[wr (by omega) (by omega)]
  congr 2
  omega
 ·intro j hj hq
  have hmem:=List.getElem_mem hj
  have e:=yd hs hr h hmem
  rw[hget j hj]at e hq
  have hd:lY s y j=sel (cz (((2^(enL s y).length:Nat):Int) - 1 - (j:Int))) (enL s y) (enL s y).length:=by
   unfold lY
   rw[show((2^(enL s y).length - 1 - j:Nat):Int)=((2^(enL s y).length:Nat):Int) - 1 - (j:Int) by omega]
  unfold iw
  try simp only
  rw[if_pos (by omega),rZ _ _ (by omega),← hd]
  simp only[obnd]
  rw[show(GShow.mk s.nodes s.ties s.horizon)=s from rfl,show(GState.mk y.now y.times y.values)=y from rfl,e,hq]
  rfl
 ·unfold iw
  try simp only
  rw[if_neg (by omega)]
theorem Gi {s:GShow}(hs:aM s){rec:RecS}{x:GState}(hx:aC s x=true)(hr:yc s (x.now+1) rec):ll rec s x=some (win s x):=by
 have hR:=bc hx
 have hv:=(bb hR.val).1
 have h6:=ug hR.ok x
 have hmm:=uE s x
 have hpow:=qg (m:=(mayL s x).length) (by omega)
 unfold ll
 rw[uI hs hR]
 simp only[obnd]
 have hw:=IM hx
 unfold mE at hw
 cases hb:dC s x
 ·rw[hb]at hw
  simp only[Bool.false_eq_true,if_false]at hw ⊢
  rw[wC hs hR]
  simp only
  cases ho:kG s x
  ·rw[ho]at hw
   simp only[Bool.false_eq_true,if_false]at hw ⊢
   obtain⟨b,eb,hbw⟩:=JZ hs hx
   rw[eb]
   simp only
   cases b
   ·simp only[Bool.false_eq_true,if_false]
    rw[wQ hx]
    simp only
    have hh:x.now≤s.horizon:=by
     unfold dC at hb
     rw[Bool.or_eq_false_iff,ho]at hb
     have:=hb.2
     simp only[Bool.not_false,Bool.and_true,decide_eq_false_iff_not]at this
     omega
    have hends:bD s x=(List.range (2^(mayL s x).length)).map (lA s x):=by unfold bD;rw[if_neg (by omega)]
    have hlen:(bD s x).length=2^(mayL s x).length:=by rw[hends];simp
    have hget:∀ j (hj:j<(bD s x).length),(bD s x)[j]=lA s x j:=by
     intro j hj
     have:(bD s x)[j]?=some (lA s x j):=by
      rw[hends,List.getElem?_map,List.getElem?_range (by omega)];rfl
     rw[List.getElem?_eq_getElem hj]at this
     exact Option.some.inj this
    have step:∀ j (hj:j<(bD s x).length),ix rec s.nodes s.ties s.horizon x.now x.times x.values (lz s x) (mayL s x) (j:Int)=(if anyB (win s) s (endX s x (bD s x)[j])=true then some (.next ((j:Int)+1)) else some (.done (.inr false))):=by
     intro j hj
     have hmem:=List.getElem_mem hj
     obtain⟨a1,a2,a3⟩:=kB hR.ok hmem
     have hM:=mF hx hmem
     have e:=ON hs (y:=endX s x (bD s x)[j]) hr hM
     obtain⟨f1,f2,f3,f4,f5,f6⟩:=sX hR.ok x j
     rw[hget j hj]at e a2 a3 ⊢
     unfold ix
     try simp only
     rw[wru (by omega),ai (by omega),Int.toNat_natCast,mC (by omega),if_pos (by omega),rZ _ _ (by omega)]
     simp only[obnd]
     rw[f2]
     simp only
     rw[show(GShow.mk s.nodes s.ties s.horizon)=s from rfl,show(GState.mk x.now x.times x.values)=x from rfl,xZ hx (by omega) (by omega) a3]
     simp only
     rw[e]
     simp only
     rw[wr (by omega) (by omega)]
    have key:=eW (body:=ix rec s.nodes s.ties s.horizon x.now x.times x.values (lz s x) (mayL s x)) (bD s x) (fun ties=>anyB (win s) s (endX s x ties)) (fun i=>(i:Int)) (rT:=.inl ()) (rF:=.inr false) ?_ ?_ ?_
    ·rw[show((0:Nat):Int)=0 from rfl]at key
     rw[key,hw]
     cases(bD s x).all (fun ties=>anyB (win s) s (endX s x ties)) <;> rfl
    ·intro i hi hq
     rw[step i hi,hq];rfl
    ·intro i hi hq
     rw[step i hi,hq];rfl
    ·unfold ix
     try simp only
     rw[wru (by omega),ai (by omega),Int.toNat_natCast,mC (by omega),if_neg (by omega)]
   ·simp only[if_true]
    rw[hbw rfl]
  ·rw[ho]at hw
   rw[hw];rfl
 ·rw[hb]at hw
  rw[hw];rfl
theorem wT {s:GShow}(hs:aM s):∀ (n:Nat) (t:Int),12≤(n:Int)+t→yc s t (lm n)
 | 0,t,h=>by
  intro x hx ht
  have:=(bc hx).now
  have:=(bc hx).right.hor
  omega
 | n+1,t,h=>by
  intro x hx ht
  exact Gi hs hx (by rw[ht];exact wT hs n (t+1) (by omega))
theorem Ka {s:GShow}(hs:aM s)(t:Int)(h:0≤t):yc s t m_spec_l15Win:=wT hs 40 t (by omega)
theorem Dv {s:GShow}(hs:aM s){y:GState}(h:MomR s y){nodes:List Int}(hn:nodes∈decL s y):oS s y nodes=some (bK (win s) s y nodes):=
 yd hs (Ka hs _ (by have:=h.now;omega)) h hn
end Go.Proofs.Qc
set_option maxRecDepth 100000
namespace Go.Proofs.Qc
open Go
theorem EM {α:Type}{l:List α}{n:Nat}{x:α}(h:n<l.length):(l.set n x).take (n+1)=l.take n++[x]:=by
 have e:(l.set n x).take n=l.take n:=by
  apply List.ext_getElem?
  intro i
  rw[List.getElem?_take,List.getElem?_take]
  split
  ·rw[List.getElem?_set_ne (by omega)]
  ·rfl
 rw[cq (by simp;exact h),e]
 simp
theorem LU {α:Type}{xs ys:List α}{i:Nat}(h:i+ys.length≤xs.length):(putL xs i ys).take i=xs.take i:=by
 unfold putL
 rw[if_pos h,List.append_assoc,List.take_append_of_le_length (by rw[List.length_take];omega),List.take_take]
 simp
theorem LV {α β ρ:Type}(xs:List α)(q:α→Bool)(I:β→Prop)(body:Int × β→Option (Step (Int × β) ρ))(rT:β→ρ)(rF:Int→β→ρ)
  (h1:∀ i (hi:i<xs.length) k,I k→∃ k',I k'∧body ((i:Int),k)=some (if q xs[i]=true then .done (rF (i:Int) k') else .next ((i:Int)+1,k')))
  (h2:∀ k,I k→body ((xs.length:Int),k)=some (.done (rT k))) (k:β) (hk:I k) :
  ∃ k',I k'∧aj body (0,k)=some (if 0≤aH xs q then rF (aH xs q) k' else rT k'):=by
 have key:=bM (body:=body) (s0:=((0:Int),k)) xs.length (fun i st=>st.1=(i:Int)∧I st.2∧∀ j (hj:j<xs.length),j<i→q xs[j]=false)
  (fun r=>∃ k',I k'∧r=(if 0≤aH xs q then rF (aH xs q) k' else rT k')) ⟨rfl,hk,fun j _ h=>absurd h (by omega)⟩ ?_ ?_
 ·obtain⟨r,hr,hp⟩:=key
  obtain⟨k',h3,rfl⟩:=hp
  exact⟨k',h3,hr⟩
 ·rintro i ⟨a,k⟩ hi ⟨rfl,hI,hall⟩
  obtain⟨k',hk',hb⟩:=h1 i hi k hI
  cases hq:q xs[i]
  ·rw[hq,if_neg (by simp)]at hb
   refine .inl ⟨_,hb,rfl,hk',fun j hj hlt=>?_⟩
   rcases Nat.lt_or_ge j i with h|h
   ·exact hall j hj h
   ·obtain rfl:j=i:=by omega
    exact hq
  ·rw[hq,if_pos rfl]at hb
   refine .inr ⟨_,hb,k',hk',?_⟩
   have:aH xs q=(i:Int):=by
    unfold aH
    have:xs.findIdx? q=some i:=by
     rw[List.findIdx?_eq_some_iff_getElem]
     exact⟨hi,hq,fun j hj=>by simp[hall j (by omega) hj]⟩
    rw[this]
   rw[this,if_pos (by omega)]
 ·rintro⟨a,k⟩ ⟨rfl,hI,hall⟩
  refine⟨_,h2 k hI,k,hI,?_⟩
  rw[if_neg]
  intro h0
  obtain⟨j,hj,_,hq,_⟩:=jS h0
  rw[hall j hj hj]at hq
  cases hq
theorem ye {α:Type}{xs:List α}{q:α→Bool}(h:¬ 0≤aH xs q):aH xs q=-1∧xs.any q=false:=by
 constructor
 ·unfold aH at h ⊢
  cases hf:xs.findIdx? q with
  | none=>rfl
  | some j=>rw[hf]at h;simp at h
 ·rw[← mV];exact decide_eq_false h
section
variable {s:GShow} {y:GState}
theorem Po (hs:aM s)(h:MomR s y){nodes:List Int}(hn:nodes∈decL s y){known:List (ByteArray × Bool)}(hk:ck s known) :
  ∃ known',ck s known'∧eL nodes s known y=some (!bK (win s) s y nodes,known'):=by
 obtain⟨k',hk',e⟩:=Ba (KK hs _ (by have:=h.now;omega)) h hn hk
 refine⟨k',hk',?_⟩
 unfold eL oF
 rw[e];rfl
theorem EN (hs:aM s)(h:MomR s y)(xs:List (List Int))(hx:∀ nd,nd∈xs→nd∈decL s y)(hl:xs.length≤128){known:List (ByteArray × Bool)}(hk:ck s known) :
  ∃ known',ck s known'∧bm xs s known y=some (aH xs (fun nd=>!bK (win s) s y nd),xs,known'):=by
 unfold bm
 have key:=LV xs (fun nd=>!bK (win s) s y nd) (ck s) (bd ((xs.length:Nat):Int) xs s.nodes s.ties s.horizon y.now y.times y.values)
  (fun k=>.inl k) (fun i k=>.inr (i,xs,k)) ?_ ?_ known hk
 ·obtain⟨k',hk',e⟩:=key
  rw[e]
  refine⟨k',hk',?_⟩
  simp only[obnd]
  by_cases h0:0≤aH xs (fun nd=>!bK (win s) s y nd)
  ·rw[if_pos h0]
  ·rw[if_neg h0,(ye h0).1]
 ·intro i hi k hk
  obtain⟨k',hk',e⟩:=Po hs h (hx _ (List.getElem_mem hi)) hk
  refine⟨k',hk',?_⟩
  unfold bd
  try simp only
  rw[if_pos (by omega),ao hi]
  simp only[obnd]
  rw[show(GShow.mk s.nodes s.ties s.horizon)=s from rfl,show(GState.mk y.now y.times y.values)=y from rfl,e]
  simp only
  rw[wr (by omega) (by omega)]
  cases bK (win s) s y xs[i] <;> rfl
 ·intro k _
  unfold bd
  try simp only
  rw[if_neg (by omega)]
theorem Dw (hs:aM s)(h:MomR s y)(xs:List (List Int))(hx:∀ nd,nd∈xs→nd∈decL s y)(hl:xs.length≤128){known:List (ByteArray × Bool)}(hk:ck s known) :
  ∃ known',ck s known'∧bi xs s known y=some (xs.filter (fun nd=>bK (win s) s y nd),known'):=by
 obtain⟨k1,hk1,e1⟩:=EN hs h xs hx hl hk
 have hfn:xs.filter (fun nd=>bK (win s) s y nd)=xs.filter (fun nd=>!(!bK (win s) s y nd)):=by simp
 rw[hfn]
 unfold bi
 rw[e1]
 simp only[obnd]
 generalize hq':(fun nd=>!bK (win s) s y nd)=q at *
 have hq:∀ nd,q nd=!bK (win s) s y nd:=fun nd=>by rw[← hq']
 have hff:(fun nd=>!(!bK (win s) s y nd))=(fun x=>!q x):=by funext nd;rw[hq]
 rw[hff]
 by_cases h0:0≤aH xs q
 ·obtain⟨i0,hi0,he,hq0,hno⟩:=jS h0
  rw[he,if_neg (by omega),wr (x:=(i0:Int)+1) (by omega) (by omega)]
  have htake:(xs.take i0).filter (fun x=>!q x)=xs.take i0:=by
   rw[List.filter_eq_self]
   intro x hm
   obtain⟨j,hj,rfl⟩:=List.getElem_of_mem hm
   rw[List.length_take]at hj
   rw[List.getElem_take,hno j (by omega)];rfl
  have inv:∃ r,aj (aY xs.length s.nodes s.ties s.horizon y.now y.times y.values) ((i0:Int),(i0:Int)+1,xs,k1)=some r∧(r.1=(((xs.filter (fun x=>!q x)).length:Nat):Int)∧r.2.1.length=xs.length∧r.2.1.take (xs.filter (fun x=>!q x)).length=xs.filter (fun x=>!q x)∧ck s r.2.2):=by
   refine bM (xs.length - (i0+1)) (fun (k:Nat) (s':Int × Int × List (List Int) × List (ByteArray × Bool))=>s'.2.1=((i0+1+k:Nat):Int)∧s'.1=((((xs.take (i0+1+k)).filter (fun x=>!q x)).length:Nat):Int)∧s'.2.2.1.length=xs.length ∧
    s'.2.2.1.take ((xs.take (i0+1+k)).filter (fun x=>!q x)).length=(xs.take (i0+1+k)).filter (fun x=>!q x)∧(∀ j,i0+1+k≤j→s'.2.2.1[j]?=xs[j]?)∧((xs.take (i0+1+k)).filter (fun x=>!q x)).length<i0+1+k∧ck s s'.2.2.2) _ ?_ ?_ ?_
   ·have e1:(xs.take (i0+1)).filter (fun x=>!q x)=xs.take i0:=by
     rw[cq hi0,List.filter_append,htake]
     simp[hq0]
    have hl:(xs.take i0).length=i0:=by rw[List.length_take];omega
    refine⟨by simp only;omega,?_,rfl,?_,fun _ _=>rfl,?_,hk1⟩
    ·simp only[Nat.add_zero];rw[e1,hl]
    ·simp only[Nat.add_zero];rw[e1,hl]
    ·simp only[Nat.add_zero];rw[e1,hl];omega
   ·rintro k ⟨v5,v6,v0,kn⟩ hk ⟨h1,h2,h3,h4,h5,h6,h7⟩
    simp only at h1 h2 h3 h4 h5 h6 h7
    have hj:i0+1+k<xs.length:=by omega
    have hg:getI v0 v6=some xs[i0+1+k]:=by
     unfold getI
     rw[h1,if_pos (by omega),Int.toNat_natCast,h5 _ (Nat.le_refl _),List.getElem?_eq_getElem hj]
    obtain⟨kn',hkn',ec⟩:=Po hs h (hx _ (List.getElem_mem hj)) h7
    left
    unfold aY
    simp only
    rw[if_pos (by omega),ai (by omega),hg,wr (x:=v6+1) (by omega) (by omega)]
    simp only[obnd]
    rw[show(GShow.mk s.nodes s.ties s.horizon)=s from rfl,show(GState.mk y.now y.times y.values)=y from rfl,ec,← hq]
    simp only
    cases hqq:q xs[i0+1+k]
    ·have e2:(xs.take (i0+1+(k+1))).filter (fun x=>!q x)=(xs.take (i0+1+k)).filter (fun x=>!q x)++[xs[i0+1+k]]:=by
      rw[show i0+1+(k+1)=i0+1+k+1 by omega,cq hj,List.filter_append]
      simp[hqq]
     have hv5:getI v0 v5=some v0[((xs.take (i0+1+k)).filter (fun x=>!q x)).length]:=by rw[h2,ao (by omega)]
     rw[if_neg (by simp),ai (by omega),hv5,wr (x:=v5+1) (by omega) (by omega)]
     refine⟨_,rfl,by simp only;omega,?_,?_,?_,?_,?_,hkn'⟩
     ·simp only;rw[e2,List.length_append,h2];simp
     ·simp only[List.length_set];exact h3
     ·simp only;rw[e2,List.length_append,h2,Int.toNat_natCast]
      simp only[List.length_cons,List.length_nil,Nat.zero_add]
      rw[EM (by omega),h4]
     ·intro j hj'
      simp only
      rw[h2,Int.toNat_natCast,List.getElem?_set_ne (by omega)]
      exact h5 j (by omega)
     ·rw[e2,List.length_append];simp;omega
    ·have e2:(xs.take (i0+1+(k+1))).filter (fun x=>!q x)=(xs.take (i0+1+k)).filter (fun x=>!q x):=by
      rw[show i0+1+(k+1)=i0+1+k+1 by omega,cq hj,List.filter_append]
      simp[hqq]
     rw[if_pos rfl]
     refine⟨_,rfl,by simp only;omega,?_,h3,?_,fun j hj'=>h5 j (by omega),?_,hkn'⟩
     ·simp only;rw[e2];exact h2
     ·simp only;rw[e2];exact h4
     ·rw[e2];omega
   ·rintro⟨v5,v6,v0,kn⟩ ⟨h1,h2,h3,h4,h5,h6,h7⟩
    simp only at h1 h2 h3 h4 h7
    have hall:i0+1+(xs.length - (i0+1))=xs.length:=by omega
    rw[hall]at h1 h2 h4
    rw[List.take_length]at h2 h4
    unfold aY
    simp only
    rw[if_neg (by omega)]
    exact⟨_,rfl,h2,h3,h4,h7⟩
  obtain⟨⟨v5,v0,kn⟩,hr,h1,h2,h3,h4⟩:=inv
  rw[hr]
  simp only at h1 h2 h3 h4 ⊢
  have hle:=List.length_filter_le (fun x=>!q x) xs
  subst h1
  simp only[Int.toNat_natCast]
  rw[ai (by omega),ai (by omega),ai (by omega),ai (by omega),ai (by rw[AQ];omega),ai (by omega),LU (by rw[List.length_replicate];omega),h3]
  exact⟨kn,h4,rfl⟩
 ·obtain⟨h2,h1⟩:=ye h0
  rw[if_pos h2,ai (Nat.le_refl _),List.take_length]
  refine⟨k1,hk1,?_⟩
  congr 2
  symm
  rw[List.filter_eq_self]
  intro x hm
  rw[List.any_eq_false]at h1
  have:=h1 x hm
  cases hqx:q x
  ·rfl
  ·exact absurd hqx this
theorem OO (hs:aM s)(h:MomR s y){known:List (ByteArray × Bool)}(hk:ck s known) :
  ∃ known',ck s known'∧kA s known y=some ((decL s y).filter (bK (win s) s y),known'):=by
 obtain⟨k',hk',e⟩:=Dw hs h (decL s y) (fun _ h=>h) (sQ h.right y) hk
 refine⟨k',hk',?_⟩
 unfold kA
 rw[uG hs h]
 simp only[obnd]
 rw[e]
end
def ob (lazy:Bool)(l:List (List Int))(p:List Int→Bool):Option (List Int):=if lazy=true then l.reverse.find? p else l.find? p
theorem OP (l:List (List Int))(p:List Int→Bool)(lazy:Bool)(hl:l.length≤128) :
  oG (l.filter p) lazy=some (match ob lazy l p with|some nd=>(nd,true)|none=>([],false)):=by
 have hle:=List.length_filter_le p l
 unfold oG ob
 have e1:l.find? p=(l.filter p).head?:=(List.head?_filter).symm
 have e2:l.reverse.find? p=(l.filter p).getLast?:=by rw[← List.head?_filter,List.filter_reverse,List.head?_reverse]
 rw[e1,e2]
 generalize l.filter p=m at *
 by_cases h0:m=[]
 ·subst h0
  rw[if_pos (by simp)]
  cases lazy <;> rfl
 ·have hpos:0<m.length:=List.length_pos_iff.2 h0
  rw[if_neg (by omega)]
  cases lazy
  ·simp only[Bool.false_eq_true,if_false]
   have:getI m ((0:Nat):Int)=some m[0]:=ao hpos
   rw[show((0:Nat):Int)=0 from rfl]at this
   rw[this,List.head?_eq_getElem?,List.getElem?_eq_getElem hpos];rfl
  ·simp only[if_true]
   rw[wr (by omega) (by omega),show((m.length:Nat):Int) - 1=((m.length - 1:Nat):Int) by omega,ao (by omega),List.getLast?_eq_getElem?,List.getElem?_eq_getElem (by omega)];rfl
end Go.Proofs.Qc
set_option maxRecDepth 100000
namespace Go.Proofs.Qc
open Go
theorem LW (log:List GEntry)(hl:log.length≤1048576)(he:∀ e,e∈log→FitE e):mu log=some log:=by
 unfold mu
 have key:aj (jC log ((log.length:Nat):Int)) (((0:Nat):Int),log.take 0)=some log:=by
  refine aE log.length (fun i=>((i:Int),log.take i)) ?_ ?_
  ·intro i hi
   have hf:=he _ (List.getElem_mem hi)
   unfold jC
   try simp only
   rw[if_pos (by omega),ao hi]
   simp only[obnd]
   rw[eU _ hf.ties,eU _ hf.nodes,eU _ hf.values]
   simp only
   rw[ai (by rw[List.length_take];omega),ai (by rw[List.length_take];omega),wr (by omega) (by omega),List.take_succ_eq_append_getElem hi];rfl
  ·unfold jC
   try simp only
   rw[if_neg (by omega),List.take_length]
 simp only[Int.natCast_zero,List.take_zero]at key
 rw[key];rfl
theorem Bb (d:GDesk)(h:FitD d):jh d=some d:=by
 unfold jh
 rw[AS _ h.sh]
 simp only[obnd]
 rw[sb _ h.st.times h.st.values]
 simp only
 rw[LW _ h.log h.entry]
theorem ua (d:GDesk)(h:FitD d):fC d=some d:=by
 have hl:=h.log
 unfold fC
 rw[Dk _ h.sh]
 simp only[obnd]
 rw[sc _ h.st.times h.st.values]
 simp only
 have key:aj (eu d.log ((d.log.length:Nat):Int) d.show_.horizon d.state.now d.lazy d.show_.nodes d.show_.ties d.state.times d.state.values) (((0:Nat):Int),d.log.take 0)=some d.log:=by
  refine aE d.log.length (fun i=>((i:Int),d.log.take i)) ?_ ?_
  ·intro i hi
   have hf:=h.entry _ (List.getElem_mem hi)
   have f1:=hf.ties
   have f2:=hf.nodes
   have f3:=hf.values
   unfold eu
   try simp only
   rw[if_pos (by omega),ao hi]
   simp only[obnd]
   unfold nZ
   rw[ai (by omega),ai (by omega),ai (by omega),ai (by omega),ai (by omega),ai (by omega)]
   simp only
   rw[ai (by rw[List.length_take];omega),ai (by rw[List.length_take];omega),wr (by omega) (by omega),List.take_succ_eq_append_getElem hi];rfl
  ·unfold eu
   try simp only
   rw[if_neg (by omega),List.take_length]
 simp only[Int.natCast_zero,List.take_zero]at key
 rw[key]
def pmB (values:List Int):Bool:=decide (values.length=3)&&values.all (fun v=>decide (v=1) || decide (v=-1))
noncomputable def bu (d:GDesk)(ties values:List Int):Int:=
 if lB d=true then (if pmB values=true then (if dC d.show_ d.state=true then 2 else if kG d.show_ d.state=true then 2 else if d.show_.horizon<d.state.now then 2 else if ties∈bD d.show_ d.state then 0 else 3) else 1) else 1
def dd (values ps:List Int):List Int:=ps.map (fun p=>tm values (p - 1))
def litL (values ps:List Int):List Int:=ps.map (fun p=>p*tm values (p - 1))
noncomputable def finD (d:GDesk)(ties values nodes:List Int):GDesk:=
 ⟨d.show_,obsX (decX (endX d.show_ d.state ties) nodes) (az d.show_ nodes) (dd values (az d.show_ nodes)),d.lazy,d.log++[⟨d.state.now,ties,nodes,litL values (az d.show_ nodes)⟩]⟩
noncomputable def qi (d:GDesk)(ties values:List Int)(refused:Int)(c:Option (List Int)):GDesk × List Int × Int:=
 if bu d ties values=0 then (match c with|some nd=>(finD d ties values nd,nd,0)|none=>(d,[],refused)) else (d,[],bu d ties values)
theorem lD {d:GDesk}(h:lB d=true):aC d.show_ d.state=true:=by
 unfold lB at h
 simp only[Bool.and_eq_true]at h
 exact h.1.1.1
theorem qS {d:GDesk}{ties values:List Int}(h:bu d ties values=0):lB d=true∧pmB values=true∧ties∈bD d.show_ d.state∧dC d.show_ d.state=false∧kG d.show_ d.state=false∧¬ d.show_.horizon<d.state.now:=by
 unfold bu at h
 split at h
 ·rename_i h1
  split at h
  ·rename_i h2
   split at h
   ·omega
   ·rename_i h3
    split at h
    ·omega
    ·rename_i h4
     split at h
     ·omega
     ·rename_i h5
      split at h
      ·rename_i h6
       exact⟨h1,h2,h6,by simpa using h3,by simpa using h4,h5⟩
      ·omega
  ·omega
 ·omega
theorem IR {values:List Int}(h:pmB values=true):values.length=3∧∀ v,v∈values→v=1∨v=-1:=by
 unfold pmB at h
 rw[Bool.and_eq_true,decide_eq_true_eq,List.all_eq_true]at h
 exact⟨h.1,fun v hv=>by have:=h.2 v hv;simpa using this⟩
theorem LX {values:List Int}(h:pmB values=true){k:Int}(h0:0≤k)(h1:k<3):tm values k=1∨tm values k=-1:=by
 obtain⟨h2,h3⟩:=IR h
 unfold tm
 rw[List.getElem?_eq_getElem (show k.toNat<values.length by omega)]
 exact h3 _ (List.getElem_mem _)
theorem Uk {values:List Int}(h3:values.length=3):values.any (fun v=>!(decide (v=1) || decide (v=-1)))=!pmB values:=by
 unfold pmB
 rw[decide_eq_true h3,Bool.true_and,List.any_eq_not_all_not]
 simp
theorem IS (v:Int):hU v=some (!(decide (v=1) || decide (v=-1))):=by
 unfold hU
 by_cases h:v=1
 ·rw[if_pos h,decide_eq_true h];rfl
 ·rw[if_neg h,decide_eq_false h]
  by_cases h2:v=-1
  ·rw[decide_eq_true h2,decide_eq_false (by simpa using h2)];rfl
  ·rw[decide_eq_false h2,decide_eq_true h2];rfl
theorem Kb {values ps:List Int}(hv:pmB values=true)(hp:∀ p,p∈ps→1≤p∧p≤3)(hl:ps.length≤3):lv ps (dd values ps)=some (litL values ps):=by
 unfold lv
 have key:aj (iX (dd values ps) ps ((ps.length:Nat):Int)) (((0:Nat):Int),litL values (ps.take 0))=some (litL values ps):=by
  refine aE ps.length (fun i=>((i:Int),litL values (ps.take i))) ?_ ?_
  ·intro i hi
   have hb:=hp _ (List.getElem_mem hi)
   have ht:=LX hv (k:=ps[i] - 1) (by omega) (by omega)
   have hl1:(litL values (ps.take i)).length≤3:=by unfold litL;rw[List.length_map,List.length_take];omega
   have hsl:(dd values ps).length=ps.length:=by unfold dd;simp
   unfold iX
   try simp only
   rw[if_pos (by omega),ao hi,ao (show i<(dd values ps).length by omega)]
   simp only[obnd]
   have hs:(dd values ps)[i]'(by omega)=tm values (ps[i] - 1):=by unfold dd;simp
   rw[hs,ai (by omega),ai (by omega),wr (x:=(i:Int)+1) (by omega) (by omega),wr (x:=ps[i]*tm values (ps[i] - 1)) (by rcases ht with h|h <;> rw[h] <;> omega) (by rcases ht with h|h <;> rw[h] <;> omega)]
   congr 3
   unfold litL
   rw[List.take_succ_eq_append_getElem hi,List.map_append];rfl
  ·unfold iX
   try simp only
   rw[if_neg (by omega),List.take_length]
 simp only[Int.natCast_zero,List.take_zero]at key
 rw[show litL values []=[] from rfl]at key
 rw[key];rfl
theorem wD {values ps:List Int}(hv:pmB values=true)(hp:∀ p,p∈ps→1≤p∧p≤3):(dd values ps).length=ps.length∧∀ v,v∈dd values ps→v=1∨v=-1:=by
 refine⟨by unfold dd;simp,fun v hm=>?_⟩
 unfold dd at hm
 rw[List.mem_map]at hm
 obtain⟨p,hpm,rfl⟩:=hm
 have:=hp p hpm
 exact LX hv (by omega) (by omega)
theorem yf (d:GDesk)(ties values:List Int)(refused:Int)(d':GDesk)(hf:FitD d)(ht:ties.length≤1048576)(hvl:values.length≤1048576)(c:Option (List Int))(hmem:∀ nd,c=some nd→nd∈decL d.show_ (endX d.show_ d.state ties))
  (hc:bu d ties values=0→∃ r,iW d.show_ [] (endX d.show_ d.state ties) d'=some r∧r.2.1=c.isSome∧∀ nd,c=some nd→r.1=nd) :
  bJ d ties values refused d'=some (qi d ties values refused c):=by
 have hs:=hf.sh.small
 have hlog:=hf.log
 have hg0:=@qS d ties values
 unfold qi
 unfold bJ
 rw[Bb d hf]
 simp only[obnd]
 rw[AW d hf]
 simp only
 cases hd:lB d
 ·have e:bu d ties values=1:=by unfold bu;rw[hd];rfl
  rw[e];rfl
 have hx:=lD hd
 have hR:=bc hx
 simp only[if_true]
 by_cases h3:values.length=3
 rotate_left
 ·have e:bu d ties values=1:=by unfold bu pmB;rw[hd,decide_eq_false h3];rfl
  rw[if_neg (by omega),e];rfl
 rw[if_pos (by omega),kC values _ (fun v=>!(decide (v=1) || decide (v=-1))) (by unfold Cnt;omega) (fun v _=>IS v),Uk h3]
 simp only
 cases hp:pmB values
 ·have e:bu d ties values=1:=by unfold bu;rw[hd,hp];rfl
  rw[e];rfl
 simp only[Bool.not_true,Bool.false_eq_true,if_false]
 rw[vx hs hR]
 simp only
 cases hb:dC d.show_ d.state
 rotate_left
 ·have e:bu d ties values=2:=by unfold bu;rw[hd,hp,hb];rfl
  rw[e];rfl
 simp only[Bool.false_eq_true,if_false]
 rw[tY hs hR]
 simp only
 cases ho:kG d.show_ d.state
 rotate_left
 ·have e:bu d ties values=2:=by unfold bu;rw[hd,hp,hb,ho];rfl
  rw[e];rfl
 simp only[Bool.false_eq_true,if_false]
 by_cases hh:d.show_.horizon<d.state.now
 ·have e:bu d ties values=2:=by unfold bu;rw[hd,hp,hb,ho,if_pos hh];rfl
  rw[if_pos hh,e];rfl
 rw[if_neg hh,wx hx]
 simp only
 have hel:=tu (x:=d.state) hR.ok
 rw[Bm _ _ (by unfold Cnt;omega) (by unfold Cnt;omega)]
 simp only
 by_cases hm:ties∈bD d.show_ d.state
 rotate_left
 ·have e:bu d ties values=3:=by unfold bu;rw[hd,hp,hb,ho,if_neg hh,if_neg hm];rfl
  rw[decide_eq_false hm,e];rfl
 have e:bu d ties values=0:=by unfold bu;rw[hd,hp,hb,ho,if_neg hh,if_pos hm];rfl
 obtain⟨a1,a2,a3⟩:=kB hR.ok hm
 have hM:=mF hx hm
 have hv3:=(bb hR.val).1
 rw[decide_eq_true hm,if_pos rfl,Bo hx (by omega) (by omega) a3]
 simp only
 unfold oT
 simp only
 obtain⟨r,e1,e2,e3⟩:=hc e
 rw[e1,e]
 simp only[if_true]
 rw[e2]
 cases c with
 | none=>rfl
 | some nd=>
  have hn:=hmem nd rfl
  obtain⟨n1,n2,n3⟩:=dQ hM.right hn
  have hps:∀ p,p∈az d.show_ nd→1≤p∧p≤3:=fun p hp=>⟨(bN hp).1,(bN hp).2.1⟩
  have hpl:=oH d.show_ nd
  simp only[Option.isSome_some,if_true]
  rw[e3 nd rfl,wA hM n1 n2 n3]
  simp only
  have key:aj (bh ties values nd (((az d.show_ nd).length:Nat):Int) d.show_.horizon d.state.now d.lazy d.state.now d.state.times d.state.values (decX (endX d.show_ d.state ties) nd).now d.show_.nodes d.show_.ties d.state.times d.state.values d.log (decX (endX d.show_ d.state ties) nd).times (decX (endX d.show_ d.state ties) nd).values (az d.show_ nd)) (((0:Nat):Int),dd values ((az d.show_ nd).take 0))=some (dd values (az d.show_ nd)):=by
   refine aE (az d.show_ nd).length (fun i=>((i:Int),dd values ((az d.show_ nd).take i))) ?_ ?_
   ·intro i hi
    have hb:=hps _ (List.getElem_mem hi)
    have hsl:(dd values ((az d.show_ nd).take i)).length≤3:=by unfold dd;rw[List.length_map,List.length_take];omega
    unfold bh
    try simp only
    rw[if_pos (by omega),ao hi]
    simp only[obnd]
    rw[wr (x:=(az d.show_ nd)[i] - 1) (by omega) (by omega),bl (by omega) (by omega)]
    simp only
    rw[ai (by omega),ai (by omega),wr (by omega) (by omega)]
    congr 3
    unfold dd
    rw[List.take_succ_eq_append_getElem hi,List.map_append];rfl
   ·unfold bh
    try simp only
    rw[if_neg (by omega),List.take_length]
  simp only[Int.natCast_zero,List.take_zero]at key
  rw[show dd values []=[] from rfl]at key
  rw[key]
  simp only
  obtain⟨s1,s2⟩:=wD hp hps
  have hnow:=hR.now
  have hhor:=hR.right.hor
  have hln:=hM.len
  have h7:=hM.right.nodes
  rw[(nM (decX (endX d.show_ d.state ties) nd) (az d.show_ nd) (dd values (az d.show_ nd)) (by show 0≤d.state.now∧d.state.now≤1000;omega) (by show(bk _ _ _ _).length≤_;rw[ct];omega) hv3 hps s1 (by omega)).1]
  simp only
  rw[eU _ ht,eU _ (by omega),Kb hp hps hpl]
  simp only
  rw[ai (by omega),ai (by omega)]
  rfl
end Go.Proofs.Qc
set_option maxRecDepth 100000
namespace Go.Proofs.Qc
open Go
end Go.Proofs.Qc
set_option maxRecDepth 100000
namespace Go.Proofs.Qc
open Go
noncomputable def vg (d:GDesk)(ties:List Int):Option (List Int):=ob d.lazy (decL d.show_ (endX d.show_ d.state ties)) (bK (win d.show_) d.show_ (endX d.show_ d.state ties))
theorem vh {lazy:Bool}{l:List (List Int)}{p:List Int→Bool}{nd:List Int}(h:ob lazy l p=some nd):nd∈l∧p nd=true:=by
 unfold ob at h
 split at h
 ·exact⟨by simpa using List.mem_of_find?_eq_some h,List.find?_some h⟩
 ·exact⟨List.mem_of_find?_eq_some h,List.find?_some h⟩
theorem Gj (d:GDesk)(ties values:List Int)(hf:FitD d)(ht:ties.length≤1048576)(hv:values.length≤1048576):lw d ties values=some (qi d ties values 5 (vg d ties)):=by
 have hs:=hf.sh.small
 unfold lw
 rw[yf d ties values 5 d hf ht hv (vg d ties) (fun nd h=>(vh h).1) ?_]
 ·rfl
 ·intro h0
  obtain⟨g1,_,g3,_⟩:=qS h0
  have hM:=mF (lD g1) g3
  have hl:=sQ hM.right (endX d.show_ d.state ties)
  unfold iW vg
  cases hz:d.lazy
  ·simp only[Bool.false_eq_true,if_false]
   obtain⟨k',_,e⟩:=Du hs (y:=endX d.show_ d.state ties) (KK hs _ (by have:=hM.now;omega)) hM (FR d.show_)
   unfold pq
   rw[e]
   simp only[obnd]
   refine⟨_,rfl,?_⟩
   unfold ob
   simp only[Bool.false_eq_true,if_false]
   cases(decL d.show_ (endX d.show_ d.state ties)).find? (bK (win d.show_) d.show_ (endX d.show_ d.state ties)) with
   | none=>exact⟨rfl,fun nd h=>by cases h⟩
   | some nd=>exact⟨rfl,fun nd' h=>by cases h;rfl⟩
  ·simp only[if_true]
   obtain⟨k',_,e⟩:=OO hs hM (FR d.show_)
   rw[e]
   simp only[obnd]
   rw[OP _ _ _ hl]
   simp only
   refine⟨_,rfl,?_⟩
   cases ob true (decL d.show_ (endX d.show_ d.state ties)) (bK (win d.show_) d.show_ (endX d.show_ d.state ties)) with
   | none=>exact⟨rfl,fun nd h=>by cases h⟩
   | some nd=>exact⟨rfl,fun nd' h=>by cases h;rfl⟩
theorem zG {s:GShow}{x:GState}(hs:aM s)(hx:aC s x=true)(ties:List Int)(ht:ties.length≤1048576):dl s x ties=some (if ties∈bD s x then (endX s x ties,true) else (mD,false)):=by
 have hR:=bc hx
 have hv3:=(bb hR.val).1
 have hln:=hR.len
 have h7:=hR.right.nodes
 have hel:=tu (x:=x) hR.ok
 unfold dl
 rw[xY hs hx (by omega) (by omega)]
 simp only[obnd]
 rw[Bn _ _ (by unfold Cnt;omega) (fun l hl=>by have:=(kB hR.ok hl).2.1;unfold Cnt;omega)]
 simp only
 by_cases hm:ties∈bD s x
 ·obtain⟨a1,a2,a3⟩:=kB hR.ok hm
  rw[decide_eq_true hm,if_pos rfl,if_pos hm,xZ hx (by omega) (by omega) a3]
 ·rw[decide_eq_false hm,if_neg (by simp),if_neg hm];rfl
theorem Kc (d:GDesk)(ties values:List Int)(hf:FitD d)(ht:ties.length≤1048576)(hvl:values.length≤1048576):li d ties values=some (if bu d ties values=0 then (endX d.show_ d.state ties,0) else (mD,bu d ties values)):=by
 have hs:=hf.sh.small
 unfold li
 rw[AX d hf]
 simp only[obnd]
 cases hd:lB d
 ·have e:bu d ties values=1:=by unfold bu;rw[hd];rfl
  rw[e];rfl
 have hx:=lD hd
 have hR:=bc hx
 simp only[if_true]
 by_cases h3:values.length=3
 rotate_left
 ·have e:bu d ties values=1:=by unfold bu pmB;rw[hd,decide_eq_false h3];rfl
  rw[if_neg (by omega),e];rfl
 rw[if_pos (by omega)]
 have key:=eW (body:=fI ties values ((values.length:Nat):Int) d.show_.nodes d.show_.ties d.show_.horizon d.state.now d.state.times d.state.values d.lazy d.log) values (fun v=>decide (v=1) || decide (v=-1)) (fun i=>(i:Int)) (rT:=.inl ()) (rF:=.inr (GState.mk 0 [] [],1)) ?_ ?_ ?_
 ·rw[show((0:Nat):Int)=0 from rfl]at key
  rw[key]
  simp only
  cases hp:pmB values
  ·have e:bu d ties values=1:=by unfold bu;rw[hd,hp];rfl
   have hall:values.all (fun v=>decide (v=1) || decide (v=-1))=false:=by unfold pmB at hp;rwa [decide_eq_true h3,Bool.true_and]at hp
   rw[hall,e];rfl
  have hall:values.all (fun v=>decide (v=1) || decide (v=-1))=true:=by unfold pmB at hp;rwa [decide_eq_true h3,Bool.true_and]at hp
  rw[hall]
  simp only[if_true]
  rw[uI hs hR]
  simp only
  cases hb:dC d.show_ d.state
  rotate_left
  ·have e:bu d ties values=2:=by unfold bu;rw[hd,hp,hb];rfl
   rw[e];rfl
  simp only[Bool.false_eq_true,if_false]
  rw[wC hs hR]
  simp only
  cases ho:kG d.show_ d.state
  rotate_left
  ·have e:bu d ties values=2:=by unfold bu;rw[hd,hp,hb,ho];rfl
   rw[e];rfl
  simp only[Bool.false_eq_true,if_false]
  by_cases hh:d.show_.horizon<d.state.now
  ·have e:bu d ties values=2:=by unfold bu;rw[hd,hp,hb,ho,if_pos hh];rfl
   rw[if_pos hh,e];rfl
  rw[if_neg hh,zG hs hx ties ht]
  simp only
  by_cases hm:ties∈bD d.show_ d.state
  ·have e:bu d ties values=0:=by unfold bu;rw[hd,hp,hb,ho,if_neg hh,if_pos hm];rfl
   rw[if_pos hm,e];rfl
  ·have e:bu d ties values=3:=by unfold bu;rw[hd,hp,hb,ho,if_neg hh,if_neg hm];rfl
   rw[if_neg hm,e];rfl
 ·intro i hi hq
  unfold fI
  try simp only
  rw[if_pos (by omega),ao hi]
  simp only[obnd]
  rw[wr (by omega) (by omega)]
  by_cases h1:values[i]=1
  ·rw[if_pos h1];rfl
  ·rw[if_neg h1,if_pos (by simpa [h1] using hq)];rfl
 ·intro i hi hq
  unfold fI
  try simp only
  rw[if_pos (by omega),ao hi]
  simp only[obnd]
  rw[Bool.or_eq_false_iff,decide_eq_false_iff_not,decide_eq_false_iff_not]at hq
  rw[if_neg hq.1,if_neg hq.2]
 ·unfold fI
  try simp only
  rw[if_neg (by omega)]
theorem IT (d:GDesk)(ties values nd:List Int)(hf:FitD d)(ht:ties.length≤1048576)(h0:bu d ties values=0)(hn:nd∈decL d.show_ (endX d.show_ d.state ties)) :
  ku d ties (endX d.show_ d.state ties) nd values=some (finD d ties values nd):=by
 have hs:=hf.sh.small
 have hlog:=hf.log
 obtain⟨g1,hp,g3,_⟩:=qS h0
 have hx:=lD g1
 have hR:=bc hx
 have hM:=mF hx g3
 have hv3:=(bb hR.val).1
 obtain⟨p3,_⟩:=IR hp
 obtain⟨n1,n2,n3⟩:=dQ hM.right hn
 have hps:∀ p,p∈az d.show_ nd→1≤p∧p≤3:=fun p hp=>⟨(bN hp).1,(bN hp).2.1⟩
 have hpl:=oH d.show_ nd
 unfold ku
 rw[ua d hf]
 simp only[obnd]
 rw[uH hs hM n2 n3]
 simp only
 have key:aj (gV ties nd values (((az d.show_ nd).length:Nat):Int) (endX d.show_ d.state ties).now (endX d.show_ d.state ties).times (endX d.show_ d.state ties).values d.show_.horizon d.state.now d.lazy (decX (endX d.show_ d.state ties) nd).now d.show_.nodes d.show_.ties d.state.times d.state.values d.log (decX (endX d.show_ d.state ties) nd).times (decX (endX d.show_ d.state ties) nd).values (az d.show_ nd)) (((0:Nat):Int),dd values ((az d.show_ nd).take 0),litL values ((az d.show_ nd).take 0))=some (dd values (az d.show_ nd),litL values (az d.show_ nd)):=by
  refine aE (az d.show_ nd).length (fun i=>((i:Int),dd values ((az d.show_ nd).take i),litL values ((az d.show_ nd).take i))) ?_ ?_
  ·intro i hi
   have hb:=hps _ (List.getElem_mem hi)
   have htm:=LX hp (k:=(az d.show_ nd)[i] - 1) (by omega) (by omega)
   have hsl:(dd values ((az d.show_ nd).take i)).length≤3:=by unfold dd;rw[List.length_map,List.length_take];omega
   have hll:(litL values ((az d.show_ nd).take i)).length≤3:=by unfold litL;rw[List.length_map,List.length_take];omega
   unfold gV
   try simp only
   rw[if_pos (by omega),ao hi]
   simp only[obnd]
   rw[wr (x:=(az d.show_ nd)[i] - 1) (by omega) (by omega),bl (by omega) (by omega)]
   simp only
   rw[ai (by omega),ai (by omega),ai (by omega),ai (by omega),wr (x:=(i:Int)+1) (by omega) (by omega),wr (x:=(az d.show_ nd)[i]*tm values ((az d.show_ nd)[i] - 1)) (by rcases htm with h|h <;> rw[h] <;> omega) (by rcases htm with h|h <;> rw[h] <;> omega)]
   have e1:dd values ((az d.show_ nd).take (i+1))=dd values ((az d.show_ nd).take i)++[tm values ((az d.show_ nd)[i] - 1)]:=by
    unfold dd;rw[List.take_succ_eq_append_getElem hi,List.map_append];rfl
   have e2:litL values ((az d.show_ nd).take (i+1))=litL values ((az d.show_ nd).take i)++[(az d.show_ nd)[i]*tm values ((az d.show_ nd)[i] - 1)]:=by
    unfold litL;rw[List.take_succ_eq_append_getElem hi,List.map_append];rfl
   rw[e1,e2];rfl
  ·unfold gV
   try simp only
   rw[if_neg (by omega),List.take_length]
 simp only[Int.natCast_zero,List.take_zero]at key
 rw[show dd values []=[] from rfl,show litL values []=[] from rfl]at key
 rw[key]
 simp only
 obtain⟨s1,s2⟩:=wD hp hps
 have hnow:=hR.now
 have hhor:=hR.right.hor
 have hln:=hM.len
 have h7:=hM.right.nodes
 rw[ai (by omega),ai (by omega),ai (by omega),ai (by omega),ai (by omega),ai (by omega),(nM (decX (endX d.show_ d.state ties) nd) (az d.show_ nd) (dd values (az d.show_ nd)) (by show 0≤d.state.now∧d.state.now≤1000;omega) (by show(bk _ _ _ _).length≤_;rw[ct];omega) hv3 hps s1 (by omega)).2]
 rfl
theorem IU (d:GDesk)(y:GState)(without:Int)(hf:FitD d)(hM:MomR d.show_ y):kr d y without=some (match ob d.lazy (decL d.show_ y) (fun nd=>!decide (without∈nd)&&bK (win d.show_) d.show_ y nd) with|some nd=>(nd,true)|none=>([],false)):=by
 have hs:=hf.sh.small
 have hl:=sQ hM.right y
 unfold kr
 rw[vR hs hM]
 simp only[obnd]
 have hlen:∀ {nd},nd∈decL d.show_ y→nd.length≤7:=fun h=>(dQ hM.right h).2.1
 have e0:ob d.lazy (decL d.show_ y) (fun nd=>!decide (without∈nd)&&bK (win d.show_) d.show_ y nd)=(if d.lazy=true then (decL d.show_ y).reverse else decL d.show_ y).find? (fun nd=>!decide (without∈nd)&&bK (win d.show_) d.show_ y nd):=by
  unfold ob;split <;> rfl
 rw[e0]
 generalize hpd:(fun nd=>!decide (without∈nd)&&bK (win d.show_) d.show_ y nd)=p
 have hp0:∀ nd,p nd=(!decide (without∈nd)&&bK (win d.show_) d.show_ y nd):=fun nd=>by rw[← hpd]
 clear hpd
 generalize hL:(if d.lazy=true then (decL d.show_ y).reverse else decL d.show_ y)=L
 have hel:L.length=(decL d.show_ y).length:=by rw[← hL];split <;> simp
 have g1:d.lazy=false→∀ i (hi:i<L.length),L[i]=(decL d.show_ y)[i]'(by omega):=by
  intro hz i hi
  subst hL
  simp[hz]
 have g2:d.lazy=true→∀ i (hi:i<L.length),L[i]=(decL d.show_ y)[(decL d.show_ y).length - 1 - i]'(by omega):=by
  intro hz i hi
  subst hL
  simp[hz]
 clear hL
 have step:∀ i (hi:i<L.length),eH without (((decL d.show_ y).length:Nat):Int) d.show_.nodes d.show_.ties d.show_.horizon d.state.now d.state.times d.state.values d.lazy d.log y.now y.times y.values (decL d.show_ y) (i:Int)=(if p L[i]=true then some (.done (.inr (L[i],true))) else some (.next ((i:Int)+1))):=by
  intro i hi
  rw[hel]at hi
  unfold eH
  try simp only
  rw[if_pos (by omega),ao hi]
  simp only[obnd]
  rw[wr (x:=(i:Int)+1) (by omega) (by omega)]
  cases hz:d.lazy
  ·simp only[Bool.false_eq_true,if_false]
   rw[g1 hz i (by omega),hp0]
   have hmem:=List.getElem_mem hi
   have h7:=hlen hmem
   rw[oJ _ _ (by unfold Cnt;omega)]
   simp only
   by_cases hw:without∈(decL d.show_ y)[i]
   ·rw[decide_eq_true hw];rfl
   ·rw[decide_eq_false hw]
    simp only[Bool.false_eq_true,if_false,Bool.not_false,Bool.true_and]
    rw[show(GShow.mk d.show_.nodes d.show_.ties d.show_.horizon)=d.show_ from rfl,show(GState.mk y.now y.times y.values)=y from rfl,Dv hs hM hmem]
    simp only
    rw[ai (by omega),ai (by omega)]
  ·simp only[if_true]
   have hj:(decL d.show_ y).length - 1 - i<(decL d.show_ y).length:=by omega
   rw[wr (x:=(((decL d.show_ y).length:Nat):Int) - 1) (by omega) (by omega),wr (by omega) (by omega),show(((decL d.show_ y).length:Nat):Int) - 1 - (i:Int)=(((decL d.show_ y).length - 1 - i:Nat):Int) by omega,ao hj]
   simp only
   rw[g2 hz i (by omega),hp0]
   have hmem:=List.getElem_mem hj
   have h7:=hlen hmem
   rw[oJ _ _ (by unfold Cnt;omega)]
   simp only
   by_cases hw:without∈(decL d.show_ y)[(decL d.show_ y).length - 1 - i]
   ·rw[decide_eq_true hw];rfl
   ·rw[decide_eq_false hw]
    simp only[Bool.false_eq_true,if_false,Bool.not_false,Bool.true_and]
    rw[show(GShow.mk d.show_.nodes d.show_.ties d.show_.horizon)=d.show_ from rfl,show(GState.mk y.now y.times y.values)=y from rfl,Dv hs hM hmem]
    simp only
    rw[ai (by omega),ai (by omega)]
 have key:=bM (body:=eH without (((decL d.show_ y).length:Nat):Int) d.show_.nodes d.show_.ties d.show_.horizon d.state.now d.state.times d.state.values d.lazy d.log y.now y.times y.values (decL d.show_ y)) (s0:=(0:Int)) L.length
  (fun (i:Nat) (st:Int)=>st=(i:Int)∧∀ j (hj:j<L.length),j<i→p L[j]=false)
  (fun r=>r=(match L.find? p with|some nd=>.inr (nd,true)|none=>.inl ())) ⟨rfl,fun j _ h=>absurd h (by omega)⟩ ?_ ?_
 ·obtain⟨r,hr,hp1⟩:=key
  rw[hr,hp1]
  cases L.find? p <;> rfl
 ·rintro i a hi ⟨rfl,hall⟩
  rw[step i hi]
  cases hq:p L[i]
  ·left
   refine⟨_,if_neg (by simp),rfl,fun j hj hlt=>?_⟩
   rcases Nat.lt_or_ge j i with h|h
   ·exact hall j hj h
   ·obtain rfl:j=i:=by omega
    exact hq
  ·right
   refine⟨_,if_pos rfl,?_⟩
   have:L.find? p=some L[i]:=by
    rw[List.find?_eq_some_iff_getElem]
    exact⟨hq,i,hi,rfl,fun j hj=>by have h:=hall j (by omega) hj;show(!_)=true;rw[h];rfl⟩
   rw[this]
 ·rintro a ⟨rfl,hall⟩
  refine⟨.inl (),?_,?_⟩
  ·unfold eH
   try simp only
   rw[if_neg (by rw[hel];omega)]
  ·have:L.find? p=none:=by
    rw[List.find?_eq_none]
    intro x hx
    obtain⟨j,hj,rfl⟩:=List.getElem_of_mem hx
    have h:=hall j hj hj
    rw[h];simp
   rw[this]
theorem Kd {lazy:Bool}{l:List (List Int)}{p q:List Int→Bool}(h:∀ nd,nd∈l→p nd=q nd):ob lazy l p=ob lazy l q:=by
 have key:∀ l:List (List Int),(∀ nd,nd∈l→p nd=q nd)→l.find? p=l.find? q:=by
  intro l
  induction l with
  | nil=>intro _;rfl
  | cons a l ih=>
   intro h
   simp only[List.find?_cons]
   rw[h a (by simp),ih (fun nd hn=>h nd (by simp[hn]))]
 unfold ob
 rw[key l h,key l.reverse (fun nd hn=>h nd (by simpa using hn))]
theorem Gk (d:GDesk)(ties values:List Int)(hf:FitD d)(ht:ties.length≤1048576)(hv:values.length≤1048576):ln d ties values=some (qi d ties values 5 (vg d ties)):=by
 unfold ln qi
 rw[Kc d ties values hf ht hv]
 simp only[obnd]
 by_cases h0:bu d ties values=0
 ·obtain⟨g1,_,g3,_⟩:=qS h0
  have hM:=mF (lD g1) g3
  rw[if_pos h0,if_pos h0]
  simp only[if_true]
  rw[IU d _ _ hf hM]
  have hc:ob d.lazy (decL d.show_ (endX d.show_ d.state ties)) (fun nd=>!decide ((-1:Int)∈nd)&&bK (win d.show_) d.show_ (endX d.show_ d.state ties) nd)=vg d ties:=by
   refine Kd ?_
   intro nd hnd
   have:¬ (-1:Int)∈nd:=by
    intro hm
    obtain⟨i,_,e,_⟩:=oV ((dQ hM.right hnd).2.2 _ hm)
    omega
   rw[decide_eq_false this];rfl
  rw[hc]
  cases hpk:vg d ties with
  | none=>
   simp only[Bool.false_eq_true,if_false]
   rw[ua d hf]
  | some nd=>
   simp only[if_true]
   rw[IT d ties values nd hf ht h0 (vh hpk).1]
 ·rw[if_neg h0,if_neg h0]
  simp only
  rw[if_neg h0,ua d hf]
theorem Nr (d:GDesk)(ties values:List Int)(refused:Int)(c:Option (List Int))(hf:FitD d)(ht:ties.length≤1048576)(hc:bu d ties values=0→∀ nd,c=some nd→nd∈decL d.show_ (endX d.show_ d.state ties)) :
  FitD (qi d ties values refused c).1∧(qi d ties values refused c).2.1.length≤7:=by
 unfold qi
 by_cases h0:bu d ties values=0
 ·rw[if_pos h0]
  cases c with
  | none=>exact⟨hf,by simp⟩
  | some nd=>
   obtain⟨g1,hp,g3,_⟩:=qS h0
   have hx:=lD g1
   have hR:=bc hx
   have hM:=mF hx g3
   have hnd:=hc h0 nd rfl
   obtain⟨n1,n2,n3⟩:=dQ hM.right hnd
   have hlog:(d.log.length:Int)=d.state.now:=by
    unfold lB at g1
    simp only[Bool.and_eq_true,decide_eq_true_eq]at g1
    exact g1.1.1.2
   have hnow:=hR.now
   have hhor:=hR.right.hor
   have hln:=hM.len
   have h7:=hM.right.nodes
   have hv3:=(bb hR.val).1
   have hpl:=oH d.show_ nd
   refine⟨⟨hf.sh,⟨?_,?_⟩,?_,?_⟩,n2⟩
   ·show(bk _ _ _ _).length≤_
    rw[ct];omega
   ·show(setV _ _ _ _).length≤_
    rw[qj]
    show d.state.values.length≤_
    omega
   ·show(d.log++[_]).length≤_
    rw[List.length_append];simp;omega
   ·intro e he
    have he':e∈d.log++[⟨d.state.now,ties,nd,litL values (az d.show_ nd)⟩]:=he
    rw[List.mem_append,List.mem_singleton]at he'
    rcases he' with he'|rfl
    ·exact hf.entry e he'
    ·exact⟨ht,by show nd.length≤_;omega,by show(litL _ _).length≤_;unfold litL;rw[List.length_map];omega⟩
 ·rw[if_neg h0]
  exact⟨hf,by simp⟩
end Go.Proofs.Qc
set_option maxRecDepth 100000
namespace Go.Proofs.Qc
open Go
end Go.Proofs.Qc
set_option maxRecDepth 100000
set_option maxHeartbeats 1000000
namespace Go.Proofs.Qc
open Go
noncomputable def bZ (c:GChoice)(d:GDesk):GDesk × List Int × Int:=qi d (endL d.show_ d.state c) c.values 5 (vg d (endL d.show_ d.state c))
noncomputable def runF (c:GChoice):Nat→GDesk→GDesk × Int
 | 0,d=>(d,0)
 | n+1,d=>if (bZ c d).2.2=0 then runF c n (bZ c d).1 else (d,(bZ c d).2.2)
noncomputable def runR (d:GDesk)(c:GChoice):GDesk × Int:=if lB d=true then (if bj d.show_ c=true then runF c 13 d else (d,1)) else (d,1)
def tupD (d:GDesk):Int × Int × Bool × (List GNode) × (List GTie) × (List Int) × (List Int) × (List GEntry):=(d.show_.horizon,d.state.now,d.lazy,d.show_.nodes,d.show_.ties,d.state.times,d.state.values,d.log)
theorem wU {s:GShow}{c:GChoice}(h:bj s c=true):c.values.length=3:=by
 unfold bj at h
 simp only[Bool.and_eq_true,decide_eq_true_eq]at h
 exact h.1.1.2
theorem LY {d:GDesk}{ties values:List Int}{c:Option (List Int)}(h:(qi d ties values 5 c).2.2=0):bu d ties values=0∧∃ nd,c=some nd∧qi d ties values 5 c=(finD d ties values nd,nd,0):=by
 unfold qi at h ⊢
 by_cases h0:bu d ties values=0
 ·rw[if_pos h0]at h ⊢
  cases c with
  | none=>exact absurd h (by simp)
  | some nd=>exact⟨h0,nd,rfl,rfl⟩
 ·rw[if_neg h0]at h
  exact absurd h h0
theorem Ul {d:GDesk}{ties values nd:List Int}(h0:bu d ties values=0)(hn:nd∈decL d.show_ (endX d.show_ d.state ties)):aC d.show_ (finD d ties values nd).state=true:=by
 obtain⟨g1,hp,g3,_⟩:=qS h0
 have hM:=mF (lD g1) g3
 obtain⟨_,_,hm⟩:=dQ hM.right hn
 obtain⟨s1,s2⟩:=wD (values:=values) (ps:=az d.show_ nd) hp (fun p h=>⟨(bN h).1,(bN h).2.1⟩)
 exact vT hM hm s1 s2
theorem IV {c:GChoice}{d:GDesk}(hf:FitD d)(h:(bZ c d).2.2=0) :
  FitD (bZ c d).1∧(bZ c d).1.show_=d.show_∧aC d.show_ (bZ c d).1.state=true∧(bZ c d).1.state.now=d.state.now+1:=by
 unfold bZ at h ⊢
 obtain⟨h0,nd,hc,he⟩:=LY h
 have hl:=Bk d.show_ d.state c hf.sh.ties
 have hnd:nd∈decL d.show_ (endX d.show_ d.state (endL d.show_ d.state c)):=(vh hc).1
 have hfit:=(Nr d (endL d.show_ d.state c) c.values 5 (vg d (endL d.show_ d.state c)) hf hl (fun _ nd h=>(vh h).1)).1
 rw[he]at hfit ⊢
 exact⟨hfit,rfl,Ul h0 hnd,rfl⟩
theorem KL (c:GChoice)(body:(Int × Int × Bool × (List GNode) × (List GTie) × (List Int) × (List Int) × (List GEntry))→Option (Step (Int × Int × Bool × (List GNode) × (List GTie) × (List Int) × (List Int) × (List GEntry)) (GDesk × Int)))
  (hb:∀ d,FitD d→aC d.show_ d.state=true→bj d.show_ c=true→body (tupD d)=some (if (bZ c d).2.2=0 then .next (tupD (bZ c d).1) else .done (d,(bZ c d).2.2))) :
  ∀ (n:Nat) (d:GDesk),FitD d→aC d.show_ d.state=true→bj d.show_ c=true→12<(n:Int)+d.state.now→aj body (tupD d)=some (runF c n d):=by
 intro n
 induction n with
 | zero=>
  intro d hf hx hc h
  have:=(bc hx).now
  have:=(bc hx).right.hor
  omega
 | succ n ih=>
  intro d hf hx hc h
  rw[ba,hb d hf hx hc]
  show _=some (if (bZ c d).2.2=0 then runF c n (bZ c d).1 else (d,(bZ c d).2.2))
  by_cases h0:(bZ c d).2.2=0
  ·obtain⟨f1,f2,f3,f4⟩:=IV hf h0
   rw[if_pos h0,if_pos h0]
   exact ih _ f1 (by rw[f2];exact f3) (by rw[f2];exact hc) (by rw[f4];omega)
  ·rw[if_neg h0,if_neg h0]
theorem IW (d:GDesk)(c:GChoice)(hf:FitD d):mA d c=some (runR d c):=by
 unfold mA runR
 rw[Bb d hf]
 simp only[obnd]
 rw[AW d hf]
 simp only
 cases hD:lB d
 ·rw[if_neg (by simp),if_neg (by simp)]
 ·have hx:=lD hD
  rw[if_pos rfl,if_pos rfl,sW d.show_ c hf.sh.small (bc hx).right hf.sh.ties]
  simp only
  cases hC:bj d.show_ c
  ·rw[if_neg (by simp),if_neg (by simp)]
  ·rw[if_pos rfl,if_pos rfl]
   have hn:=(bc hx).now
   have key:=KL c (lX c.lengths c.values) (by
    intro d hf hx hc
    have hl:=Bk d.show_ d.state c hf.sh.ties
    have hv:=wU hc
    unfold lX tupD
    simp only
    rw[show(GShow.mk d.show_.nodes d.show_.ties d.show_.horizon)=d.show_ from rfl,show(GState.mk d.state.now d.state.times d.state.values)=d.state from rfl,show(GChoice.mk c.lengths c.values)=c from rfl,show(GDesk.mk d.show_ d.state d.lazy d.log)=d from rfl]
    rw[ED d.show_ d.state c hf.sh hf.st]
    simp only[obnd]
    rw[Gj d _ c.values hf hl (by omega)]
    simp only
    show(if (bZ c d).2.2=0 then _ else _)=_
    by_cases h0:(bZ c d).2.2=0
    ·rw[if_pos h0,if_pos h0];rfl
    ·rw[if_neg h0,if_neg h0];rfl) 13 d hf hx hC (by omega)
   unfold tupD at key
   rw[key]
theorem IX (d:GDesk)(c:GChoice)(hf:FitD d):mr d c=some (runR d c):=by
 unfold mr runR
 rw[ua d hf]
 simp only[obnd]
 rw[AX d hf]
 simp only
 cases hD:lB d
 ·rw[if_neg (by simp),if_neg (by simp)]
 ·have hx:=lD hD
  have hShow:aF d.show_=true:=by
   have h2:=hx
   unfold aC at h2
   simp only[Bool.and_eq_true]at h2
   exact h2.1.1.1.1.1
  rw[if_pos rfl,if_pos rfl,tK d.show_ c hf.sh.small hShow hf.sh.ties]
  simp only
  cases hC:bj d.show_ c
  ·rw[if_neg (by simp),if_neg (by simp)]
  ·rw[if_pos rfl,if_pos rfl]
   have hn:=(bc hx).now
   have key:=KL c (lU c.lengths c.values) (by
    intro d hf hx hc
    have hl:=Bk d.show_ d.state c hf.sh.ties
    have hv:=wU hc
    unfold lU tupD
    simp only
    rw[show(GShow.mk d.show_.nodes d.show_.ties d.show_.horizon)=d.show_ from rfl,show(GState.mk d.state.now d.state.times d.state.values)=d.state from rfl,show(GChoice.mk c.lengths c.values)=c from rfl,show(GDesk.mk d.show_ d.state d.lazy d.log)=d from rfl]
    rw[Iw d.show_ d.state c hf.sh hf.st hx hc]
    simp only[obnd]
    rw[Gk d _ c.values hf hl (by omega)]
    simp only
    show(if (bZ c d).2.2=0 then _ else _)=_
    by_cases h0:(bZ c d).2.2=0
    ·rw[if_pos h0,if_pos h0];rfl
    ·rw[if_neg h0,if_neg h0];rfl) 13 d hf hx hC (by omega)
   unfold tupD at key
   rw[key]
theorem IY (c:GChoice):∀ (n:Nat) (d:GDesk),FitD d→FitD (runF c n d).1∧(runF c n d).1.show_=d.show_
 | 0,d,hf=>⟨hf,rfl⟩
 | n+1,d,hf=>by
  show FitD (if (bZ c d).2.2=0 then runF c n (bZ c d).1 else (d,(bZ c d).2.2)).1∧(if (bZ c d).2.2=0 then runF c n (bZ c d).1 else (d,(bZ c d).2.2)).1.show_=d.show_
  by_cases h0:(bZ c d).2.2=0
  ·obtain⟨f1,f2,f3,f4⟩:=IV hf h0
   rw[if_pos h0]
   obtain⟨g1,g2⟩:=IY c n _ f1
   exact⟨g1,by rw[g2,f2]⟩
  ·rw[if_neg h0]
   exact⟨hf,rfl⟩
theorem Bq (d:GDesk)(c:GChoice)(hf:FitD d):FitD (runR d c).1∧(runR d c).1.show_=d.show_:=by
 unfold runR
 split
 ·split
  ·exact IY c 13 d hf
  ·exact⟨hf,rfl⟩
 ·exact⟨hf,rfl⟩
end Go.Proofs.Qc
set_option maxRecDepth 100000
set_option maxHeartbeats 1000000
namespace Go.Proofs.Qc
open Go
def wE (s:GShow)(x:GState):Bool:=if aC s x=true then (if dC s x=true then false else kG s x) else false
theorem Ke (s:GShow)(x:GState)(hs:aM s)(fx:FitX x):nI s x=some (wE s x):=by
 unfold nI wE
 rw[uA s x hs fx.times fx.values]
 simp only[obnd]
 cases hx:aC s x
 ·rw[if_neg (by simp),if_neg (by simp)]
 ·rw[if_pos rfl,if_pos rfl,vx hs (bc hx)]
  simp only
  cases hb:dC s x
  ·rw[if_neg (by simp),if_neg (by simp),tY hs (bc hx)]
  ·rw[if_pos rfl,if_pos rfl]
theorem Kf (s:GShow)(x:GState)(hs:aM s)(fx:FitX x):nE s x=some (wE s x):=by
 unfold nE wE
 rw[rY s x hs fx.times fx.values]
 simp only[obnd]
 cases hx:aC s x
 ·rw[if_neg (by simp),if_neg (by simp)]
 ·rw[if_pos rfl,if_pos rfl,uI hs (bc hx)]
  simp only
  cases hb:dC s x
  ·rw[if_neg (by simp),if_neg (by simp),wC hs (bc hx)]
  ·rw[if_pos rfl,if_pos rfl]
noncomputable def ta (s:GShow)(c:GChoice)(z:Bool):List Int × Bool:=
 if aF s=true then (if bj s c=true then (if wE s (runR (lx s z).1 c).1.state=true then ((runR (lx s z).1 c).1.state.times,true) else ([],false)) else ([],false)) else ([],false)
theorem IZ {s:GShow}(z:Bool)(h:aF s=true):(lx s z).2=true:=by
 unfold lx;rw[if_pos h]
theorem Ja {s:GShow}(z:Bool)(h:¬ aF s=true):(lx s z).2=false:=by
 unfold lx;rw[if_neg h]
theorem yg (s:GShow)(c:GChoice)(z:Bool)(hf:FitS s):mB s c z=some (ta s c z):=by
 unfold mB ta
 rw[Is s z hf]
 simp only[obnd]
 by_cases hA:aF s=true
 ·rw[IZ z hA,if_pos rfl,if_pos hA,sW s c hf.small (bC hA) hf.ties]
  simp only
  cases hC:bj s c
  ·rw[if_neg (by simp),if_neg (by simp)]
  ·have hd:=xV s z hf
   have fr:=(Bq (lx s z).1 c hd).1
   rw[if_pos rfl,if_pos rfl,IW _ c hd]
   simp only
   rw[Ke s _ hf.small fr.st]
   simp only
   cases wE s (runR (lx s z).1 c).1.state
   ·rw[if_neg (by simp),if_neg (by simp)]
   ·rw[if_pos rfl,if_pos rfl,eU _ fr.st.times]
 ·rw[Ja z hA,if_neg (by simp),if_neg hA]
theorem yh (s:GShow)(c:GChoice)(z:Bool)(hf:FitS s):ms s c z=some (ta s c z):=by
 unfold ms ta
 rw[It s z hf]
 simp only[obnd]
 by_cases hA:aF s=true
 ·rw[IZ z hA,if_pos rfl,if_pos hA,tK s c hf.small hA hf.ties]
  simp only
  cases hC:bj s c
  ·rw[if_neg (by simp),if_neg (by simp)]
  ·have hd:=xV s z hf
   have fr:=(Bq (lx s z).1 c hd).1
   have ft:=fr.st.times
   rw[if_pos rfl,if_pos rfl,IX _ c hd]
   simp only
   rw[Kf s _ hf.small fr.st]
   simp only
   cases wE s (runR (lx s z).1 c).1.state
   ·rw[if_neg (by simp),if_neg (by simp)]
   ·rw[if_pos rfl,if_pos rfl,ai (by omega),ai (by omega)]
 ·rw[Ja z hA,if_neg (by simp),if_neg hA]
theorem vi (s:GShow)(c:GChoice)(z:Bool)(hf:FitS s):(ta s c z).1.length≤1048576:=by
 unfold ta
 have fr:=(Bq (lx s z).1 c (xV s z hf)).1.st.times
 split
 ·split
  ·split
   ·exact fr
   ·simp
  ·simp
 ·simp
end Go.Proofs.Qc
set_option maxRecDepth 100000
set_option maxHeartbeats 1000000
namespace Go.Proofs.Qc
open Go
end Go.Proofs.Qc
set_option maxRecDepth 100000
set_option maxHeartbeats 1000000
namespace Go.Proofs.Qc
open Go
structure BrT (t:GTie):Prop where
 f0:0≤t.from_
 f1:t.from_<4
 t0:0≤t.to
 t1:t.to<4
 ne:t.from_≠t.to
 lo:-20≤t.low
 hi:t.high≤20
 lh:t.low≤t.high
 fr:t.free=false
theorem BrT.b {t:GTie}(h:BrT t){ns:List GNode}{ts:List GTie}{z:Int}(hn:4≤ns.length):tieB ⟨ns,ts,z⟩ t=true:=by
 have h1:=h.f1
 have h2:=h.t1
 unfold tieB
 rw[decide_eq_true_eq]
 exact⟨⟨h.f0,by show t.from_<(ns.length:Int);omega⟩,⟨h.t0,by show t.to<(ns.length:Int);omega⟩,h.ne,h.lo,h.hi,h.lh⟩
theorem BrT.f {t:GTie}(h:BrT t){s:GShow}{i:Nat}:sR s i t=true:=by
 unfold sR
 rw[h.fr];rfl
end Go.Proofs.Qc
set_option maxRecDepth 100000
set_option maxHeartbeats 1000000
namespace Go.Proofs.Qc
open Go
end Go.Proofs.Qc
set_option maxRecDepth 100000
set_option maxHeartbeats 1000000
namespace Go.Proofs.Qc
open Go
end Go.Proofs.Qc
set_option maxRecDepth 100000
set_option maxHeartbeats 1000000
namespace Go.Proofs.Qc
open Go
theorem zA {s:GShow}{k:Int}(h:k∈aN s):∃ i,∃ hi:i<s.ties.length,k=(i:Int)∧s.ties[i].free=true:=by
 obtain⟨i,hi,hp,rfl⟩:=ly.1 h
 unfold em at hp
 rw[List.getElem?_eq_getElem hi]at hp
 exact⟨i,hi,rfl,hp⟩
theorem Jb {s:GShow}(h:aF s=true):(aN s).length≤6:=by
 have hR:=bC h
 have hn:=hR.nodes
 have hnd:((aN s).map (fun k=>(aK s k).to)).Nodup:=by
  unfold List.Nodup
  rw[List.pairwise_map]
  refine List.Pairwise.imp_of_mem ?_ (sa _ _)
  intro a b ha hb hab he
  obtain⟨i,hi,rfl,hf⟩:=zA ha
  obtain⟨j,hj,rfl,hg⟩:=zA hb
  rw[dP hi,dP hj]at he
  have:=IB h hi hj hf hg he
  omega
 have:=vb (r:=[1,2,3,4,5,6]) hnd (fun y hy=>by
  rw[List.mem_map]at hy
  obtain⟨k,hk,rfl⟩:=hy
  obtain⟨i,hi,rfl,hf⟩:=zA hk
  rw[dP hi]
  have hT:=hR.tie _ (List.getElem_mem hi)
  have h0:=(pU h hi hf).t0
  have h1:=hT.t0
  have h2:=hT.t1
  simp only[List.mem_cons,List.not_mem_nil,or_false]
  omega)
 simpa using this
theorem Ns {s:GShow}(h:aF s=true){k:Int}(hk:k∈aN s):∃ t,getI s.ties k=some t∧-20≤t.low∧t.low≤t.high∧t.high≤20:=by
 obtain⟨i,hi,rfl,_⟩:=zA hk
 have hT:=(bC h).tie _ (List.getElem_mem hi)
 exact⟨_,ao hi,hT.lo,hT.lh,hT.hi⟩
theorem Jc {s:GShow}(hf:FitS s)(h:aF s=true):∃ n,bp s=some n∧1≤n∧n≤1000000000000:=by
 have h6:=Jb h
 have hs:=hf.small
 unfold bp
 rw[eR s hs,h]
 simp only[obnd,if_true]
 rw[oU s hf.ties]
 change ∃ n,(obnd (aj (bW (((aN s).length:Nat):Int) s.nodes s.ties s.horizon (aN s)) (1,0)) _)=_∧_
 have key:∃ q,aj (bW (((aN s).length:Nat):Int) s.nodes s.ties s.horizon (aN s)) (1,0)=some q∧1≤q∧q≤4750104241:=by
  have hp:∀ i:Nat,i≤6→(41:Int)^i≤4750104241:=by
   intro i hi
   have:i=0∨i=1∨i=2∨i=3∨i=4∨i=5∨i=6:=by omega
   rcases this with rfl|rfl|rfl|rfl|rfl|rfl|rfl <;> decide
  refine bM (aN s).length (fun i st=>st.2=(i:Int)∧1≤st.1∧st.1≤41^i) _ ⟨rfl,by decide,by decide⟩ ?_ ?_
  ·rintro i ⟨n,v⟩ hi ⟨hk,h1,h2⟩
   simp only at hk h1 h2
   subst hk
   obtain⟨t,e,b1,b2,b3⟩:=Ns h (List.getElem_mem hi)
   unfold bW
   simp only
   rw[if_pos (by omega),ao hi]
   simp only[obnd]
   rw[e]
   simp only
   have hp1:=hp (i+1) (by omega)
   rw[wr (x:=t.high - t.low) (by omega) (by omega),wr (x:=t.high - t.low+1) (by omega) (by omega)]
   have hm:n*(t.high - t.low+1)≤41^i*41:=Int.mul_le_mul h2 (by omega) (by omega) (by omega)
   have hm0:1*1≤n*(t.high - t.low+1):=Int.mul_le_mul h1 (by omega) (by omega) (by omega)
   rw[Int.pow_succ]at hp1
   rw[wr (x:=n*(t.high - t.low+1)) (by omega) (by omega),wr (x:=(i:Int)+1) (by omega) (by omega)]
   refine .inl ⟨_,rfl,by simp only;omega,by simp only;omega,?_⟩
   simp only
   rw[Int.pow_succ]
   exact hm
  ·rintro⟨n,v⟩ ⟨hk,h1,h2⟩
   simp only at hk h1 h2
   subst hk
   unfold bW
   simp only
   rw[if_neg (by omega)]
   exact⟨_,rfl,h1,Int.le_trans h2 (hp _ h6)⟩
 obtain⟨q,e,q1,q2⟩:=key
 rw[e]
 simp only[obnd]
 have key:∃ r,aj (cv s.nodes s.ties s.horizon) (q,1)=some r∧1≤r∧r≤1000000000000:=by
  refine bM 3 (fun i st=>st.2=1+(i:Int)∧1≤st.1∧(i=0→st.1≤4750104241)∧(i=1→st.1≤9500208482)∧(i=2→st.1≤19000416964)∧(i=3→st.1≤38000833928)) _ (by refine⟨by simp,q1,?_,?_,?_,?_⟩ <;> intro h <;> first|exact q2|omega) ?_ ?_
  ·rintro i ⟨n,p⟩ hi ⟨hk,h1,h2,h3,h4,h5⟩
   simp only at hk h1 h2 h3 h4 h5
   subst hk
   unfold cv
   simp only
   rw[if_pos (by omega),show(GShow.mk s.nodes s.ties s.horizon)=s from rfl,dU s _ hs.nodes]
   simp only[obnd]
   have hb:n≤19000416964:=by
    have:i=0∨i=1∨i=2:=by omega
    rcases this with rfl|rfl|rfl
    ·have:=h2 rfl;omega
    ·have:=h3 rfl;omega
    ·exact h4 rfl
   rw[wr (x:=1+(i:Int)+1) (by omega) (by omega)]
   split
   ·rw[wr (x:=2*n) (by omega) (by omega)]
    refine .inl ⟨_,rfl,by simp only;omega,by simp only;omega,fun h=>by omega,fun h=>?_,fun h=>?_,fun h=>?_⟩
    ·have:=h2 (by omega);simp only;omega
    ·have:=h3 (by omega);simp only;omega
    ·have:=h4 (by omega);simp only;omega
   ·refine .inl ⟨_,rfl,by simp only;omega,h1,fun h=>by omega,fun h=>?_,fun h=>?_,fun h=>?_⟩
    ·have:=h2 (by omega);simp only;omega
    ·have:=h3 (by omega);simp only;omega
    ·have:=h4 (by omega);simp only;omega
  ·rintro⟨n,p⟩ ⟨hk,h1,h2,h3,h4,h5⟩
   simp only at hk h1 h2 h3 h4 h5
   subst hk
   unfold cv
   simp only
   rw[if_neg (by omega)]
   exact⟨_,rfl,h1,by have:=h5 trivial;omega⟩
 obtain⟨r,e,r1,r2⟩:=key
 rw[e]
 exact⟨_,rfl,r1,r2⟩
theorem Kg {s:GShow}(hf:FitS s)(h:aF s=true)(n:Int):∃ r,cL s n=some r:=by
 have h6:=Jb h
 have hs:=hf.small
 unfold cL
 obtain⟨k,e,_,_⟩:=Jc hf h
 rw[e]
 simp only[obnd]
 rw[bU]
 simp only
 split
 ·rw[oU s hf.ties]
  change ∃ r,(obnd (aj (dH (((aN s).length:Nat):Int) s.nodes s.ties s.horizon (aN s)) (n,0,[])) _)=_
  have key:∃ q,aj (dH (((aN s).length:Nat):Int) s.nodes s.ties s.horizon (aN s)) (n,0,[])=some q∧True:=by
   refine bM (aN s).length (fun i st=>st.2.1=(i:Int)∧st.2.2.length=i) _ ⟨rfl,rfl⟩ ?_ ?_
   ·rintro i ⟨m,v,l⟩ hi ⟨hk,h1⟩
    simp only at hk h1
    subst hk
    obtain⟨t,e,b1,b2,b3⟩:=Ns h (List.getElem_mem hi)
    unfold dH
    simp only
    rw[if_pos (by omega),ao hi]
    simp only[obnd]
    rw[e]
    simp only
    rw[wr (x:=t.high - t.low) (by omega) (by omega),wr (x:=t.high - t.low+1) (by omega) (by omega),ai (by omega),ai (by omega),ai (by omega),wr (x:=(i:Int)+1) (by omega) (by omega)]
    exact .inl ⟨_,rfl,by simp only;omega,by simp only[List.length_append,List.length_singleton];omega⟩
   ·rintro⟨m,v,l⟩ ⟨hk,h1⟩
    simp only at hk h1
    subst hk
    unfold dH
    simp only
    rw[if_neg (by omega)]
    exact⟨_,rfl,trivial⟩
  obtain⟨q,e,_⟩:=key
  rw[e]
  simp only[obnd]
  have key:∃ r,aj (cO s.nodes s.ties s.horizon q.2) (q.1,1,[])=some r∧True:=by
   refine bM 3 (fun i st=>st.2.1=1+(i:Int)∧st.2.2.length=i) _ ⟨by simp,rfl⟩ ?_ ?_
   ·rintro i ⟨m,v,l⟩ hi ⟨hk,h1⟩
    simp only at hk h1
    subst hk
    unfold cO
    simp only
    rw[if_pos (by omega),show(GShow.mk s.nodes s.ties s.horizon)=s from rfl,dU s _ hs.nodes]
    simp only[obnd]
    rw[wr (x:=1+(i:Int)+1) (by omega) (by omega)]
    split
    ·rw[ai (by omega),ai (by omega)]
     exact .inl ⟨_,rfl,by simp only;omega,by simp only[List.length_append,List.length_singleton];omega⟩
    ·rw[ai (by omega),ai (by omega)]
     exact .inl ⟨_,rfl,by simp only;omega,by simp only[List.length_append,List.length_singleton];omega⟩
   ·rintro⟨m,v,l⟩ ⟨hk,h1⟩
    simp only at hk h1
    subst hk
    unfold cO
    simp only
    rw[if_neg (by omega)]
    exact⟨_,rfl,trivial⟩
  obtain⟨r,e,_⟩:=key
  rw[e]
  exact⟨_,rfl⟩
 ·exact⟨_,rfl⟩
end Go.Proofs.Qc
set_option maxRecDepth 100000
set_option maxHeartbeats 1000000
namespace Go.Proofs.Qc
open Go
end Go.Proofs.Qc
set_option maxRecDepth 100000
set_option maxHeartbeats 1000000
namespace Go.Proofs.Qc
open Go Go.Lib
theorem Nt (l:List UInt8):bs (ofL l)=l:=by simp[bs,ofL]
theorem FT (a b:ByteArray):bs (a++b)=bs a++bs b:=by
 unfold bs;rw[ByteArray.data_append,Array.toList_append]
theorem vV (s:ByteArray):s.size=(bs s).length:=by unfold bs;rw[Array.length_toList];rfl
def i64 (n:Int):Prop:=-9223372036854775808≤n∧n≤9223372036854775807
theorem Gm {u:Nat}(h:¬ u<10):decDigits u=decDigits (u / 10)++[UInt8.ofNat (48+u % 10)]:=by rw[decDigits,dif_neg h]
theorem vj {u:Nat}(h:u<10):decDigits u=[UInt8.ofNat (48+u)]:=by rw[decDigits,dif_pos h]
theorem tL:∀ (k u:Nat),u<10^(k+1)→(decDigits u).length≤k+1
 | 0,u,h=>by rw[vj (by omega)];simp
 | k+1,u,h=>by
  by_cases h1:u<10
  ·rw[vj h1];simp
  ·rw[Gm h1,List.length_append,List.length_singleton]
   have:=tL k (u / 10) (by rw[Nat.pow_succ]at h;omega)
   omega
theorem Br {n:Int}(h:i64 n):(itoa n).length≤20:=by
 have h1:=h.1
 have h2:=h.2
 unfold itoa;split
 ·have:=tL 18 n.natAbs (by omega)
  simp only[List.length_cons];omega
 ·have:=tL 18 n.toNat (by omega)
  omega
theorem vW {n:Int}(h:i64 n):dF n=some (ofL (itoa n)):=by
 unfold dF oQ Ly
 rw[if_pos (show -9223372036854775808≤n∧n≤9223372036854775807 from h)];rfl
def val (l:List UInt8):Nat:=l.foldl (fun a c=>a*10+(c.toNat - 48)) 0
end Go.Proofs.Qc
set_option maxRecDepth 100000
set_option maxHeartbeats 1000000
namespace Go.Proofs.Qc
open Go Go.Lib
theorem Jd {B:Nat}(sep:List UInt8)(xs:List (List UInt8))(h:∀ x,x∈xs→x.length≤B):(Lib.join xs sep).length≤xs.length*(B+sep.length):=by
 have key:∀ xs:List (List UInt8),(∀ x,x∈xs→x.length≤B)→(joinTail sep xs).length≤xs.length*(B+sep.length):=by
  intro xs
  induction xs with
  | nil=>intro _;simp[joinTail]
  | cons x r ih=>
   intro h
   have h1:=ih (fun y hy=>h y (by simp[hy]))
   have h2:=h x (by simp)
   simp only[joinTail,List.map_cons,List.flatten_cons,List.length_append,List.length_cons]at h1 ⊢
   rw[Nat.succ_mul];omega
 cases xs with
 | nil=>simp[Lib.join_nil]
 | cons x r=>
  rw[Lib.join_cons,List.length_append,List.length_cons,Nat.succ_mul]
  have h1:=key r (fun y hy=>h y (by simp[hy]))
  have h2:=h x (by simp)
  omega
def VL (l:List ByteArray)(sep:ByteArray):ByteArray:=ofL (Lib.join (l.map bs) (bs sep))
theorem Nu (l:List ByteArray)(sep:ByteArray)(h1:l.length≤1073741824)(h2:(Lib.join (l.map bs) (bs sep)).length≤1099511627776):lK l sep=some (VL l sep):=by
 unfold lK oR Lz
 rw[if_pos ⟨by omega,by omega⟩];rfl
end Go.Proofs.Qc
