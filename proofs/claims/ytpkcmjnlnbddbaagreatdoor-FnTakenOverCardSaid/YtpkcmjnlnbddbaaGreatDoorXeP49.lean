/- The reference's game reckons winning too. Own work. -/
import Derived.Test.YtpkcmjnlnbddbaaGreatDoorXeP33
import Derived.Test.YtpkcmjnlnbddbaaGreatDoorXeP24
import Derived.Lib.AtoiAllCases
import Derived.Lib.IndexBytes
set_option linter.all false
set_option maxRecDepth 100000
namespace Go.Proofs.Qe
open Go
abbrev RecS:=GShow→GState→Option Bool
def xF (s:GShow)(t:Int)(rec:RecS):Prop:=∀ x,aB s x=true→x.now=t→rec s x=some (win s x)
theorem xG {s:GShow}(hs:aR s){rec:RecS}{y:GState}(hr:xF s (y.now+1) rec)(h:MomR s y){nodes:List Int}(hn:nodes∈decL s y):gW rec s y nodes=some (bK (win s) s y nodes):=by
 obtain⟨ha,hl7,hm⟩:=dc h.right hn
 have hv:=(aV h.val).1
 have h7:=h.right.nodes
 have hln:=h.len
 have hnow:=h.now
 have hh:=h.right.hor
 have hp:∀ p,p∈ay s nodes→1≤p∧p≤3:=fun p hp=>⟨(bC hp).1,(bC hp).2.1⟩
 have hl3:=nG s nodes
 have ho:=IU (ps:=ay s nodes) (by omega)
 unfold gW
 rw[tM hs h hl7 hm]
 simp only[obnd]
 rw[wH (uq s nodes) hp hl3]
 simp only
 have key:=ib (body:=ja rec (((obsL (ay s nodes)).length:Nat):Int) s.nodes s.ties s.horizon (decX y nodes).now (decX y nodes).times (decX y nodes).values (ay s nodes) (obsL (ay s nodes)))
  (obsL (ay s nodes)) (fun vs=>win s (obsX (decX y nodes) (ay s nodes) vs)) (fun i=>(i:Int)) (rT:=.inl ()) (rF:=.inr false) ?_ ?_ ?_
 ·rw[show((0:Nat):Int)=0 from rfl]at key
  rw[key]
  unfold bK
  cases(obsL (ay s nodes)).all (fun vs=>win s (obsX (decX y nodes) (ay s nodes) vs)) <;> rfl
 all_goals first
  | (
   intro i hi hq
   obtain⟨h1,h2⟩:=sN (List.getElem_mem hi)
   have hob:=vi h hm h1 h2
   have e:=hr _ hob rfl
   unfold ja
   try simp only
   rw[if_pos (by omega),an hi]
   simp only[obnd]
   rw[show(GState.mk (decX y nodes).now (decX y nodes).times (decX y nodes).values)=decX y nodes from rfl,(mI (decX y nodes) (ay s nodes) _ (by show 0≤y.now∧y.now≤1000;omega) (by show(bf _ _ _ _).length≤_;rw[cu];omega) hv hp h1 (by omega)).2]
   simp only
   rw[show(GShow.mk s.nodes s.ties s.horizon)=s from rfl,e,hq]
   first|rfl|(simp only[if_true];rw[wr (by omega) (by omega)];rfl))
  | (
   unfold ja
   try simp only
   rw[if_neg (by omega)])
theorem Pp {s:GShow}(hs:aR s){rec:RecS}{y:GState}(hr:xF s (y.now+1) rec)(h:MomR s y):kI rec s y=some (anyB (win s) s y):=by
 have h7:=vf h.right y
 have hpow:=pm h7
 have hpos:0<2^(enL s y).length:=Nat.pow_pos (by omega)
 unfold kI
 rw[wu hs h]
 simp only[obnd]
 rw[wru (by omega),ah (by omega),Int.toNat_natCast,lR h7,wr (by omega) (by omega)]
 have hlen:(decL s y).length=2^(enL s y).length:=by unfold decL;simp
 have hget:∀ j (hj:j<(decL s y).length),(decL s y)[j]=lz s y j:=by
  intro j hj
  have:(decL s y)[j]?=some (lz s y j):=by
   unfold decL
   rw[List.getElem?_map,List.getElem?_range (by omega)];rfl
  rw[List.getElem?_eq_getElem hj]at this
  exact Option.some.inj this
 have key:=jv (body:=gX rec s.nodes s.ties s.horizon y.now y.times y.values (enL s y)) (decL s y) (bK (win s) s y) (fun j=>((2^(enL s y).length:Nat):Int) - 1 - (j:Int)) (rT:=.inl ()) (fun _=>.inr true) ?_ ?_ ?_
 ·simp only[Int.natCast_zero,Int.sub_zero]at key
  rw[key]
  unfold anyB
  have hany:(decL s y).any (bK (win s) s y)=((decL s y).findIdx? (bK (win s) s y)).isSome:=(List.findIdx?_isSome).symm
  rw[hany]
  cases(decL s y).findIdx? (bK (win s) s y) <;> rfl
 ·intro j hj hq
  have hmem:=List.getElem_mem hj
  have e:=xG hs hr h hmem
  rw[hget j hj]at e hq
  have hd:lz s y j=sel (cz (((2^(enL s y).length:Nat):Int) - 1 - (j:Int))) (enL s y) (enL s y).length:=by
   unfold lz
   rw[show((2^(enL s y).length - 1 - j:Nat):Int)=((2^(enL s y).length:Nat):Int) - 1 - (j:Int) by omega]
  unfold gX
  try simp only
  rw[if_pos (by omega),qP _ _ (by omega),← hd]
  simp only[obnd]
  rw[show(GShow.mk s.nodes s.ties s.horizon)=s from rfl,show(GState.mk y.now y.times y.values)=y from rfl,e,hq]
  simp only[Bool.false_eq_true,if_false]
  rw[wr (by omega) (by omega)]
  congr 2
  omega
 ·intro j hj hq
  have hmem:=List.getElem_mem hj
  have e:=xG hs hr h hmem
  rw[hget j hj]at e hq
  have hd:lz s y j=sel (cz (((2^(enL s y).length:Nat):Int) - 1 - (j:Int))) (enL s y) (enL s y).length:=by
   unfold lz
   rw[show((2^(enL s y).length - 1 - j:Nat):Int)=((2^(enL s y).length:Nat):Int) - 1 - (j:Int) by omega]
  unfold gX
  try simp only
  rw[if_pos (by omega),qP _ _ (by omega),← hd]
  simp only[obnd]
  rw[show(GShow.mk s.nodes s.ties s.horizon)=s from rfl,show(GState.mk y.now y.times y.values)=y from rfl,e,hq]
  rfl
 ·unfold gX
  try simp only
  rw[if_neg (by omega)]
theorem Gk {s:GShow}(hs:aR s){rec:RecS}{x:GState}(hx:aB s x=true)(hr:xF s (x.now+1) rec):kJ rec s x=some (win s x):=by
 have hR:=bl hx
 have hv:=(aV hR.val).1
 have h6:=sW hR.ok x
 have hmm:=tH s x
 have hpow:=pm (m:=(mayL s x).length) (by omega)
 unfold kJ
 rw[xE hs hR]
 simp only[obnd]
 have hw:=IX hx
 unfold lS at hw
 cases hb:fv s x
 ·rw[hb]at hw
  simp only[Bool.false_eq_true,if_false]at hw ⊢
  rw[Dj hs hR]
  simp only
  cases ho:lc s x
  ·rw[ho]at hw
   simp only[Bool.false_eq_true,if_false]at hw ⊢
   obtain⟨b,eb,hbw⟩:=Kn hs hx
   rw[eb]
   simp only
   cases b
   ·simp only[Bool.false_eq_true,if_false]
    rw[wo hx]
    simp only
    have hh:x.now≤s.horizon:=by
     unfold fv at hb
     rw[Bool.or_eq_false_iff,ho]at hb
     have:=hb.2
     simp only[Bool.not_false,Bool.and_true,decide_eq_false_iff_not]at this
     omega
    have hends:bm s x=(List.range (2^(mayL s x).length)).map (lb s x):=by unfold bm;rw[if_neg (by omega)]
    have hlen:(bm s x).length=2^(mayL s x).length:=by rw[hends];simp
    have hget:∀ j (hj:j<(bm s x).length),(bm s x)[j]=lb s x j:=by
     intro j hj
     have:(bm s x)[j]?=some (lb s x j):=by
      rw[hends,List.getElem?_map,List.getElem?_range (by omega)];rfl
     rw[List.getElem?_eq_getElem hj]at this
     exact Option.some.inj this
    have step:∀ j (hj:j<(bm s x).length),gY rec s.nodes s.ties s.horizon x.now x.times x.values (kZ s x) (mayL s x) (j:Int)=(if anyB (win s) s (endX s x (bm s x)[j])=true then some (.next ((j:Int)+1)) else some (.done (.inr false))):=by
     intro j hj
     have hmem:=List.getElem_mem hj
     obtain⟨a1,a2,a3⟩:=ia hR.ok hmem
     have hM:=lT hx hmem
     have e:=Pp hs (y:=endX s x (bm s x)[j]) hr hM
     obtain⟨f1,f2,f3,f4,f5,f6⟩:=rK hR.ok x j
     rw[hget j hj]at e a2 a3 ⊢
     unfold gY
     try simp only
     rw[wru (by omega),ah (by omega),Int.toNat_natCast,lR (by omega),if_pos (by omega),qP _ _ (by omega)]
     simp only[obnd]
     rw[f2]
     simp only
     rw[show(GShow.mk s.nodes s.ties s.horizon)=s from rfl,show(GState.mk x.now x.times x.values)=x from rfl,xC hx (by omega) (by omega) a3]
     simp only
     rw[e]
     simp only
     rw[wr (by omega) (by omega)]
    have key:=ib (body:=gY rec s.nodes s.ties s.horizon x.now x.times x.values (kZ s x) (mayL s x)) (bm s x) (fun ties=>anyB (win s) s (endX s x ties)) (fun i=>(i:Int)) (rT:=.inl ()) (rF:=.inr false) ?_ ?_ ?_
    ·rw[show((0:Nat):Int)=0 from rfl]at key
     rw[key,hw]
     cases(bm s x).all (fun ties=>anyB (win s) s (endX s x ties)) <;> rfl
    ·intro i hi hq
     rw[step i hi,hq];rfl
    ·intro i hi hq
     rw[step i hi,hq];rfl
    ·unfold gY
     try simp only
     rw[wru (by omega),ah (by omega),Int.toNat_natCast,lR (by omega),if_neg (by omega)]
   ·simp only[if_true]
    rw[hbw rfl]
  ·rw[ho]at hw
   rw[hw];rfl
 ·rw[hb]at hw
  rw[hw];rfl
theorem wv {s:GShow}(hs:aR s):∀ (n:Nat) (t:Int),12≤(n:Int)+t→xF s t (kK n)
 | 0,t,h=>by
  intro x hx ht
  have:=(bl hx).now
  have:=(bl hx).right.hor
  omega
 | n+1,t,h=>by
  intro x hx ht
  exact Gk hs hx (by rw[ht];exact wv hs n (t+1) (by omega))
theorem Ko {s:GShow}(hs:aR s)(t:Int)(h:0≤t):xF s t m_spec_l15Win:=wv hs 40 t (by omega)
theorem Dm {s:GShow}(hs:aR s){y:GState}(h:MomR s y){nodes:List Int}(hn:nodes∈decL s y):nV s y nodes=some (bK (win s) s y nodes):=
 xG hs (Ko hs _ (by have:=h.now;omega)) h hn
end Go.Proofs.Qe
set_option maxRecDepth 100000
namespace Go.Proofs.Qe
open Go
theorem EI {α:Type}{l:List α}{n:Nat}{x:α}(h:n<l.length):(l.set n x).take (n+1)=l.take n++[x]:=by
 have e:(l.set n x).take n=l.take n:=by
  apply List.ext_getElem?
  intro i
  rw[List.getElem?_take,List.getElem?_take]
  split
  ·rw[List.getElem?_set_ne (by omega)]
  ·rfl
 rw[cG (by simp;exact h),e]
 simp
theorem Ms {α:Type}{xs ys:List α}{i:Nat}(h:i+ys.length≤xs.length):(putL xs i ys).take i=xs.take i:=by
 unfold putL
 rw[if_pos h,List.append_assoc,List.take_append_of_le_length (by rw[List.length_take];omega),List.take_take]
 simp
theorem Mt {α β ρ:Type}(xs:List α)(q:α→Bool)(I:β→Prop)(body:Int × β→Option (Step (Int × β) ρ))(rT:β→ρ)(rF:Int→β→ρ)
  (h1:∀ i (hi:i<xs.length) k,I k→∃ k',I k'∧body ((i:Int),k)=some (if q xs[i]=true then .done (rF (i:Int) k') else .next ((i:Int)+1,k')))
  (h2:∀ k,I k→body ((xs.length:Int),k)=some (.done (rT k))) (k:β) (hk:I k) :
  ∃ k',I k'∧ak body (0,k)=some (if 0≤aK xs q then rF (aK xs q) k' else rT k'):=by
 have key:=bo (body:=body) (s0:=((0:Int),k)) xs.length (fun i st=>st.1=(i:Int)∧I st.2∧∀ j (hj:j<xs.length),j<i→q xs[j]=false)
  (fun r=>∃ k',I k'∧r=(if 0≤aK xs q then rF (aK xs q) k' else rT k')) ⟨rfl,hk,fun j _ h=>absurd h (by omega)⟩ ?_ ?_
 ·obtain⟨r,hr,hp⟩:=key
  obtain⟨k',h3,rfl⟩:=hp
  exact⟨k',h3,hr⟩
 ·rintro i ⟨a,k⟩ hi ⟨rfl,hI,hall⟩
  obtain⟨k',hk',hb⟩:=h1 i hi k hI
  cases hq:q xs[i]
  ·rw[hq,if_neg (by simp)]at hb
   refine .inl ⟨_,hb,rfl,hk',fun j hj hlt=>?_⟩
   rcases Nat.lt_or_ge j i with h|h
   ·exact hall j hj h
   ·obtain rfl:j=i:=by omega
    exact hq
  ·rw[hq,if_pos rfl]at hb
   refine .inr ⟨_,hb,k',hk',?_⟩
   have:aK xs q=(i:Int):=by
    unfold aK
    have:xs.findIdx? q=some i:=by
     rw[List.findIdx?_eq_some_iff_getElem]
     exact⟨hi,hq,fun j hj=>by simp[hall j (by omega) hj]⟩
    rw[this]
   rw[this,if_pos (by omega)]
 ·rintro⟨a,k⟩ ⟨rfl,hI,hall⟩
  refine⟨_,h2 k hI,k,hI,?_⟩
  rw[if_neg]
  intro h0
  obtain⟨j,hj,_,hq,_⟩:=jw h0
  rw[hall j hj hj]at hq
  cases hq
theorem FQ {α:Type}{xs:List α}{q:α→Bool}(h:¬ 0≤aK xs q):aK xs q=-1∧xs.any q=false:=by
 constructor
 ·unfold aK at h ⊢
  cases hf:xs.findIdx? q with
  | none=>rfl
  | some j=>rw[hf]at h;simp at h
 ·rw[← nR];exact decide_eq_false h
section
variable {s:GShow} {y:GState}
theorem PV (hs:aR s)(h:MomR s y){nodes:List Int}(hn:nodes∈decL s y){known:List (ByteArray × Bool)}(hk:cn s known) :
  ∃ known',cn s known'∧ej nodes s known y=some (!bK (win s) s y nodes,known'):=by
 obtain⟨k',hk',e⟩:=AF (KZ hs _ (by have:=h.now;omega)) h hn hk
 refine⟨k',hk',?_⟩
 unfold ej nE
 rw[e];rfl
theorem EJ (hs:aR s)(h:MomR s y)(xs:List (List Int))(hx:∀ nd,nd∈xs→nd∈decL s y)(hl:xs.length≤128){known:List (ByteArray × Bool)}(hk:cn s known) :
  ∃ known',cn s known'∧bg xs s known y=some (aK xs (fun nd=>!bK (win s) s y nd),xs,known'):=by
 unfold bg
 have key:=Mt xs (fun nd=>!bK (win s) s y nd) (cn s) (aX ((xs.length:Nat):Int) xs s.nodes s.ties s.horizon y.now y.times y.values)
  (fun k=>.inl k) (fun i k=>.inr (i,xs,k)) ?_ ?_ known hk
 ·obtain⟨k',hk',e⟩:=key
  rw[e]
  refine⟨k',hk',?_⟩
  simp only[obnd]
  by_cases h0:0≤aK xs (fun nd=>!bK (win s) s y nd)
  ·rw[if_pos h0]
  ·rw[if_neg h0,(FQ h0).1]
 ·intro i hi k hk
  obtain⟨k',hk',e⟩:=PV hs h (hx _ (List.getElem_mem hi)) hk
  refine⟨k',hk',?_⟩
  unfold aX
  try simp only
  rw[if_pos (by omega),an hi]
  simp only[obnd]
  rw[show(GShow.mk s.nodes s.ties s.horizon)=s from rfl,show(GState.mk y.now y.times y.values)=y from rfl,e]
  simp only
  rw[wr (by omega) (by omega)]
  cases bK (win s) s y xs[i] <;> rfl
 ·intro k _
  unfold aX
  try simp only
  rw[if_neg (by omega)]
theorem Dn (hs:aR s)(h:MomR s y)(xs:List (List Int))(hx:∀ nd,nd∈xs→nd∈decL s y)(hl:xs.length≤128){known:List (ByteArray × Bool)}(hk:cn s known) :
  ∃ known',cn s known'∧bc xs s known y=some (xs.filter (fun nd=>bK (win s) s y nd),known'):=by
 obtain⟨k1,hk1,e1⟩:=EJ hs h xs hx hl hk
 have hfn:xs.filter (fun nd=>bK (win s) s y nd)=xs.filter (fun nd=>!(!bK (win s) s y nd)):=by simp
 rw[hfn]
 unfold bc
 rw[e1]
 simp only[obnd]
 generalize hq':(fun nd=>!bK (win s) s y nd)=q at *
 have hq:∀ nd,q nd=!bK (win s) s y nd:=fun nd=>by rw[← hq']
 have hff:(fun nd=>!(!bK (win s) s y nd))=(fun x=>!q x):=by funext nd;rw[hq]
 rw[hff]
 by_cases h0:0≤aK xs q
 ·obtain⟨i0,hi0,he,hq0,hno⟩:=jw h0
  rw[he,if_neg (by omega),wr (x:=(i0:Int)+1) (by omega) (by omega)]
  have htake:(xs.take i0).filter (fun x=>!q x)=xs.take i0:=by
   rw[List.filter_eq_self]
   intro x hm
   obtain⟨j,hj,rfl⟩:=List.getElem_of_mem hm
   rw[List.length_take]at hj
   rw[List.getElem_take,hno j (by omega)];rfl
  have inv:∃ r,ak (aW xs.length s.nodes s.ties s.horizon y.now y.times y.values) ((i0:Int),(i0:Int)+1,xs,k1)=some r∧(r.1=(((xs.filter (fun x=>!q x)).length:Nat):Int)∧r.2.1.length=xs.length∧r.2.1.take (xs.filter (fun x=>!q x)).length=xs.filter (fun x=>!q x)∧cn s r.2.2):=by
   refine bo (xs.length - (i0+1)) (fun (k:Nat) (s':Int × Int × List (List Int) × List (ByteArray × Bool))=>s'.2.1=((i0+1+k:Nat):Int)∧s'.1=((((xs.take (i0+1+k)).filter (fun x=>!q x)).length:Nat):Int)∧s'.2.2.1.length=xs.length ∧
    s'.2.2.1.take ((xs.take (i0+1+k)).filter (fun x=>!q x)).length=(xs.take (i0+1+k)).filter (fun x=>!q x)∧(∀ j,i0+1+k≤j→s'.2.2.1[j]?=xs[j]?)∧((xs.take (i0+1+k)).filter (fun x=>!q x)).length<i0+1+k∧cn s s'.2.2.2) _ ?_ ?_ ?_
   ·have e1:(xs.take (i0+1)).filter (fun x=>!q x)=xs.take i0:=by
     rw[cG hi0,List.filter_append,htake]
     simp[hq0]
    have hl:(xs.take i0).length=i0:=by rw[List.length_take];omega
    refine⟨by simp only;omega,?_,rfl,?_,fun _ _=>rfl,?_,hk1⟩
    ·simp only[Nat.add_zero];rw[e1,hl]
    ·simp only[Nat.add_zero];rw[e1,hl]
    ·simp only[Nat.add_zero];rw[e1,hl];omega
   ·rintro k ⟨v5,v6,v0,kn⟩ hk ⟨h1,h2,h3,h4,h5,h6,h7⟩
    simp only at h1 h2 h3 h4 h5 h6 h7
    have hj:i0+1+k<xs.length:=by omega
    have hg:getI v0 v6=some xs[i0+1+k]:=by
     unfold getI
     rw[h1,if_pos (by omega),Int.toNat_natCast,h5 _ (Nat.le_refl _),List.getElem?_eq_getElem hj]
    obtain⟨kn',hkn',ec⟩:=PV hs h (hx _ (List.getElem_mem hj)) h7
    left
    unfold aW
    simp only
    rw[if_pos (by omega),ah (by omega),hg,wr (x:=v6+1) (by omega) (by omega)]
    simp only[obnd]
    rw[show(GShow.mk s.nodes s.ties s.horizon)=s from rfl,show(GState.mk y.now y.times y.values)=y from rfl,ec,← hq]
    simp only
    cases hqq:q xs[i0+1+k]
    ·have e2:(xs.take (i0+1+(k+1))).filter (fun x=>!q x)=(xs.take (i0+1+k)).filter (fun x=>!q x)++[xs[i0+1+k]]:=by
      rw[show i0+1+(k+1)=i0+1+k+1 by omega,cG hj,List.filter_append]
      simp[hqq]
     have hv5:getI v0 v5=some v0[((xs.take (i0+1+k)).filter (fun x=>!q x)).length]:=by rw[h2,an (by omega)]
     rw[if_neg (by simp),ah (by omega),hv5,wr (x:=v5+1) (by omega) (by omega)]
     refine⟨_,rfl,by simp only;omega,?_,?_,?_,?_,?_,hkn'⟩
     ·simp only;rw[e2,List.length_append,h2];simp
     ·simp only[List.length_set];exact h3
     ·simp only;rw[e2,List.length_append,h2,Int.toNat_natCast]
      simp only[List.length_cons,List.length_nil,Nat.zero_add]
      rw[EI (by omega),h4]
     ·intro j hj'
      simp only
      rw[h2,Int.toNat_natCast,List.getElem?_set_ne (by omega)]
      exact h5 j (by omega)
     ·rw[e2,List.length_append];simp;omega
    ·have e2:(xs.take (i0+1+(k+1))).filter (fun x=>!q x)=(xs.take (i0+1+k)).filter (fun x=>!q x):=by
      rw[show i0+1+(k+1)=i0+1+k+1 by omega,cG hj,List.filter_append]
      simp[hqq]
     rw[if_pos rfl]
     refine⟨_,rfl,by simp only;omega,?_,h3,?_,fun j hj'=>h5 j (by omega),?_,hkn'⟩
     ·simp only;rw[e2];exact h2
     ·simp only;rw[e2];exact h4
     ·rw[e2];omega
   ·rintro⟨v5,v6,v0,kn⟩ ⟨h1,h2,h3,h4,h5,h6,h7⟩
    simp only at h1 h2 h3 h4 h7
    have hall:i0+1+(xs.length - (i0+1))=xs.length:=by omega
    rw[hall]at h1 h2 h4
    rw[List.take_length]at h2 h4
    unfold aW
    simp only
    rw[if_neg (by omega)]
    exact⟨_,rfl,h2,h3,h4,h7⟩
  obtain⟨⟨v5,v0,kn⟩,hr,h1,h2,h3,h4⟩:=inv
  rw[hr]
  simp only at h1 h2 h3 h4 ⊢
  have hle:=List.length_filter_le (fun x=>!q x) xs
  subst h1
  simp only[Int.toNat_natCast]
  rw[ah (by omega),ah (by omega),ah (by omega),ah (by omega),ah (by rw[As];omega),ah (by omega),Ms (by rw[List.length_replicate];omega),h3]
  exact⟨kn,h4,rfl⟩
 ·obtain⟨h2,h1⟩:=FQ h0
  rw[if_pos h2,ah (Nat.le_refl _),List.take_length]
  refine⟨k1,hk1,?_⟩
  congr 2
  symm
  rw[List.filter_eq_self]
  intro x hm
  rw[List.any_eq_false]at h1
  have:=h1 x hm
  cases hqx:q x
  ·rfl
  ·exact absurd hqx this
theorem Pq (hs:aR s)(h:MomR s y){known:List (ByteArray × Bool)}(hk:cn s known) :
  ∃ known',cn s known'∧kb s known y=some ((decL s y).filter (bK (win s) s y),known'):=by
 obtain⟨k',hk',e⟩:=Dn hs h (decL s y) (fun _ h=>h) (rA h.right y) hk
 refine⟨k',hk',?_⟩
 unfold kb
 rw[tL hs h]
 simp only[obnd]
 rw[e]
end
def na (lazy:Bool)(l:List (List Int))(p:List Int→Bool):Option (List Int):=if lazy=true then l.reverse.find? p else l.find? p
theorem Pr (l:List (List Int))(p:List Int→Bool)(lazy:Bool)(hl:l.length≤128) :
  nF (l.filter p) lazy=some (match na lazy l p with|some nd=>(nd,true)|none=>([],false)):=by
 have hle:=List.length_filter_le p l
 unfold nF na
 have e1:l.find? p=(l.filter p).head?:=(List.head?_filter).symm
 have e2:l.reverse.find? p=(l.filter p).getLast?:=by rw[← List.head?_filter,List.filter_reverse,List.head?_reverse]
 rw[e1,e2]
 generalize l.filter p=m at *
 by_cases h0:m=[]
 ·subst h0
  rw[if_pos (by simp)]
  cases lazy <;> rfl
 ·have hpos:0<m.length:=List.length_pos_iff.2 h0
  rw[if_neg (by omega)]
  cases lazy
  ·simp only[Bool.false_eq_true,if_false]
   have:getI m ((0:Nat):Int)=some m[0]:=an hpos
   rw[show((0:Nat):Int)=0 from rfl]at this
   rw[this,List.head?_eq_getElem?,List.getElem?_eq_getElem hpos];rfl
  ·simp only[if_true]
   rw[wr (by omega) (by omega),show((m.length:Nat):Int) - 1=((m.length - 1:Nat):Int) by omega,an (by omega),List.getLast?_eq_getElem?,List.getElem?_eq_getElem (by omega)];rfl
end Go.Proofs.Qe
set_option maxRecDepth 100000
namespace Go.Proofs.Qe
open Go
theorem Mu (log:List GEntry)(hl:log.length≤1048576)(he:∀ e,e∈log→FitE e):lK log=some log:=by
 unfold lK
 have key:ak (jc log ((log.length:Nat):Int)) (((0:Nat):Int),log.take 0)=some log:=by
  refine aH log.length (fun i=>((i:Int),log.take i)) ?_ ?_
  ·intro i hi
   have hf:=he _ (List.getElem_mem hi)
   unfold jc
   try simp only
   rw[if_pos (by omega),an hi]
   simp only[obnd]
   rw[iE _ hf.ties,iE _ hf.nodes,iE _ hf.values]
   simp only
   rw[ah (by rw[List.length_take];omega),ah (by rw[List.length_take];omega),wr (by omega) (by omega),List.take_succ_eq_append_getElem hi];rfl
  ·unfold jc
   try simp only
   rw[if_neg (by omega),List.take_length]
 simp only[Int.natCast_zero,List.take_zero]at key
 rw[key];rfl
theorem AG (d:GDesk)(h:FitD d):iM d=some d:=by
 unfold iM
 rw[Aw _ h.sh]
 simp only[obnd]
 rw[qR _ h.st.times h.st.values]
 simp only
 rw[Mu _ h.log h.entry]
theorem vX (d:GDesk)(h:FitD d):gT d=some d:=by
 have hl:=h.log
 unfold gT
 rw[CY _ h.sh]
 simp only[obnd]
 rw[qS _ h.st.times h.st.values]
 simp only
 have key:ak (dT d.log ((d.log.length:Nat):Int) d.show_.horizon d.state.now d.lazy d.show_.nodes d.show_.ties d.state.times d.state.values) (((0:Nat):Int),d.log.take 0)=some d.log:=by
  refine aH d.log.length (fun i=>((i:Int),d.log.take i)) ?_ ?_
  ·intro i hi
   have hf:=h.entry _ (List.getElem_mem hi)
   have f1:=hf.ties
   have f2:=hf.nodes
   have f3:=hf.values
   unfold dT
   try simp only
   rw[if_pos (by omega),an hi]
   simp only[obnd]
   unfold mV
   rw[ah (by omega),ah (by omega),ah (by omega),ah (by omega),ah (by omega),ah (by omega)]
   simp only
   rw[ah (by rw[List.length_take];omega),ah (by rw[List.length_take];omega),wr (by omega) (by omega),List.take_succ_eq_append_getElem hi];rfl
  ·unfold dT
   try simp only
   rw[if_neg (by omega),List.take_length]
 simp only[Int.natCast_zero,List.take_zero]at key
 rw[key]
def pmB (values:List Int):Bool:=decide (values.length=3)&&values.all (fun v=>decide (v=1) || decide (v=-1))
noncomputable def bn (d:GDesk)(ties values:List Int):Int:=
 if bP d=true then (if pmB values=true then (if fv d.show_ d.state=true then 2 else if lc d.show_ d.state=true then 2 else if d.show_.horizon<d.state.now then 2 else if ties∈bm d.show_ d.state then 0 else 3) else 1) else 1
def cK (values ps:List Int):List Int:=ps.map (fun p=>tm values (p - 1))
def litL (values ps:List Int):List Int:=ps.map (fun p=>p*tm values (p - 1))
noncomputable def finD (d:GDesk)(ties values nodes:List Int):GDesk:=
 ⟨d.show_,obsX (decX (endX d.show_ d.state ties) nodes) (ay d.show_ nodes) (cK values (ay d.show_ nodes)),d.lazy,d.log++[⟨d.state.now,ties,nodes,litL values (ay d.show_ nodes)⟩]⟩
noncomputable def mm (d:GDesk)(ties values:List Int)(refused:Int)(c:Option (List Int)):GDesk × List Int × Int:=
 if bn d ties values=0 then (match c with|some nd=>(finD d ties values nd,nd,0)|none=>(d,[],refused)) else (d,[],bn d ties values)
theorem jz {d:GDesk}(h:bP d=true):aB d.show_ d.state=true:=by
 unfold bP at h
 simp only[Bool.and_eq_true]at h
 exact h.1.1.1
theorem nH {d:GDesk}{ties values:List Int}(h:bn d ties values=0):bP d=true∧pmB values=true∧ties∈bm d.show_ d.state∧fv d.show_ d.state=false∧lc d.show_ d.state=false∧¬ d.show_.horizon<d.state.now:=by
 unfold bn at h
 split at h
 ·rename_i h1
  split at h
  ·rename_i h2
   split at h
   ·omega
   ·rename_i h3
    split at h
    ·omega
    ·rename_i h4
     split at h
     ·omega
     ·rename_i h5
      split at h
      ·rename_i h6
       exact⟨h1,h2,h6,by simpa using h3,by simpa using h4,h5⟩
      ·omega
  ·omega
 ·omega
theorem Ja {values:List Int}(h:pmB values=true):values.length=3∧∀ v,v∈values→v=1∨v=-1:=by
 unfold pmB at h
 rw[Bool.and_eq_true,decide_eq_true_eq,List.all_eq_true]at h
 exact⟨h.1,fun v hv=>by have:=h.2 v hv;simpa using this⟩
theorem HI {values:List Int}(h:pmB values=true){k:Int}(h0:0≤k)(h1:k<3):tm values k=1∨tm values k=-1:=by
 obtain⟨h2,h3⟩:=Ja h
 unfold tm
 rw[List.getElem?_eq_getElem (show k.toNat<values.length by omega)]
 exact h3 _ (List.getElem_mem _)
theorem UX {values:List Int}(h3:values.length=3):values.any (fun v=>!(decide (v=1) || decide (v=-1)))=!pmB values:=by
 unfold pmB
 rw[decide_eq_true h3,Bool.true_and,List.any_eq_not_all_not]
 simp
theorem Jb (v:Int):gD v=some (!(decide (v=1) || decide (v=-1))):=by
 unfold gD
 by_cases h:v=1
 ·rw[if_pos h,decide_eq_true h];rfl
 ·rw[if_neg h,decide_eq_false h]
  by_cases h2:v=-1
  ·rw[decide_eq_true h2,decide_eq_false (by simpa using h2)];rfl
  ·rw[decide_eq_false h2,decide_eq_true h2];rfl
theorem Kq {values ps:List Int}(hv:pmB values=true)(hp:∀ p,p∈ps→1≤p∧p≤3)(hl:ps.length≤3):kQ ps (cK values ps)=some (litL values ps):=by
 unfold kQ
 have key:ak (iz (cK values ps) ps ((ps.length:Nat):Int)) (((0:Nat):Int),litL values (ps.take 0))=some (litL values ps):=by
  refine aH ps.length (fun i=>((i:Int),litL values (ps.take i))) ?_ ?_
  ·intro i hi
   have hb:=hp _ (List.getElem_mem hi)
   have ht:=HI hv (k:=ps[i] - 1) (by omega) (by omega)
   have hl1:(litL values (ps.take i)).length≤3:=by unfold litL;rw[List.length_map,List.length_take];omega
   have hsl:(cK values ps).length=ps.length:=by unfold cK;simp
   unfold iz
   try simp only
   rw[if_pos (by omega),an hi,an (show i<(cK values ps).length by omega)]
   simp only[obnd]
   have hs:(cK values ps)[i]'(by omega)=tm values (ps[i] - 1):=by unfold cK;simp
   rw[hs,ah (by omega),ah (by omega),wr (x:=(i:Int)+1) (by omega) (by omega),wr (x:=ps[i]*tm values (ps[i] - 1)) (by rcases ht with h|h <;> rw[h] <;> omega) (by rcases ht with h|h <;> rw[h] <;> omega)]
   congr 3
   unfold litL
   rw[List.take_succ_eq_append_getElem hi,List.map_append];rfl
  ·unfold iz
   try simp only
   rw[if_neg (by omega),List.take_length]
 simp only[Int.natCast_zero,List.take_zero]at key
 rw[show litL values []=[] from rfl]at key
 rw[key];rfl
theorem vY {values ps:List Int}(hv:pmB values=true)(hp:∀ p,p∈ps→1≤p∧p≤3):(cK values ps).length=ps.length∧∀ v,v∈cK values ps→v=1∨v=-1:=by
 refine⟨by unfold cK;simp,fun v hm=>?_⟩
 unfold cK at hm
 rw[List.mem_map]at hm
 obtain⟨p,hpm,rfl⟩:=hm
 have:=hp p hpm
 exact HI hv (by omega) (by omega)
theorem xH (d:GDesk)(ties values:List Int)(refused:Int)(d':GDesk)(hf:FitD d)(ht:ties.length≤1048576)(hvl:values.length≤1048576)(c:Option (List Int))(hmem:∀ nd,c=some nd→nd∈decL d.show_ (endX d.show_ d.state ties))
  (hc:bn d ties values=0→∃ r,iy d.show_ [] (endX d.show_ d.state ties) d'=some r∧r.2.1=c.isSome∧∀ nd,c=some nd→r.1=nd) :
  bI d ties values refused d'=some (mm d ties values refused c):=by
 have hs:=hf.sh.small
 have hlog:=hf.log
 have hg0:=@nH d ties values
 unfold mm
 unfold bI
 rw[AG d hf]
 simp only[obnd]
 rw[uC d hf]
 simp only
 cases hd:bP d
 ·have e:bn d ties values=1:=by unfold bn;rw[hd];rfl
  rw[e];rfl
 have hx:=jz hd
 have hR:=bl hx
 simp only[if_true]
 by_cases h3:values.length=3
 rotate_left
 ·have e:bn d ties values=1:=by unfold bn pmB;rw[hd,decide_eq_false h3];rfl
  rw[if_neg (by omega),e];rfl
 rw[if_pos (by omega),mn values _ (fun v=>!(decide (v=1) || decide (v=-1))) (by unfold Cnt;omega) (fun v _=>Jb v),UX h3]
 simp only
 cases hp:pmB values
 ·have e:bn d ties values=1:=by unfold bn;rw[hd,hp];rfl
  rw[e];rfl
 simp only[Bool.not_true,Bool.false_eq_true,if_false]
 rw[AC hs hR]
 simp only
 cases hb:fv d.show_ d.state
 rotate_left
 ·have e:bn d ties values=2:=by unfold bn;rw[hd,hp,hb];rfl
  rw[e];rfl
 simp only[Bool.false_eq_true,if_false]
 rw[vW hs hR]
 simp only
 cases ho:lc d.show_ d.state
 rotate_left
 ·have e:bn d ties values=2:=by unfold bn;rw[hd,hp,hb,ho];rfl
  rw[e];rfl
 simp only[Bool.false_eq_true,if_false]
 by_cases hh:d.show_.horizon<d.state.now
 ·have e:bn d ties values=2:=by unfold bn;rw[hd,hp,hb,ho,if_pos hh];rfl
  rw[if_pos hh,e];rfl
 rw[if_neg hh,vR hx]
 simp only
 have hel:=pX (x:=d.state) hR.ok
 rw[AS _ _ (by unfold Cnt;omega) (by unfold Cnt;omega)]
 simp only
 by_cases hm:ties∈bm d.show_ d.state
 rotate_left
 ·have e:bn d ties values=3:=by unfold bn;rw[hd,hp,hb,ho,if_neg hh,if_neg hm];rfl
  rw[decide_eq_false hm,e];rfl
 have e:bn d ties values=0:=by unfold bn;rw[hd,hp,hb,ho,if_neg hh,if_pos hm];rfl
 obtain⟨a1,a2,a3⟩:=ia hR.ok hm
 have hM:=lT hx hm
 have hv3:=(aV hR.val).1
 rw[decide_eq_true hm,if_pos rfl,AW hx (by omega) (by omega) a3]
 simp only
 unfold nW
 simp only
 obtain⟨r,e1,e2,e3⟩:=hc e
 rw[e1,e]
 simp only[if_true]
 rw[e2]
 cases c with
 | none=>rfl
 | some nd=>
  have hn:=hmem nd rfl
  obtain⟨n1,n2,n3⟩:=dc hM.right hn
  have hps:∀ p,p∈ay d.show_ nd→1≤p∧p≤3:=fun p hp=>⟨(bC hp).1,(bC hp).2.1⟩
  have hpl:=nG d.show_ nd
  simp only[Option.isSome_some,if_true]
  rw[e3 nd rfl,vU hM n1 n2 n3]
  simp only
  have key:ak (ba ties values nd (((ay d.show_ nd).length:Nat):Int) d.show_.horizon d.state.now d.lazy d.state.now d.state.times d.state.values (decX (endX d.show_ d.state ties) nd).now d.show_.nodes d.show_.ties d.state.times d.state.values d.log (decX (endX d.show_ d.state ties) nd).times (decX (endX d.show_ d.state ties) nd).values (ay d.show_ nd)) (((0:Nat):Int),cK values ((ay d.show_ nd).take 0))=some (cK values (ay d.show_ nd)):=by
   refine aH (ay d.show_ nd).length (fun i=>((i:Int),cK values ((ay d.show_ nd).take i))) ?_ ?_
   ·intro i hi
    have hb:=hps _ (List.getElem_mem hi)
    have hsl:(cK values ((ay d.show_ nd).take i)).length≤3:=by unfold cK;rw[List.length_map,List.length_take];omega
    unfold ba
    try simp only
    rw[if_pos (by omega),an hi]
    simp only[obnd]
    rw[wr (x:=(ay d.show_ nd)[i] - 1) (by omega) (by omega),bJ (by omega) (by omega)]
    simp only
    rw[ah (by omega),ah (by omega),wr (by omega) (by omega)]
    congr 3
    unfold cK
    rw[List.take_succ_eq_append_getElem hi,List.map_append];rfl
   ·unfold ba
    try simp only
    rw[if_neg (by omega),List.take_length]
  simp only[Int.natCast_zero,List.take_zero]at key
  rw[show cK values []=[] from rfl]at key
  rw[key]
  simp only
  obtain⟨s1,s2⟩:=vY hp hps
  have hnow:=hR.now
  have hhor:=hR.right.hor
  have hln:=hM.len
  have h7:=hM.right.nodes
  rw[(mI (decX (endX d.show_ d.state ties) nd) (ay d.show_ nd) (cK values (ay d.show_ nd)) (by show 0≤d.state.now∧d.state.now≤1000;omega) (by show(bf _ _ _ _).length≤_;rw[cu];omega) hv3 hps s1 (by omega)).1]
  simp only
  rw[iE _ ht,iE _ (by omega),Kq hp hps hpl]
  simp only
  rw[ah (by omega),ah (by omega)]
  rfl
end Go.Proofs.Qe
set_option maxRecDepth 100000
namespace Go.Proofs.Qe
open Go
end Go.Proofs.Qe
set_option maxRecDepth 100000
namespace Go.Proofs.Qe
open Go
noncomputable def sO (d:GDesk)(ties:List Int):Option (List Int):=na d.lazy (decL d.show_ (endX d.show_ d.state ties)) (bK (win d.show_) d.show_ (endX d.show_ d.state ties))
theorem nI {lazy:Bool}{l:List (List Int)}{p:List Int→Bool}{nd:List Int}(h:na lazy l p=some nd):nd∈l∧p nd=true:=by
 unfold na at h
 split at h
 ·exact⟨by simpa using List.mem_of_find?_eq_some h,List.find?_some h⟩
 ·exact⟨List.mem_of_find?_eq_some h,List.find?_some h⟩
theorem Gm (d:GDesk)(ties values:List Int)(hf:FitD d)(ht:ties.length≤1048576)(hv:values.length≤1048576):kR d ties values=some (mm d ties values 5 (sO d ties)):=by
 have hs:=hf.sh.small
 unfold kR
 rw[xH d ties values 5 d hf ht hv (sO d ties) (fun nd h=>(nI h).1) ?_]
 ·rfl
 ·intro h0
  obtain⟨g1,_,g3,_⟩:=nH h0
  have hM:=lT (jz g1) g3
  have hl:=rA hM.right (endX d.show_ d.state ties)
  unfold iy sO
  cases hz:d.lazy
  ·simp only[Bool.false_eq_true,if_false]
   obtain⟨k',_,e⟩:=Dl hs (y:=endX d.show_ d.state ties) (KZ hs _ (by have:=hM.now;omega)) hM (FO d.show_)
   unfold oq
   rw[e]
   simp only[obnd]
   refine⟨_,rfl,?_⟩
   unfold na
   simp only[Bool.false_eq_true,if_false]
   cases(decL d.show_ (endX d.show_ d.state ties)).find? (bK (win d.show_) d.show_ (endX d.show_ d.state ties)) with
   | none=>exact⟨rfl,fun nd h=>by cases h⟩
   | some nd=>exact⟨rfl,fun nd' h=>by cases h;rfl⟩
  ·simp only[if_true]
   obtain⟨k',_,e⟩:=Pq hs hM (FO d.show_)
   rw[e]
   simp only[obnd]
   rw[Pr _ _ _ hl]
   simp only
   refine⟨_,rfl,?_⟩
   cases na true (decL d.show_ (endX d.show_ d.state ties)) (bK (win d.show_) d.show_ (endX d.show_ d.state ties)) with
   | none=>exact⟨rfl,fun nd h=>by cases h⟩
   | some nd=>exact⟨rfl,fun nd' h=>by cases h;rfl⟩
theorem zg {s:GShow}{x:GState}(hs:aR s)(hx:aB s x=true)(ties:List Int)(ht:ties.length≤1048576):de s x ties=some (if ties∈bm s x then (endX s x ties,true) else (jK,false)):=by
 have hR:=bl hx
 have hv3:=(aV hR.val).1
 have hln:=hR.len
 have h7:=hR.right.nodes
 have hel:=pX (x:=x) hR.ok
 unfold de
 rw[tI hs hx (by omega) (by omega)]
 simp only[obnd]
 rw[AU _ _ (by unfold Cnt;omega) (fun l hl=>by have:=(ia hR.ok hl).2.1;unfold Cnt;omega)]
 simp only
 by_cases hm:ties∈bm s x
 ·obtain⟨a1,a2,a3⟩:=ia hR.ok hm
  rw[decide_eq_true hm,if_pos rfl,if_pos hm,xC hx (by omega) (by omega) a3]
 ·rw[decide_eq_false hm,if_neg (by simp),if_neg hm];rfl
theorem Kr (d:GDesk)(ties values:List Int)(hf:FitD d)(ht:ties.length≤1048576)(hvl:values.length≤1048576):kH d ties values=some (if bn d ties values=0 then (endX d.show_ d.state ties,0) else (jK,bn d ties values)):=by
 have hs:=hf.sh.small
 unfold kH
 rw[Kk d hf]
 simp only[obnd]
 cases hd:bP d
 ·have e:bn d ties values=1:=by unfold bn;rw[hd];rfl
  rw[e];rfl
 have hx:=jz hd
 have hR:=bl hx
 simp only[if_true]
 by_cases h3:values.length=3
 rotate_left
 ·have e:bn d ties values=1:=by unfold bn pmB;rw[hd,decide_eq_false h3];rfl
  rw[if_neg (by omega),e];rfl
 rw[if_pos (by omega)]
 have key:=ib (body:=ff ties values ((values.length:Nat):Int) d.show_.nodes d.show_.ties d.show_.horizon d.state.now d.state.times d.state.values d.lazy d.log) values (fun v=>decide (v=1) || decide (v=-1)) (fun i=>(i:Int)) (rT:=.inl ()) (rF:=.inr (GState.mk 0 [] [],1)) ?_ ?_ ?_
 ·rw[show((0:Nat):Int)=0 from rfl]at key
  rw[key]
  simp only
  cases hp:pmB values
  ·have e:bn d ties values=1:=by unfold bn;rw[hd,hp];rfl
   have hall:values.all (fun v=>decide (v=1) || decide (v=-1))=false:=by unfold pmB at hp;rwa [decide_eq_true h3,Bool.true_and]at hp
   rw[hall,e];rfl
  have hall:values.all (fun v=>decide (v=1) || decide (v=-1))=true:=by unfold pmB at hp;rwa [decide_eq_true h3,Bool.true_and]at hp
  rw[hall]
  simp only[if_true]
  rw[xE hs hR]
  simp only
  cases hb:fv d.show_ d.state
  rotate_left
  ·have e:bn d ties values=2:=by unfold bn;rw[hd,hp,hb];rfl
   rw[e];rfl
  simp only[Bool.false_eq_true,if_false]
  rw[Dj hs hR]
  simp only
  cases ho:lc d.show_ d.state
  rotate_left
  ·have e:bn d ties values=2:=by unfold bn;rw[hd,hp,hb,ho];rfl
   rw[e];rfl
  simp only[Bool.false_eq_true,if_false]
  by_cases hh:d.show_.horizon<d.state.now
  ·have e:bn d ties values=2:=by unfold bn;rw[hd,hp,hb,ho,if_pos hh];rfl
   rw[if_pos hh,e];rfl
  rw[if_neg hh,zg hs hx ties ht]
  simp only
  by_cases hm:ties∈bm d.show_ d.state
  ·have e:bn d ties values=0:=by unfold bn;rw[hd,hp,hb,ho,if_neg hh,if_pos hm];rfl
   rw[if_pos hm,e];rfl
  ·have e:bn d ties values=3:=by unfold bn;rw[hd,hp,hb,ho,if_neg hh,if_neg hm];rfl
   rw[if_neg hm,e];rfl
 ·intro i hi hq
  unfold ff
  try simp only
  rw[if_pos (by omega),an hi]
  simp only[obnd]
  rw[wr (by omega) (by omega)]
  by_cases h1:values[i]=1
  ·rw[if_pos h1];rfl
  ·rw[if_neg h1,if_pos (by simpa [h1] using hq)];rfl
 ·intro i hi hq
  unfold ff
  try simp only
  rw[if_pos (by omega),an hi]
  simp only[obnd]
  rw[Bool.or_eq_false_iff,decide_eq_false_iff_not,decide_eq_false_iff_not]at hq
  rw[if_neg hq.1,if_neg hq.2]
 ·unfold ff
  try simp only
  rw[if_neg (by omega)]
theorem Jc (d:GDesk)(ties values nd:List Int)(hf:FitD d)(ht:ties.length≤1048576)(h0:bn d ties values=0)(hn:nd∈decL d.show_ (endX d.show_ d.state ties)) :
  jW d ties (endX d.show_ d.state ties) nd values=some (finD d ties values nd):=by
 have hs:=hf.sh.small
 have hlog:=hf.log
 obtain⟨g1,hp,g3,_⟩:=nH h0
 have hx:=jz g1
 have hR:=bl hx
 have hM:=lT hx g3
 have hv3:=(aV hR.val).1
 obtain⟨p3,_⟩:=Ja hp
 obtain⟨n1,n2,n3⟩:=dc hM.right hn
 have hps:∀ p,p∈ay d.show_ nd→1≤p∧p≤3:=fun p hp=>⟨(bC hp).1,(bC hp).2.1⟩
 have hpl:=nG d.show_ nd
 unfold jW
 rw[vX d hf]
 simp only[obnd]
 rw[tM hs hM n2 n3]
 simp only
 have key:ak (gz ties nd values (((ay d.show_ nd).length:Nat):Int) (endX d.show_ d.state ties).now (endX d.show_ d.state ties).times (endX d.show_ d.state ties).values d.show_.horizon d.state.now d.lazy (decX (endX d.show_ d.state ties) nd).now d.show_.nodes d.show_.ties d.state.times d.state.values d.log (decX (endX d.show_ d.state ties) nd).times (decX (endX d.show_ d.state ties) nd).values (ay d.show_ nd)) (((0:Nat):Int),cK values ((ay d.show_ nd).take 0),litL values ((ay d.show_ nd).take 0))=some (cK values (ay d.show_ nd),litL values (ay d.show_ nd)):=by
  refine aH (ay d.show_ nd).length (fun i=>((i:Int),cK values ((ay d.show_ nd).take i),litL values ((ay d.show_ nd).take i))) ?_ ?_
  ·intro i hi
   have hb:=hps _ (List.getElem_mem hi)
   have htm:=HI hp (k:=(ay d.show_ nd)[i] - 1) (by omega) (by omega)
   have hsl:(cK values ((ay d.show_ nd).take i)).length≤3:=by unfold cK;rw[List.length_map,List.length_take];omega
   have hll:(litL values ((ay d.show_ nd).take i)).length≤3:=by unfold litL;rw[List.length_map,List.length_take];omega
   unfold gz
   try simp only
   rw[if_pos (by omega),an hi]
   simp only[obnd]
   rw[wr (x:=(ay d.show_ nd)[i] - 1) (by omega) (by omega),bJ (by omega) (by omega)]
   simp only
   rw[ah (by omega),ah (by omega),ah (by omega),ah (by omega),wr (x:=(i:Int)+1) (by omega) (by omega),wr (x:=(ay d.show_ nd)[i]*tm values ((ay d.show_ nd)[i] - 1)) (by rcases htm with h|h <;> rw[h] <;> omega) (by rcases htm with h|h <;> rw[h] <;> omega)]
   have e1:cK values ((ay d.show_ nd).take (i+1))=cK values ((ay d.show_ nd).take i)++[tm values ((ay d.show_ nd)[i] - 1)]:=by
    unfold cK;rw[List.take_succ_eq_append_getElem hi,List.map_append];rfl
   have e2:litL values ((ay d.show_ nd).take (i+1))=litL values ((ay d.show_ nd).take i)++[(ay d.show_ nd)[i]*tm values ((ay d.show_ nd)[i] - 1)]:=by
    unfold litL;rw[List.take_succ_eq_append_getElem hi,List.map_append];rfl
   rw[e1,e2];rfl
  ·unfold gz
   try simp only
   rw[if_neg (by omega),List.take_length]
 simp only[Int.natCast_zero,List.take_zero]at key
 rw[show cK values []=[] from rfl,show litL values []=[] from rfl]at key
 rw[key]
 simp only
 obtain⟨s1,s2⟩:=vY hp hps
 have hnow:=hR.now
 have hhor:=hR.right.hor
 have hln:=hM.len
 have h7:=hM.right.nodes
 rw[ah (by omega),ah (by omega),ah (by omega),ah (by omega),ah (by omega),ah (by omega),(mI (decX (endX d.show_ d.state ties) nd) (ay d.show_ nd) (cK values (ay d.show_ nd)) (by show 0≤d.state.now∧d.state.now≤1000;omega) (by show(bf _ _ _ _).length≤_;rw[cu];omega) hv3 hps s1 (by omega)).2]
 rfl
theorem Jd (d:GDesk)(y:GState)(without:Int)(hf:FitD d)(hM:MomR d.show_ y):jV d y without=some (match na d.lazy (decL d.show_ y) (fun nd=>!decide (without∈nd)&&bK (win d.show_) d.show_ y nd) with|some nd=>(nd,true)|none=>([],false)):=by
 have hs:=hf.sh.small
 have hl:=rA hM.right y
 unfold jV
 rw[vg hs hM]
 simp only[obnd]
 have hlen:∀ {nd},nd∈decL d.show_ y→nd.length≤7:=fun h=>(dc hM.right h).2.1
 have e0:na d.lazy (decL d.show_ y) (fun nd=>!decide (without∈nd)&&bK (win d.show_) d.show_ y nd)=(if d.lazy=true then (decL d.show_ y).reverse else decL d.show_ y).find? (fun nd=>!decide (without∈nd)&&bK (win d.show_) d.show_ y nd):=by
  unfold na;split <;> rfl
 rw[e0]
 generalize hpd:(fun nd=>!decide (without∈nd)&&bK (win d.show_) d.show_ y nd)=p
 have hp0:∀ nd,p nd=(!decide (without∈nd)&&bK (win d.show_) d.show_ y nd):=fun nd=>by rw[← hpd]
 clear hpd
 generalize hL:(if d.lazy=true then (decL d.show_ y).reverse else decL d.show_ y)=L
 have hel:L.length=(decL d.show_ y).length:=by rw[← hL];split <;> simp
 have g1:d.lazy=false→∀ i (hi:i<L.length),L[i]=(decL d.show_ y)[i]'(by omega):=by
  intro hz i hi
  subst hL
  simp[hz]
 have g2:d.lazy=true→∀ i (hi:i<L.length),L[i]=(decL d.show_ y)[(decL d.show_ y).length - 1 - i]'(by omega):=by
  intro hz i hi
  subst hL
  simp[hz]
 clear hL
 have step:∀ i (hi:i<L.length),eh without (((decL d.show_ y).length:Nat):Int) d.show_.nodes d.show_.ties d.show_.horizon d.state.now d.state.times d.state.values d.lazy d.log y.now y.times y.values (decL d.show_ y) (i:Int)=(if p L[i]=true then some (.done (.inr (L[i],true))) else some (.next ((i:Int)+1))):=by
  intro i hi
  rw[hel]at hi
  unfold eh
  try simp only
  rw[if_pos (by omega),an hi]
  simp only[obnd]
  rw[wr (x:=(i:Int)+1) (by omega) (by omega)]
  cases hz:d.lazy
  ·simp only[Bool.false_eq_true,if_false]
   rw[g1 hz i (by omega),hp0]
   have hmem:=List.getElem_mem hi
   have h7:=hlen hmem
   rw[nM _ _ (by unfold Cnt;omega)]
   simp only
   by_cases hw:without∈(decL d.show_ y)[i]
   ·rw[decide_eq_true hw];rfl
   ·rw[decide_eq_false hw]
    simp only[Bool.false_eq_true,if_false,Bool.not_false,Bool.true_and]
    rw[show(GShow.mk d.show_.nodes d.show_.ties d.show_.horizon)=d.show_ from rfl,show(GState.mk y.now y.times y.values)=y from rfl,Dm hs hM hmem]
    simp only
    rw[ah (by omega),ah (by omega)]
  ·simp only[if_true]
   have hj:(decL d.show_ y).length - 1 - i<(decL d.show_ y).length:=by omega
   rw[wr (x:=(((decL d.show_ y).length:Nat):Int) - 1) (by omega) (by omega),wr (by omega) (by omega),show(((decL d.show_ y).length:Nat):Int) - 1 - (i:Int)=(((decL d.show_ y).length - 1 - i:Nat):Int) by omega,an hj]
   simp only
   rw[g2 hz i (by omega),hp0]
   have hmem:=List.getElem_mem hj
   have h7:=hlen hmem
   rw[nM _ _ (by unfold Cnt;omega)]
   simp only
   by_cases hw:without∈(decL d.show_ y)[(decL d.show_ y).length - 1 - i]
   ·rw[decide_eq_true hw];rfl
   ·rw[decide_eq_false hw]
    simp only[Bool.false_eq_true,if_false,Bool.not_false,Bool.true_and]
    rw[show(GShow.mk d.show_.nodes d.show_.ties d.show_.horizon)=d.show_ from rfl,show(GState.mk y.now y.times y.values)=y from rfl,Dm hs hM hmem]
    simp only
    rw[ah (by omega),ah (by omega)]
 have key:=bo (body:=eh without (((decL d.show_ y).length:Nat):Int) d.show_.nodes d.show_.ties d.show_.horizon d.state.now d.state.times d.state.values d.lazy d.log y.now y.times y.values (decL d.show_ y)) (s0:=(0:Int)) L.length
  (fun (i:Nat) (st:Int)=>st=(i:Int)∧∀ j (hj:j<L.length),j<i→p L[j]=false)
  (fun r=>r=(match L.find? p with|some nd=>.inr (nd,true)|none=>.inl ())) ⟨rfl,fun j _ h=>absurd h (by omega)⟩ ?_ ?_
 ·obtain⟨r,hr,hp1⟩:=key
  rw[hr,hp1]
  cases L.find? p <;> rfl
 ·rintro i a hi ⟨rfl,hall⟩
  rw[step i hi]
  cases hq:p L[i]
  ·left
   refine⟨_,if_neg (by simp),rfl,fun j hj hlt=>?_⟩
   rcases Nat.lt_or_ge j i with h|h
   ·exact hall j hj h
   ·obtain rfl:j=i:=by omega
    exact hq
  ·right
   refine⟨_,if_pos rfl,?_⟩
   have:L.find? p=some L[i]:=by
    rw[List.find?_eq_some_iff_getElem]
    exact⟨hq,i,hi,rfl,fun j hj=>by have h:=hall j (by omega) hj;show(!_)=true;rw[h];rfl⟩
   rw[this]
 ·rintro a ⟨rfl,hall⟩
  refine⟨.inl (),?_,?_⟩
  ·unfold eh
   try simp only
   rw[if_neg (by rw[hel];omega)]
  ·have:L.find? p=none:=by
    rw[List.find?_eq_none]
    intro x hx
    obtain⟨j,hj,rfl⟩:=List.getElem_of_mem hx
    have h:=hall j hj hj
    rw[h];simp
   rw[this]
theorem Ks {lazy:Bool}{l:List (List Int)}{p q:List Int→Bool}(h:∀ nd,nd∈l→p nd=q nd):na lazy l p=na lazy l q:=by
 have key:∀ l:List (List Int),(∀ nd,nd∈l→p nd=q nd)→l.find? p=l.find? q:=by
  intro l
  induction l with
  | nil=>intro _;rfl
  | cons a l ih=>
   intro h
   simp only[List.find?_cons]
   rw[h a (by simp),ih (fun nd hn=>h nd (by simp[hn]))]
 unfold na
 rw[key l h,key l.reverse (fun nd hn=>h nd (by simpa using hn))]
theorem Gn (d:GDesk)(ties values:List Int)(hf:FitD d)(ht:ties.length≤1048576)(hv:values.length≤1048576):kL d ties values=some (mm d ties values 5 (sO d ties)):=by
 unfold kL mm
 rw[Kr d ties values hf ht hv]
 simp only[obnd]
 by_cases h0:bn d ties values=0
 ·obtain⟨g1,_,g3,_⟩:=nH h0
  have hM:=lT (jz g1) g3
  rw[if_pos h0,if_pos h0]
  simp only[if_true]
  rw[Jd d _ _ hf hM]
  have hc:na d.lazy (decL d.show_ (endX d.show_ d.state ties)) (fun nd=>!decide ((-1:Int)∈nd)&&bK (win d.show_) d.show_ (endX d.show_ d.state ties) nd)=sO d ties:=by
   refine Ks ?_
   intro nd hnd
   have:¬ (-1:Int)∈nd:=by
    intro hm
    obtain⟨i,_,e,_⟩:=mZ ((dc hM.right hnd).2.2 _ hm)
    omega
   rw[decide_eq_false this];rfl
  rw[hc]
  cases hpk:sO d ties with
  | none=>
   simp only[Bool.false_eq_true,if_false]
   rw[vX d hf]
  | some nd=>
   simp only[if_true]
   rw[Jc d ties values nd hf ht h0 (nI hpk).1]
 ·rw[if_neg h0,if_neg h0]
  simp only
  rw[if_neg h0,vX d hf]
theorem FR (d:GDesk)(ties values:List Int)(refused:Int)(c:Option (List Int))(hf:FitD d)(ht:ties.length≤1048576)(hc:bn d ties values=0→∀ nd,c=some nd→nd∈decL d.show_ (endX d.show_ d.state ties)) :
  FitD (mm d ties values refused c).1∧(mm d ties values refused c).2.1.length≤7:=by
 unfold mm
 by_cases h0:bn d ties values=0
 ·rw[if_pos h0]
  cases c with
  | none=>exact⟨hf,by simp⟩
  | some nd=>
   obtain⟨g1,hp,g3,_⟩:=nH h0
   have hx:=jz g1
   have hR:=bl hx
   have hM:=lT hx g3
   have hnd:=hc h0 nd rfl
   obtain⟨n1,n2,n3⟩:=dc hM.right hnd
   have hlog:(d.log.length:Int)=d.state.now:=by
    unfold bP at g1
    simp only[Bool.and_eq_true,decide_eq_true_eq]at g1
    exact g1.1.1.2
   have hnow:=hR.now
   have hhor:=hR.right.hor
   have hln:=hM.len
   have h7:=hM.right.nodes
   have hv3:=(aV hR.val).1
   have hpl:=nG d.show_ nd
   refine⟨⟨hf.sh,⟨?_,?_⟩,?_,?_⟩,n2⟩
   ·show(bf _ _ _ _).length≤_
    rw[cu];omega
   ·show(setV _ _ _ _).length≤_
    rw[pq]
    show d.state.values.length≤_
    omega
   ·show(d.log++[_]).length≤_
    rw[List.length_append];simp;omega
   ·intro e he
    have he':e∈d.log++[⟨d.state.now,ties,nd,litL values (ay d.show_ nd)⟩]:=he
    rw[List.mem_append,List.mem_singleton]at he'
    rcases he' with he'|rfl
    ·exact hf.entry e he'
    ·exact⟨ht,by show nd.length≤_;omega,by show(litL _ _).length≤_;unfold litL;rw[List.length_map];omega⟩
 ·rw[if_neg h0]
  exact⟨hf,by simp⟩
end Go.Proofs.Qe
set_option maxRecDepth 100000
namespace Go.Proofs.Qe
open Go
end Go.Proofs.Qe
set_option maxRecDepth 100000
set_option maxHeartbeats 1000000
namespace Go.Proofs.Qe
open Go
noncomputable def bL (c:GChoice)(d:GDesk):GDesk × List Int × Int:=mm d (endL d.show_ d.state c) c.values 5 (sO d (endL d.show_ d.state c))
noncomputable def runF (c:GChoice):Nat→GDesk→GDesk × Int
 | 0,d=>(d,0)
 | n+1,d=>if (bL c d).2.2=0 then runF c n (bL c d).1 else (d,(bL c d).2.2)
noncomputable def runR (d:GDesk)(c:GChoice):GDesk × Int:=if bP d=true then (if iU d.show_ c=true then runF c 13 d else (d,1)) else (d,1)
def tupD (d:GDesk):Int × Int × Bool × (List GNode) × (List GTie) × (List Int) × (List Int) × (List GEntry):=(d.show_.horizon,d.state.now,d.lazy,d.show_.nodes,d.show_.ties,d.state.times,d.state.values,d.log)
theorem Gp {s:GShow}{c:GChoice}(h:iU s c=true):c.values.length=3:=by
 unfold iU at h
 simp only[Bool.and_eq_true,decide_eq_true_eq]at h
 exact h.1.1.2
theorem Mv {d:GDesk}{ties values:List Int}{c:Option (List Int)}(h:(mm d ties values 5 c).2.2=0):bn d ties values=0∧∃ nd,c=some nd∧mm d ties values 5 c=(finD d ties values nd,nd,0):=by
 unfold mm at h ⊢
 by_cases h0:bn d ties values=0
 ·rw[if_pos h0]at h ⊢
  cases c with
  | none=>exact absurd h (by simp)
  | some nd=>exact⟨h0,nd,rfl,rfl⟩
 ·rw[if_neg h0]at h
  exact absurd h h0
theorem NS {d:GDesk}{ties values nd:List Int}(h0:bn d ties values=0)(hn:nd∈decL d.show_ (endX d.show_ d.state ties)):aB d.show_ (finD d ties values nd).state=true:=by
 obtain⟨g1,hp,g3,_⟩:=nH h0
 have hM:=lT (jz g1) g3
 obtain⟨_,_,hm⟩:=dc hM.right hn
 obtain⟨s1,s2⟩:=vY (values:=values) (ps:=ay d.show_ nd) hp (fun p h=>⟨(bC h).1,(bC h).2.1⟩)
 exact vi hM hm s1 s2
theorem Je {c:GChoice}{d:GDesk}(hf:FitD d)(h:(bL c d).2.2=0) :
  FitD (bL c d).1∧(bL c d).1.show_=d.show_∧aB d.show_ (bL c d).1.state=true∧(bL c d).1.state.now=d.state.now+1:=by
 unfold bL at h ⊢
 obtain⟨h0,nd,hc,he⟩:=Mv h
 have hl:=IG d.show_ d.state c hf.sh.ties
 have hnd:nd∈decL d.show_ (endX d.show_ d.state (endL d.show_ d.state c)):=(nI hc).1
 have hfit:=(FR d (endL d.show_ d.state c) c.values 5 (sO d (endL d.show_ d.state c)) hf hl (fun _ nd h=>(nI h).1)).1
 rw[he]at hfit ⊢
 exact⟨hfit,rfl,NS h0 hnd,rfl⟩
theorem QZ (c:GChoice)(body:(Int × Int × Bool × (List GNode) × (List GTie) × (List Int) × (List Int) × (List GEntry))→Option (Step (Int × Int × Bool × (List GNode) × (List GTie) × (List Int) × (List Int) × (List GEntry)) (GDesk × Int)))
  (hb:∀ d,FitD d→aB d.show_ d.state=true→iU d.show_ c=true→body (tupD d)=some (if (bL c d).2.2=0 then .next (tupD (bL c d).1) else .done (d,(bL c d).2.2))) :
  ∀ (n:Nat) (d:GDesk),FitD d→aB d.show_ d.state=true→iU d.show_ c=true→12<(n:Int)+d.state.now→ak body (tupD d)=some (runF c n d):=by
 intro n
 induction n with
 | zero=>
  intro d hf hx hc h
  have:=(bl hx).now
  have:=(bl hx).right.hor
  omega
 | succ n ih=>
  intro d hf hx hc h
  rw[aZ,hb d hf hx hc]
  show _=some (if (bL c d).2.2=0 then runF c n (bL c d).1 else (d,(bL c d).2.2))
  by_cases h0:(bL c d).2.2=0
  ·obtain⟨f1,f2,f3,f4⟩:=Je hf h0
   rw[if_pos h0,if_pos h0]
   exact ih _ f1 (by rw[f2];exact f3) (by rw[f2];exact hc) (by rw[f4];omega)
  ·rw[if_neg h0,if_neg h0]
theorem Jf (d:GDesk)(c:GChoice)(hf:FitD d):jI d c=some (runR d c):=by
 unfold jI runR
 rw[AG d hf]
 simp only[obnd]
 rw[uC d hf]
 simp only
 cases hD:bP d
 ·rw[if_neg (by simp),if_neg (by simp)]
 ·have hx:=jz hD
  rw[if_pos rfl,if_pos rfl,Az d.show_ c hf.sh.small (bl hx).right hf.sh.ties]
  simp only
  cases hC:iU d.show_ c
  ·rw[if_neg (by simp),if_neg (by simp)]
  ·rw[if_pos rfl,if_pos rfl]
   have hn:=(bl hx).now
   have key:=QZ c (ly c.lengths c.values) (by
    intro d hf hx hc
    have hl:=IG d.show_ d.state c hf.sh.ties
    have hv:=Gp hc
    unfold ly tupD
    simp only
    rw[show(GShow.mk d.show_.nodes d.show_.ties d.show_.horizon)=d.show_ from rfl,show(GState.mk d.state.now d.state.times d.state.values)=d.state from rfl,show(GChoice.mk c.lengths c.values)=c from rfl,show(GDesk.mk d.show_ d.state d.lazy d.log)=d from rfl]
    rw[EA d.show_ d.state c hf.sh hf.st]
    simp only[obnd]
    rw[Gm d _ c.values hf hl (by omega)]
    simp only
    show(if (bL c d).2.2=0 then _ else _)=_
    by_cases h0:(bL c d).2.2=0
    ·rw[if_pos h0,if_pos h0];rfl
    ·rw[if_neg h0,if_neg h0];rfl) 13 d hf hx hC (by omega)
   unfold tupD at key
   rw[key]
theorem Jg (c:GChoice):∀ (n:Nat) (d:GDesk),FitD d→FitD (runF c n d).1∧(runF c n d).1.show_=d.show_
 | 0,d,hf=>⟨hf,rfl⟩
 | n+1,d,hf=>by
  show FitD (if (bL c d).2.2=0 then runF c n (bL c d).1 else (d,(bL c d).2.2)).1∧(if (bL c d).2.2=0 then runF c n (bL c d).1 else (d,(bL c d).2.2)).1.show_=d.show_
  by_cases h0:(bL c d).2.2=0
  ·obtain⟨f1,f2,f3,f4⟩:=Je hf h0
   rw[if_pos h0]
   obtain⟨g1,g2⟩:=Jg c n _ f1
   exact⟨g1,by rw[g2,f2]⟩
  ·rw[if_neg h0]
   exact⟨hf,rfl⟩
theorem Ps (d:GDesk)(c:GChoice)(hf:FitD d):FitD (runR d c).1∧(runR d c).1.show_=d.show_:=by
 unfold runR
 split
 ·split
  ·exact Jg c 13 d hf
  ·exact⟨hf,rfl⟩
 ·exact⟨hf,rfl⟩
end Go.Proofs.Qe
set_option maxRecDepth 100000
set_option maxHeartbeats 1000000
namespace Go.Proofs.Qe
open Go
end Go.Proofs.Qe
set_option maxRecDepth 100000
set_option maxHeartbeats 1000000
namespace Go.Proofs.Qe
open Go
theorem lit1 {p v:Int}(h1:1≤p)(h2:p≤3)(hv:v=1∨v=-1):pr (p*v)=p∧sgn (p*v)=v∧p*v≠0∧-3≤p*v∧p*v≤3:=by
 have:p=1∨p=2∨p=3:=by omega
 rcases this with rfl|rfl|rfl <;> rcases hv with rfl|rfl <;> decide
theorem Do {values ps:List Int}(hv:pmB values=true)(hp:∀ p,p∈ps→1≤p∧p≤3){p:Int}(h:p∈ps):pr (p*tm values (p - 1))=p∧sgn (p*tm values (p - 1))=tm values (p - 1)∧p*tm values (p - 1)≠0∧-3≤p*tm values (p - 1)∧p*tm values (p - 1)≤3:=by
 have h1:=hp p h
 exact lit1 h1.1 h1.2 (HI hv (by omega) (by omega))
theorem UY {values ps:List Int}(hv:pmB values=true)(hp:∀ p,p∈ps→1≤p∧p≤3):(litL values ps).map pr=ps:=by
 unfold litL
 rw[List.map_map]
 conv=>rhs;rw[← List.map_id ps]
 exact List.map_congr_left (fun p h=>(Do hv hp h).1)
theorem Ra {values ps:List Int}(hv:pmB values=true)(hp:∀ p,p∈ps→1≤p∧p≤3):(litL values ps).map sgn=cK values ps:=by
 unfold litL cK
 rw[List.map_map]
 exact List.map_congr_left (fun p h=>(Do hv hp h).2.1)
theorem NT {values ps:List Int}(hv:pmB values=true)(hp:∀ p,p∈ps→1≤p∧p≤3)(ha:Asc ps):bF (litL values ps)=true:=by
 have hlen:(litL values ps).length=ps.length:=List.length_map _
 have hget:∀ i,i<ps.length→(litL values ps).getD i 0=ps.getD i 0*tm values (ps.getD i 0 - 1):=by
  intro i hi
  unfold litL
  simp[hi]
 have hmem:∀ i,i<ps.length→ps.getD i 0∈ps:=by
  intro i hi
  rw[show ps.getD i 0=ps[i] by simp[hi]]
  exact List.getElem_mem hi
 unfold bF
 refine decide_eq_true ?_
 intro i hi
 rw[hlen]at hi
 unfold labP
 refine decide_eq_true ?_
 rw[hget i hi]
 obtain⟨a1,a2,a3,a4,a5⟩:=Do hv hp (hmem i hi)
 refine⟨a3,a4,a5,?_⟩
 intro h0
 rw[hget (i - 1) (by omega),a1,(Do hv hp (hmem (i - 1) (by omega))).1]
 exact AX ha hi h0
theorem AH {s:GShow}(e:GEntry):∀ (log:List GEntry) (x:GState),(aP s x log).2=true→(bO s (aP s x log).1 e).2=true→aP s x (log++[e])=((bO s (aP s x log).1 e).1,true)
 | [],x,_,h=>by
  show(if (bO s x e).2=true then aP s (bO s x e).1 [] else (jK,false))=_
  have h':(bO s x e).2=true:=h
  rw[if_pos h'];rfl
 | f::r,x,h,g=>by
  have hc:∀ l,aP s x (f::l)=if (bO s x f).2=true then aP s (bO s x f).1 l else (jK,false):=fun _=>rfl
  rw[hc]at h g
  rw[List.cons_append,hc,hc]
  by_cases he:(bO s x f).2=true
  ·rw[if_pos he]at h g
   rw[if_pos he,if_pos he]
   exact AH e r _ h g
  ·rw[if_neg he]at h;cases h
theorem Pt {d:GDesk}{ties values nd:List Int}(h0:bn d ties values=0)(hn:nd∈decL d.show_ (endX d.show_ d.state ties)):bP (finD d ties values nd)=true:=by
 obtain⟨g1,hp,g3,_⟩:=nH h0
 have hps:∀ p,p∈ay d.show_ nd→1≤p∧p≤3:=fun p h=>⟨(bC h).1,(bC h).2.1⟩
 have hst:=NS (values:=values) h0 hn
 have hg:=g1
 unfold bP at hg
 simp only[Bool.and_eq_true,decide_eq_true_eq]at hg
 obtain⟨⟨⟨e1,e2⟩,e3⟩,e4⟩:=hg
 have hstep:bO d.show_ d.state ⟨d.state.now,ties,nd,litL values (ay d.show_ nd)⟩=((finD d ties values nd).state,true):=by
  unfold bO
  rw[if_pos ⟨rfl,g3,NT hp hps (uq _ _),hn,UY hp hps⟩]
  simp only
  rw[Ra hp hps]
  rfl
 have hrep:bp d.show_ (d.log++[⟨d.state.now,ties,nd,litL values (ay d.show_ nd)⟩])=((finD d ties values nd).state,true):=by
  unfold bp at e3 e4 ⊢
  by_cases hA:aI d.show_=true
  ·rw[if_pos hA]at e3 e4 ⊢
   rw[AH _ d.log _ e3 (by rw[e4,hstep]),e4,hstep]
  ·rw[if_neg hA]at e3;cases e3
 unfold bP
 simp only[Bool.and_eq_true,decide_eq_true_eq]
 refine⟨⟨⟨hst,?_⟩,?_⟩,?_⟩
 ·show(((d.log++[_]).length:Nat):Int)=d.state.now+1
  rw[List.length_append]
  simp only[List.length_cons,List.length_nil]
  omega
 ·show(bp d.show_ (d.log++[_])).2=true
  rw[hrep]
 ·show(bp d.show_ (d.log++[_])).1=_
  rw[hrep]
theorem FS {d:GDesk}{ties values:List Int}{refused:Int}{c:Option (List Int)}(hd:bP d=true)(hc:∀ nd,c=some nd→nd∈decL d.show_ (endX d.show_ d.state ties)):bP (mm d ties values refused c).1=true:=by
 unfold mm
 by_cases h0:bn d ties values=0
 ·rw[if_pos h0]
  cases c with
  | none=>exact hd
  | some nd=>exact Pt h0 (hc nd rfl)
 ·rw[if_neg h0];exact hd
theorem FT (c:GChoice):∀ (n:Nat) (d:GDesk),bP d=true→bP (runF c n d).1=true
 | 0,d,h=>h
 | n+1,d,h=>by
  show bP (if (bL c d).2.2=0 then runF c n (bL c d).1 else (d,(bL c d).2.2)).1=true
  split
  ·refine FT c n _ ?_
   unfold bL
   exact FS h (fun nd hn=>(nI hn).1)
  ·exact h
theorem NU {d:GDesk}(c:GChoice)(h:bP d=true):bP (runR d c).1=true:=by
 unfold runR
 rw[if_pos h]
 split
 ·exact FT c 13 d h
 ·exact h
theorem Pu {s:GShow}(z:Bool)(h:aI s=true):bP (vP s z).1=true:=by
 unfold vP
 rw[if_pos h]
 unfold bP
 simp only[Bool.and_eq_true,decide_eq_true_eq]
 refine⟨⟨⟨tN h,rfl⟩,?_⟩,?_⟩
 ·unfold bp;rw[if_pos h];rfl
 ·unfold bp;rw[if_pos h];rfl
end Go.Proofs.Qe
set_option maxRecDepth 100000
set_option maxHeartbeats 1000000
namespace Go.Proofs.Qe
open Go
theorem FU {ns:List GNode}{ts:List GTie}{z:Int}(hA:fN ⟨ns,[],0⟩=true)(hW:fO ⟨ns,[],0⟩=true)(ht:∀ i (hi:i<ts.length),tieB ⟨ns,ts,z⟩ ts[i]=true∧mJ ⟨ns,ts,z⟩ i ts[i]=true)(h14:ts.length≤14)(hz:1≤z∧z≤10):aI ⟨ns,ts,z⟩=true:=by
 unfold aI
 simp only[Bool.and_eq_true,decide_eq_true_eq]
 refine⟨⟨⟨⟨hA,?_⟩,h14⟩,hz⟩,hW⟩
 intro i hi
 rw[sZ hi,Bool.and_eq_true]
 exact ht i hi
def brN:List GNode:=[(GNode.mk (ByteArray.mk #[103,111]) ([]) 0),(GNode.mk (ByteArray.mk #[97]) ([]) 1),(GNode.mk (ByteArray.mk #[98]) ([1]) 0),(GNode.mk (ByteArray.mk #[99]) ([(-1)]) 0)]
def brM:List GNode:=brN++([(GNode.mk (ByteArray.mk #[100]) ([1]) 0)])
theorem WI:fN ⟨brN,[],0⟩=true:=by decide +kernel
theorem WJ:fN ⟨brM,[],0⟩=true:=by decide +kernel
theorem WK:fO ⟨brN,[],0⟩=true:=by decide +kernel
theorem WL:fO ⟨brM,[],0⟩=true:=by decide +kernel
structure BrT (t:GTie):Prop where
 f0:0≤t.from_
 f1:t.from_<4
 t0:0≤t.to
 t1:t.to<4
 ne:t.from_≠t.to
 lo:-20≤t.low
 hi:t.high≤20
 lh:t.low≤t.high
 fr:t.free=false
theorem BrT.b {t:GTie}(h:BrT t){ns:List GNode}{ts:List GTie}{z:Int}(hn:4≤ns.length):tieB ⟨ns,ts,z⟩ t=true:=by
 have h1:=h.f1
 have h2:=h.t1
 unfold tieB
 rw[decide_eq_true_eq]
 exact⟨⟨h.f0,by show t.from_<(ns.length:Int);omega⟩,⟨h.t0,by show t.to<(ns.length:Int);omega⟩,h.ne,h.lo,h.hi,h.lh⟩
theorem BrT.f {t:GTie}(h:BrT t){s:GShow}{i:Nat}:mJ s i t=true:=by
 unfold mJ
 rw[h.fr];rfl
theorem Jh {c:GL01Cur}(hc:Cur c):∃ r,kd c=some r∧aI r.1=true∧FitS r.1∧Cur r.2:=by
 unfold kd
 obtain⟨r1,e,a0,a1,hc⟩:=aY hc 3 (by omega)
 have a1:=a1 (by omega)
 rw[e];simp only[obnd]
 obtain⟨r2,e,b0,b1,hc⟩:=aY hc 2 (by omega)
 have b1:=b1 (by omega)
 rw[e];simp only
 obtain⟨r3,e,d0,d1,hc⟩:=aY hc 3 (by omega)
 have d1:=d1 (by omega)
 rw[e];simp only
 rw[wr (x:=4+r1.1) (by omega) (by omega),wr (x:=r2.1+r3.1) (by omega) (by omega)]
 have key:∃ q,ak (gF (4+r1.1) brN) (2,[(GTie.mk 0 1 r2.1 (r2.1+r3.1) false)],r3.2.b,r3.2.i,r3.2.h)=some q∧(∀ t,t∈q.1→BrT t)∧q.1.length≤3∧Cur ⟨q.2.1,q.2.2.1,q.2.2.2⟩:=by
  refine bo 2 (fun i st=>st.1=2+(i:Int)∧(∀ t,t∈st.2.1→BrT t)∧st.2.1.length≤1+i∧Cur ⟨st.2.2.1,st.2.2.2.1,st.2.2.2.2⟩) _ ?_ ?_ ?_
  ·refine⟨by simp,?_,by simp,hc⟩
   intro t ht
   rw[List.mem_singleton]at ht
   subst ht
   exact⟨by simp only;omega,by simp only;omega,by simp only;omega,by simp only;omega,by simp only;omega,by simp only;omega,by simp only;omega,by simp only;omega,rfl⟩
  ·rintro i ⟨k,ts,b,j,d⟩ hi ⟨hk,hp,hl,hcu⟩
   simp only at hk hp hl hcu
   subst hk
   unfold gF
   simp only
   rw[if_pos (by omega)]
   obtain⟨r7,e,f0,f1,hcu⟩:=aY hcu 3 (by omega)
   have f1:=f1 (by omega)
   rw[e];simp only[obnd]
   obtain⟨r8,e,g0,g1,hcu⟩:=aY hcu 2 (by omega)
   have g1:=g1 (by omega)
   rw[e];simp only
   obtain⟨r9,e,k0,k1,hcu⟩:=aY hcu 3 (by omega)
   have k1:=k1 (by omega)
   rw[e];simp only
   rw[ah (by omega),ah (by omega),wr (x:=2+(i:Int)+1) (by omega) (by omega),wr (x:=r7.1+1) (by omega) (by omega),wr (x:=r7.1+1+r9.1) (by omega) (by omega)]
   refine .inl ⟨_,rfl,?_,?_,?_,hcu⟩
   ·simp only;omega
   ·intro t ht
    rw[List.mem_append,List.mem_singleton]at ht
    rcases ht with ht|rfl
    ·exact hp t ht
    ·exact⟨by simp only;omega,by simp only;omega,by simp only;omega,by simp only;omega,by simp only;omega,by simp only;omega,by simp only;omega,by simp only;omega,rfl⟩
   ·simp only[List.length_append,List.length_singleton];omega
  ·rintro⟨k,ts,b,j,d⟩ ⟨hk,hp,hl,hcu⟩
   simp only at hk hp hl hcu
   subst hk
   unfold gF
   simp only
   rw[if_neg (by omega)]
   exact⟨_,rfl,hp,by simp only;omega,hcu⟩
 obtain⟨q,e,hp,hl,hcu⟩:=key
 unfold brN at e
 rw[e];simp only
 obtain⟨r11,e,hcu⟩:=qO hcu 2 (by omega)
 rw[e];simp only
 by_cases h1:r11.1=true
 ·rw[if_pos h1]
  obtain⟨r12,e,g0,g1,hcu⟩:=aY hcu 2 (by omega)
  have g1:=g1 (by omega)
  rw[e];simp only
  rw[ah (by decide),ah (by decide)]
  obtain⟨r13,e,k0,k1,hcu⟩:=aY hcu 2 (by omega)
  have k1:=k1 (by omega)
  rw[e];simp only
  rw[ah (by omega),ah (by omega),wr (x:=1+r12.1) (by omega) (by omega),wr (x:=1+r12.1+r13.1) (by omega) (by omega)]
  refine⟨_,rfl,?_,?_,hcu⟩
  ·refine FU (ns:=brM) WJ WL ?_ (by simp only[List.length_append,List.length_singleton];omega) (by omega)
   intro i hi
   rw[List.length_append,List.length_singleton]at hi
   by_cases hi':i<q.1.length
   ·rw[List.getElem_append_left hi']
    have h:=hp _ (List.getElem_mem hi')
    exact⟨h.b (by decide),h.f⟩
   ·have hie:i=q.1.length:=by omega
    subst hie
    rw[List.getElem_append_right (Nat.le_refl _)]
    simp only[Nat.sub_self,List.getElem_cons_zero]
    constructor
    ·unfold tieB
     rw[decide_eq_true_eq]
     refine⟨⟨by simp only;omega,(by decide:(2:Int)<((brM.length:Nat):Int))⟩,⟨by simp only;omega,(by decide:(4:Int)<((brM.length:Nat):Int))⟩,by simp only;omega,by simp only;omega,by simp only;omega,by simp only;omega⟩
    ·unfold mJ
     simp only[Bool.not_true,Bool.false_or,Bool.and_eq_true,decide_eq_true_eq]
     refine⟨⟨by omega,by decide⟩,?_⟩
     rw[Bool.not_eq_true',List.any_eq_false]
     intro u hu hx
     rw[List.take_append_of_le_length (Nat.le_refl _),List.take_length]at hu
     rw[(hp u hu).fr]at hx
     simp at hx
  ·refine⟨(by decide:brM.length≤1048576),by simp only[List.length_append,List.length_singleton];omega,?_⟩
   intro n hn
   have:∀ n,n∈brM→FitN n:=by
    intro n hn
    unfold brM brN at hn
    simp only[List.mem_append,List.mem_cons,List.not_mem_nil,or_false]at hn
    rcases hn with (rfl|rfl|rfl|rfl)|rfl <;> exact⟨by decide,by decide⟩
   exact this n hn
 ·rw[if_neg h1]
  refine⟨_,rfl,?_,?_,hcu⟩
  ·refine FU (ns:=brN) WI WK ?_ (by omega) (by omega)
   intro i hi
   have h:=hp _ (List.getElem_mem hi)
   exact⟨h.b (by decide),h.f⟩
  ·refine⟨(by decide:brN.length≤1048576),by show q.1.length≤_;omega,?_⟩
   intro n hn
   have:∀ n,n∈brN→FitN n:=by
    intro n hn
    unfold brN at hn
    simp only[List.mem_cons,List.not_mem_nil,or_false]at hn
    rcases hn with rfl|rfl|rfl|rfl <;> exact⟨by decide,by decide⟩
   exact this n hn
theorem Mw {c:GL01Cur}(hc:Cur c):∃ r,lQ c=some r∧aI r.1=true∧FitS r.1∧Cur r.2:=by
 unfold lQ
 obtain⟨r1,e,hc⟩:=qO hc 3 (by omega)
 rw[e];simp only[obnd]
 by_cases h1:r1.1=true
 ·rw[if_pos h1]
  obtain⟨r,e,h1,h2,h3⟩:=Jh hc
  rw[e]
  exact⟨_,rfl,h1,h2,h3⟩
 ·rw[if_neg h1]
  obtain⟨r,e,h1,h2,h3⟩:=Kh hc
  rw[e]
  exact⟨_,rfl,h1,h2,h3⟩
end Go.Proofs.Qe
set_option maxRecDepth 100000
set_option maxHeartbeats 1000000
namespace Go.Proofs.Qe
open Go
theorem Ji {c:GL01Cur}(hc:Cur c):∃ r,ke c=some r∧r.1.length≤1048576∧Cur r.2:=by
 unfold ke
 have key:∃ q,ak (gG) (0,[],c.b,c.i,c.h)=some q∧q.1.length=3∧Cur ⟨q.2.1,q.2.2.1,q.2.2.2⟩:=by
  refine bo 3 (fun i st=>st.1=(i:Int)∧st.2.1.length=i∧Cur ⟨st.2.2.1,st.2.2.2.1,st.2.2.2.2⟩) _ ⟨rfl,rfl,hc⟩ ?_ ?_
  ·rintro i ⟨p,v,b,j,d⟩ hi ⟨hk,hl,hcu⟩
   simp only at hk hl hcu
   subst hk
   unfold gG
   simp only
   rw[if_pos (by omega)]
   obtain⟨r2,e,f0,f1,hcu⟩:=aY hcu 2 (by omega)
   have f1:=f1 (by omega)
   rw[e];simp only[obnd]
   rw[ah (by omega),ah (by omega),wr (x:=(i:Int)+1) (by omega) (by omega)]
   refine .inl ⟨_,rfl,?_,?_,hcu⟩
   ·simp only;omega
   ·simp only[List.length_append,List.length_singleton];omega
  ·rintro⟨p,v,b,j,d⟩ ⟨hk,hl,hcu⟩
   simp only at hk hl hcu
   subst hk
   unfold gG
   simp only
   rw[if_neg (by omega)]
   exact⟨_,rfl,hl,hcu⟩
 obtain⟨q,e,hl,hcu⟩:=key
 rw[e];simp only[obnd]
 obtain⟨r4,e,hcu⟩:=qO hcu 20 (by omega)
 rw[e];simp only
 by_cases h:r4.1=true
 ·rw[if_pos h,show(0:Int)=((0:Nat):Int) from rfl,an (by omega)]
  exact⟨_,rfl,by simp only[List.length_set];omega,hcu⟩
 ·rw[if_neg h]
  exact⟨_,rfl,by simp only;omega,hcu⟩
theorem Kt (code:List Int)(h:code.length≤1048576):∃ d,kT code=some d∧bP d=true∧FitD d:=by
 unfold kT
 obtain⟨c,e,hc⟩:=FH code h
 rw[e];simp only[obnd]
 unfold nX
 obtain⟨r1,e,s1,s2,hc⟩:=Mw hc
 rw[e];simp only[obnd]
 obtain⟨r2,e,hc⟩:=qO hc 3 (by omega)
 rw[e];simp only
 rw[IA r1.1 r2.1 s2];simp only
 obtain⟨r4,e,a0,a1,hc⟩:=aY hc 4 (by omega)
 have a1:=a1 (by omega)
 rw[e];simp only
 have hd:=Pu r2.1 s1
 have hf:=NF r1.1 r2.1 s2
 generalize (vP r1.1 r2.1).1=D at hd hf
 have key:∃ q,ak (jk) (r4.1,D.show_.horizon,D.state.now,D.lazy,D.show_.nodes,D.show_.ties,D.state.times,D.state.values,D.log,r4.2.b,r4.2.i,r4.2.h)=some q ∧
   (match q with | .inl t=>bP (GDesk.mk (GShow.mk t.2.2.2.1 t.2.2.2.2.1 t.1) (GState.mk t.2.1 t.2.2.2.2.2.1 t.2.2.2.2.2.2.1) t.2.2.1 t.2.2.2.2.2.2.2.1)=true∧FitD (GDesk.mk (GShow.mk t.2.2.2.1 t.2.2.2.2.1 t.1) (GState.mk t.2.1 t.2.2.2.2.2.1 t.2.2.2.2.2.2.1) t.2.2.1 t.2.2.2.2.2.2.2.1) | .inr t=>bP t.1=true∧FitD t.1):=by
  refine bo r4.1.toNat (fun i st=>st.1=r4.1 - (i:Int)∧(∃ E:GDesk,bP E=true∧FitD E∧st.2=(E.show_.horizon,E.state.now,E.lazy,E.show_.nodes,E.show_.ties,E.state.times,E.state.values,E.log,st.2.2.2.2.2.2.2.2.2)∧Cur ⟨st.2.2.2.2.2.2.2.2.2.1,st.2.2.2.2.2.2.2.2.2.2.1,st.2.2.2.2.2.2.2.2.2.2.2⟩)) _ ⟨by simp,D,hd,hf,rfl,hc⟩ ?_ ?_
  ·rintro i ⟨n,st⟩ hi ⟨hk,E,hE,fE,hst,hcu⟩
   simp only at hk hst hcu
   obtain⟨b,j,k,hb⟩:∃ b j k,st.2.2.2.2.2.2.2.2=(b,j,k):=⟨_,_,_,rfl⟩
   rw[hb]at hst hcu
   simp only at hcu
   subst hst
   subst hk
   unfold jk
   simp only
   rw[if_pos (by omega)]
   rw[show(GShow.mk E.show_.nodes E.show_.ties E.show_.horizon)=E.show_ from rfl,show(GState.mk E.state.now E.state.times E.state.values)=E.state from rfl,show(GDesk.mk E.show_ E.state E.lazy E.log)=E from rfl]
   rw[tI fE.sh.small (jz hE) fE.st.times fE.st.values]
   simp only[obnd]
   by_cases h0:(((bm E.show_ E.state).length:Nat):Int)=0
   ·rw[if_pos h0]
    exact .inr ⟨_,rfl,hE,fE⟩
   ·rw[if_neg h0]
    have hR:=bl (jz hE)
    have hel:=pX (x:=E.state) hR.ok
    obtain⟨r16,e,f0,f1,hcu⟩:=aY hcu (((bm E.show_ E.state).length:Nat):Int) (by omega)
    have f1:=f1 (by omega)
    rw[e];simp only
    obtain⟨m,hm⟩:∃ m:Nat,r16.1=(m:Int):=⟨r16.1.toNat,by omega⟩
    rw[hm,an (by omega)]
    simp only
    obtain⟨r18,e,v1,hcu⟩:=Ji hcu
    rw[e];simp only
    have ht:((bm E.show_ E.state)[m]'(by omega)).length≤1048576:=by
     have:=(ia hR.ok (List.getElem_mem (l:=bm E.show_ E.state) (n:=m) (by omega))).2.1
     omega
    rw[Gn E _ r18.1 fE ht v1]
    simp only
    rw[wr (x:=r4.1 - i - 1) (by omega) (by omega)]
    refine .inl ⟨_,rfl,by simp only;omega,(mm E _ r18.1 5 (sO E _)).1,FS hE (fun nd hn=>(nI hn).1),(FR E _ r18.1 5 _ fE ht (fun _ nd hn=>(nI hn).1)).1,rfl,hcu⟩
  ·rintro⟨n,st⟩ ⟨hk,E,hE,fE,hst,hcu⟩
   simp only at hk hst hcu
   obtain⟨b,j,k,hb⟩:∃ b j k,st.2.2.2.2.2.2.2.2=(b,j,k):=⟨_,_,_,rfl⟩
   rw[hb]at hst hcu
   subst hst
   subst hk
   unfold jk
   simp only
   rw[if_neg (by omega)]
   exact⟨_,rfl,hE,fE⟩
 obtain⟨q,e,hq⟩:=key
 rw[e];simp only
 cases q with
 | inl t=>exact⟨_,rfl,hq.1,hq.2⟩
 | inr t=>exact⟨_,rfl,hq.1,hq.2⟩
end Go.Proofs.Qe
set_option maxRecDepth 100000
set_option maxHeartbeats 1000000
namespace Go.Proofs.Qe
open Go
theorem Ku (code:List Int)(n:Int)(h:code.length≤1048576)(h0:0≤n)(h1:n≤1000000):∃ r,fq code n=some r∧0≤r:=by
 unfold fq
 obtain⟨c,e,hc⟩:=FI code n h h0 h1
 rw[e]
 simp only[obnd]
 obtain⟨r,e,a0,a1,hr⟩:=nY hc
 rw[e]
 simp only
 obtain⟨q,e,b0,b1,hq⟩:=nY hr
 rw[e]
 refine⟨_,rfl,?_⟩
 rw[wr (x:=r.1*256) (by omega) (by omega),wr (x:=r.1*256+q.1) (by omega) (by omega)]
 omega
end Go.Proofs.Qe
set_option maxRecDepth 100000
set_option maxHeartbeats 1000000
namespace Go.Proofs.Qe
open Go
theorem yZ {s:GShow}{k:Int}(h:k∈cd s):∃ i,∃ hi:i<s.ties.length,k=(i:Int)∧s.ties[i].free=true:=by
 obtain⟨i,hi,hp,rfl⟩:=kY.1 h
 unfold iD at hp
 rw[List.getElem?_eq_getElem hi]at hp
 exact⟨i,hi,rfl,hp⟩
theorem Jj {s:GShow}(h:aI s=true):(cd s).length≤6:=by
 have hR:=bZ h
 have hn:=hR.nodes
 have hnd:((cd s).map (fun k=>(bH s k).to)).Nodup:=by
  unfold List.Nodup
  rw[List.pairwise_map]
  refine List.Pairwise.imp_of_mem ?_ (qQ _ _)
  intro a b ha hb hab he
  obtain⟨i,hi,rfl,hf⟩:=yZ ha
  obtain⟨j,hj,rfl,hg⟩:=yZ hb
  rw[iT hi,iT hj]at he
  have:=IL h hi hj hf hg he
  omega
 have:=ul (r:=[1,2,3,4,5,6]) hnd (fun y hy=>by
  rw[List.mem_map]at hy
  obtain⟨k,hk,rfl⟩:=hy
  obtain⟨i,hi,rfl,hf⟩:=yZ hk
  rw[iT hi]
  have hT:=hR.tie _ (List.getElem_mem hi)
  have h0:=(oV h hi hf).t0
  have h1:=hT.t0
  have h2:=hT.t1
  simp only[List.mem_cons,List.not_mem_nil,or_false]
  omega)
 simpa using this
theorem NV {s:GShow}(h:aI s=true){k:Int}(hk:k∈cd s):∃ t,getI s.ties k=some t∧-20≤t.low∧t.low≤t.high∧t.high≤20:=by
 obtain⟨i,hi,rfl,_⟩:=yZ hk
 have hT:=(bZ h).tie _ (List.getElem_mem hi)
 exact⟨_,an hi,hT.lo,hT.lh,hT.hi⟩
theorem Jk {s:GShow}(hf:FitS s)(h:aI s=true):∃ n,ea s=some n∧1≤n∧n≤1000000000000:=by
 have h6:=Jj h
 have hs:=hf.small
 unfold ea
 rw[mK s hs,h]
 simp only[obnd,if_true]
 rw[CX s hf.ties]
 change ∃ n,(obnd (ak (db (((cd s).length:Nat):Int) s.nodes s.ties s.horizon (cd s)) (1,0)) _)=_∧_
 have key:∃ q,ak (db (((cd s).length:Nat):Int) s.nodes s.ties s.horizon (cd s)) (1,0)=some q∧1≤q∧q≤4750104241:=by
  have hp:∀ i:Nat,i≤6→(41:Int)^i≤4750104241:=by
   intro i hi
   have:i=0∨i=1∨i=2∨i=3∨i=4∨i=5∨i=6:=by omega
   rcases this with rfl|rfl|rfl|rfl|rfl|rfl|rfl <;> decide
  refine bo (cd s).length (fun i st=>st.2=(i:Int)∧1≤st.1∧st.1≤41^i) _ ⟨rfl,by decide,by decide⟩ ?_ ?_
  ·rintro i ⟨n,v⟩ hi ⟨hk,h1,h2⟩
   simp only at hk h1 h2
   subst hk
   obtain⟨t,e,b1,b2,b3⟩:=NV h (List.getElem_mem hi)
   unfold db
   simp only
   rw[if_pos (by omega),an hi]
   simp only[obnd]
   rw[e]
   simp only
   have hp1:=hp (i+1) (by omega)
   rw[wr (x:=t.high - t.low) (by omega) (by omega),wr (x:=t.high - t.low+1) (by omega) (by omega)]
   have hm:n*(t.high - t.low+1)≤41^i*41:=Int.mul_le_mul h2 (by omega) (by omega) (by omega)
   have hm0:1*1≤n*(t.high - t.low+1):=Int.mul_le_mul h1 (by omega) (by omega) (by omega)
   rw[Int.pow_succ]at hp1
   rw[wr (x:=n*(t.high - t.low+1)) (by omega) (by omega),wr (x:=(i:Int)+1) (by omega) (by omega)]
   refine .inl ⟨_,rfl,by simp only;omega,by simp only;omega,?_⟩
   simp only
   rw[Int.pow_succ]
   exact hm
  ·rintro⟨n,v⟩ ⟨hk,h1,h2⟩
   simp only at hk h1 h2
   subst hk
   unfold db
   simp only
   rw[if_neg (by omega)]
   exact⟨_,rfl,h1,Int.le_trans h2 (hp _ h6)⟩
 obtain⟨q,e,q1,q2⟩:=key
 rw[e]
 simp only[obnd]
 have key:∃ r,ak (eo s.nodes s.ties s.horizon) (q,1)=some r∧1≤r∧r≤1000000000000:=by
  refine bo 3 (fun i st=>st.2=1+(i:Int)∧1≤st.1∧(i=0→st.1≤4750104241)∧(i=1→st.1≤9500208482)∧(i=2→st.1≤19000416964)∧(i=3→st.1≤38000833928)) _ (by refine⟨by simp,q1,?_,?_,?_,?_⟩ <;> intro h <;> first|exact q2|omega) ?_ ?_
  ·rintro i ⟨n,p⟩ hi ⟨hk,h1,h2,h3,h4,h5⟩
   simp only at hk h1 h2 h3 h4 h5
   subst hk
   unfold eo
   simp only
   rw[if_pos (by omega),show(GShow.mk s.nodes s.ties s.horizon)=s from rfl,kw s _ hs.nodes]
   simp only[obnd]
   have hb:n≤19000416964:=by
    have:i=0∨i=1∨i=2:=by omega
    rcases this with rfl|rfl|rfl
    ·have:=h2 rfl;omega
    ·have:=h3 rfl;omega
    ·exact h4 rfl
   rw[wr (x:=1+(i:Int)+1) (by omega) (by omega)]
   split
   ·rw[wr (x:=2*n) (by omega) (by omega)]
    refine .inl ⟨_,rfl,by simp only;omega,by simp only;omega,fun h=>by omega,fun h=>?_,fun h=>?_,fun h=>?_⟩
    ·have:=h2 (by omega);simp only;omega
    ·have:=h3 (by omega);simp only;omega
    ·have:=h4 (by omega);simp only;omega
   ·refine .inl ⟨_,rfl,by simp only;omega,h1,fun h=>by omega,fun h=>?_,fun h=>?_,fun h=>?_⟩
    ·have:=h2 (by omega);simp only;omega
    ·have:=h3 (by omega);simp only;omega
    ·have:=h4 (by omega);simp only;omega
  ·rintro⟨n,p⟩ ⟨hk,h1,h2,h3,h4,h5⟩
   simp only at hk h1 h2 h3 h4 h5
   subst hk
   unfold eo
   simp only
   rw[if_neg (by omega)]
   exact⟨_,rfl,h1,by have:=h5 trivial;omega⟩
 obtain⟨r,e,r1,r2⟩:=key
 rw[e]
 exact⟨_,rfl,r1,r2⟩
theorem Kv {s:GShow}(hf:FitS s)(h:aI s=true)(n:Int):∃ r,kD s n=some r:=by
 have h6:=Jj h
 have hs:=hf.small
 unfold kD
 obtain⟨k,e,_,_⟩:=Jk hf h
 rw[e]
 simp only[obnd]
 rw[eE]
 simp only
 split
 ·rw[CX s hf.ties]
  change ∃ r,(obnd (ak (eX (((cd s).length:Nat):Int) s.nodes s.ties s.horizon (cd s)) (n,0,[])) _)=_
  have key:∃ q,ak (eX (((cd s).length:Nat):Int) s.nodes s.ties s.horizon (cd s)) (n,0,[])=some q∧True:=by
   refine bo (cd s).length (fun i st=>st.2.1=(i:Int)∧st.2.2.length=i) _ ⟨rfl,rfl⟩ ?_ ?_
   ·rintro i ⟨m,v,l⟩ hi ⟨hk,h1⟩
    simp only at hk h1
    subst hk
    obtain⟨t,e,b1,b2,b3⟩:=NV h (List.getElem_mem hi)
    unfold eX
    simp only
    rw[if_pos (by omega),an hi]
    simp only[obnd]
    rw[e]
    simp only
    rw[wr (x:=t.high - t.low) (by omega) (by omega),wr (x:=t.high - t.low+1) (by omega) (by omega),ah (by omega),ah (by omega),ah (by omega),wr (x:=(i:Int)+1) (by omega) (by omega)]
    exact .inl ⟨_,rfl,by simp only;omega,by simp only[List.length_append,List.length_singleton];omega⟩
   ·rintro⟨m,v,l⟩ ⟨hk,h1⟩
    simp only at hk h1
    subst hk
    unfold eX
    simp only
    rw[if_neg (by omega)]
    exact⟨_,rfl,trivial⟩
  obtain⟨q,e,_⟩:=key
  rw[e]
  simp only[obnd]
  have key:∃ r,ak (ip s.nodes s.ties s.horizon q.2) (q.1,1,[])=some r∧True:=by
   refine bo 3 (fun i st=>st.2.1=1+(i:Int)∧st.2.2.length=i) _ ⟨by simp,rfl⟩ ?_ ?_
   ·rintro i ⟨m,v,l⟩ hi ⟨hk,h1⟩
    simp only at hk h1
    subst hk
    unfold ip
    simp only
    rw[if_pos (by omega),show(GShow.mk s.nodes s.ties s.horizon)=s from rfl,kw s _ hs.nodes]
    simp only[obnd]
    rw[wr (x:=1+(i:Int)+1) (by omega) (by omega)]
    split
    ·rw[ah (by omega),ah (by omega)]
     exact .inl ⟨_,rfl,by simp only;omega,by simp only[List.length_append,List.length_singleton];omega⟩
    ·rw[ah (by omega),ah (by omega)]
     exact .inl ⟨_,rfl,by simp only;omega,by simp only[List.length_append,List.length_singleton];omega⟩
   ·rintro⟨m,v,l⟩ ⟨hk,h1⟩
    simp only at hk h1
    subst hk
    unfold ip
    simp only
    rw[if_neg (by omega)]
    exact⟨_,rfl,trivial⟩
  obtain⟨r,e,_⟩:=key
  rw[e]
  exact⟨_,rfl⟩
 ·exact⟨_,rfl⟩
theorem Gq (code:List Int)(n:Int){s:GShow}(hc:code.length≤1048576)(h0:0≤n)(h1:n≤1000000)(hf:FitS s)(h:aI s=true):∃ c,jm code n s=some c:=by
 unfold jm
 obtain⟨m,e⟩:=Mg code n hc h0 h1
 rw[e]
 simp only[obnd]
 obtain⟨k,e,k1,_⟩:=Jk hf h
 rw[e]
 simp only
 rw[ah (by omega)]
 obtain⟨r,e⟩:=Kv hf h (Int.tmod m k)
 rw[e]
 exact⟨_,rfl⟩
end Go.Proofs.Qe
set_option maxRecDepth 100000
set_option maxHeartbeats 1000000
namespace Go.Proofs.Qe
open Go
end Go.Proofs.Qe
set_option maxRecDepth 100000
set_option maxHeartbeats 1000000
namespace Go.Proofs.Qe
open Go Go.Lib
theorem mE (l:List UInt8):bs (ofL l)=l:=by simp[bs,ofL]
theorem Jl (s:ByteArray):ofL (bs s)=s:=by
 cases s;simp[bs,ofL]
theorem UZ {a b:ByteArray}(h:bs a=bs b):a=b:=by rw[← Jl a,h,Jl]
theorem FV (a b:ByteArray):bs (a++b)=bs a++bs b:=by
 unfold bs;rw[ByteArray.data_append,Array.toList_append]
theorem kv (s:ByteArray):s.size=(bs s).length:=by unfold bs;rw[Array.length_toList];rfl
theorem AY (l:List UInt8):(ofL l).size=l.length:=by rw[kv,mE]
theorem Dp (s:ByteArray)(i j:Nat):bs (s.extract i j)=((bs s).take j).drop i:=by
 unfold bs;rw[ByteArray.data_extract,Array.toList_extract]
 rw[List.extract_eq_take_drop,List.drop_take]
theorem Rb {s:ByteArray}{i:Nat}(h:i<(bs s).length):getS s (i:Int)=some (bs s)[i]:=by
 have h':i<s.size:=by rw[kv];exact h
 rw[vl h'];rfl
def i64 (n:Int):Prop:=-9223372036854775808≤n∧n≤9223372036854775807
theorem po {u:Nat}(h:¬ u<10):decDigits u=decDigits (u / 10)++[UInt8.ofNat (48+u % 10)]:=by rw[decDigits,dif_neg h]
theorem lg {u:Nat}(h:u<10):decDigits u=[UInt8.ofNat (48+u)]:=by rw[decDigits,dif_pos h]
theorem uv {k:Nat}(h:k<10):(UInt8.ofNat (48+k)).toNat=48+k:=by
 rw[UInt8.toNat_ofNat'];omega
theorem nJ (u:Nat):decDigits u≠[]:=by
 by_cases h:u<10
 ·rw[lg h];simp
 ·rw[po h];simp
theorem nb (u:Nat):∀ c,c∈decDigits u→48≤c.toNat∧c.toNat≤57:=by
 induction u using Nat.strongRecOn with
 | _ u ih=>
  intro c hc
  by_cases h:u<10
  ·rw[lg h]at hc
   simp only[List.mem_singleton]at hc
   subst hc;rw[uv h];omega
  ·rw[po h]at hc
   simp only[List.mem_append,List.mem_singleton]at hc
   rcases hc with hc|hc
   ·exact ih _ (by omega) c hc
   ·subst hc;rw[uv (Nat.mod_lt _ (by omega))];omega
theorem su:∀ (k u:Nat),u<10^(k+1)→(decDigits u).length≤k+1
 | 0,u,h=>by rw[lg (by omega)];simp
 | k+1,u,h=>by
  by_cases h1:u<10
  ·rw[lg h1];simp
  ·rw[po h1,List.length_append,List.length_singleton]
   have:=su k (u / 10) (by rw[Nat.pow_succ]at h;omega)
   omega
theorem Pv {u:Nat}:itoa (u:Int)=decDigits u:=by unfold itoa;rw[if_neg (by omega)];simp
theorem NW {u:Nat}(h:1≤u):itoa (-(u:Int))=45::decDigits u:=by
 unfold itoa;rw[if_pos (by omega)];simp
theorem xI (l r:List UInt8):∀ acc,parseUint10 acc (l++r)=match parseUint10 acc l with
  | .ok a=>parseUint10 a r
  | e=>e:=by
 induction l with
 | nil=>intro acc;rfl
 | cons c l ih=>
  intro acc
  simp only[List.cons_append,parseUint10]
  split
  ·split
   ·rfl
   ·split
    ·rfl
    ·exact ih _
  ·rfl
theorem uw {u:Nat}(hu:u<18446744073709551616):parseUint10 0 (decDigits u)=.ok u:=by
 induction u using Nat.strongRecOn with
 | _ u ih=>
  by_cases h:u<10
  ·rw[lg h]
   simp only[parseUint10,uv h]
   rw[if_pos (by omega),if_neg (by omega),if_neg (by omega)]
   congr 1;omega
  ·rw[po h,xI,ih _ (by omega) (by omega)]
   have hm:u % 10<10:=Nat.mod_lt _ (by omega)
   simp only[parseUint10,uv hm]
   rw[if_pos (by omega),if_neg (by omega),if_neg (by omega)]
   congr 1;omega
theorem NX {n:Int}(h:i64 n):atoiAll (itoa n)=.ok n:=by
 obtain⟨h1,h2⟩:=h
 by_cases hn:n<0
 ·have e:n=-((n.natAbs:Nat):Int):=by omega
  rw[e,NW (by omega),atoiAll_minus]
  unfold parseMag
  rw[if_neg (nJ _),uw (by omega)]
  simp only[signed]
  rw[if_neg (by omega)]
 ·have e:n=((n.toNat:Nat):Int):=by omega
  rw[e,Pv]
  cases hd:decDigits n.toNat with
  | nil=>exact absurd hd (nJ _)
  | cons c r=>
   have hc:=nb n.toNat c (by rw[hd];simp)
   rw[atoiAll_plain c r (by omega) (by omega),← hd]
   unfold parseMag
   rw[if_neg (nJ _),uw (by omega)]
   simp only[signless]
   rw[if_neg (by omega)]
theorem Dq {n:Int}(h:i64 n):iG (itoa n)=some n:=by
 unfold iG;rw[NX h];simp
theorem Mx {l:List UInt8}{v:Int}(h:iG l=some v):l=itoa v∧i64 v:=by
 unfold iG at h
 split at h
 ·rename_i w hw
  split at h
  ·rename_i he
   injection h with h;subst h
   exact⟨he.symm,atoiAll_bounds hw⟩
  ·cases h
 ·cases h
theorem La (n:Int):itoa n≠[]:=by
 unfold itoa;split
 ·simp
 ·exact nJ _
theorem tO {n:Int}(h:i64 n):(itoa n).length≤20:=by
 have h1:=h.1
 have h2:=h.2
 unfold itoa;split
 ·have:=su 18 n.natAbs (by omega)
  simp only[List.length_cons];omega
 ·have:=su 18 n.toNat (by omega)
  omega
theorem AZ {n:Int}{c:UInt8}(h:c∈itoa n):c.toNat=45∨48≤c.toNat∧c.toNat≤57:=by
 unfold itoa at h;split at h
 ·rcases List.mem_cons.1 h with rfl|h
  ·exact .inl rfl
  ·exact .inr (nb _ c h)
 ·exact .inr (nb _ c h)
theorem vj {n:Int}(h:i64 n):gS n=some (ofL (itoa n)):=by
 unfold gS nT LL
 rw[if_pos (show -9223372036854775808≤n∧n≤9223372036854775807 from h)];rfl
def val (l:List UInt8):Nat:=l.foldl (fun a c=>a*10+(c.toNat - 48)) 0
theorem ww (s:ByteArray)(hs:s.size≤281474976710656):iQ s=some (iV s):=by
 unfold iQ xn
 rw[if_pos hs]
end Go.Proofs.Qe
set_option maxRecDepth 100000
set_option maxHeartbeats 1000000
namespace Go.Proofs.Qe
open Go Go.Lib
theorem Ba {B:Nat}(sep:List UInt8)(xs:List (List UInt8))(h:∀ x,x∈xs→x.length≤B):(Lib.join xs sep).length≤xs.length*(B+sep.length):=by
 have key:∀ xs:List (List UInt8),(∀ x,x∈xs→x.length≤B)→(joinTail sep xs).length≤xs.length*(B+sep.length):=by
  intro xs
  induction xs with
  | nil=>intro _;simp[joinTail]
  | cons x r ih=>
   intro h
   have h1:=ih (fun y hy=>h y (by simp[hy]))
   have h2:=h x (by simp)
   simp only[joinTail,List.map_cons,List.flatten_cons,List.length_append,List.length_cons]at h1 ⊢
   rw[Nat.succ_mul];omega
 cases xs with
 | nil=>simp[Lib.join_nil]
 | cons x r=>
  rw[Lib.join_cons,List.length_append,List.length_cons,Nat.succ_mul]
  have h1:=key r (fun y hy=>h y (by simp[hy]))
  have h2:=h x (by simp)
  omega
def aU {α:Type}(p:α→Bool):List α→List (List α)
 | []=>[[]]
 | c::r=>if p c then []::aU p r else match aU p r with
  | h::t=>(c::h)::t
  | []=>[[c]]
def glue {α:Type}(pre:List α):List (List α)→List (List α)
 | h::t=>(pre++h)::t
 | []=>[pre]
theorem nK {α:Type}(p:α→Bool)(l:List α):aU p l≠[]:=by
 cases l with
 | nil=>simp[aU]
 | cons c r=>
  simp only[aU]
  split
  ·simp
  ·split <;> simp
theorem Jm {α:Type}{L:List (List α)}(h:L≠[]):glue [] L=L:=by cases L <;> simp_all [glue]
theorem NY {α:Type}{p:α→Bool}{c:α}{r:List α}(h:p c=false)(pre:List α):glue pre (aU p (c::r))=glue (pre++[c]) (aU p r):=by
 simp only[aU,h]
 cases hs:aU p r with
 | nil=>exact absurd hs (nK p r)
 | cons a b=>simp[glue]
theorem My {α:Type}{p:α→Bool}{c:α}{r:List α}(h:p c=true)(pre:List α):glue pre (aU p (c::r))=pre::aU p r:=by
 simp[aU,h,glue]
theorem sP {α:Type}(p:α→Bool)(l:List α):((aU p l).map List.length).sum+(aU p l).length=l.length+1:=by
 induction l with
 | nil=>rfl
 | cons c r ih=>
  simp only[aU]
  split
  ·simp only[List.map_cons,List.sum_cons,List.length_nil,List.length_cons];omega
  ·cases hs:aU p r with
   | nil=>exact absurd hs (nK p r)
   | cons a b=>
    rw[hs]at ih
    simp only[List.map_cons,List.sum_cons,List.length_cons]at ih ⊢
    omega
theorem Dr:∀ {l:List Nat} {x:Nat},x∈l→x≤l.sum
 | a::l,x,h=>by
  rw[List.sum_cons]
  rcases List.mem_cons.1 h with rfl|h
  ·omega
  ·have:=Dr h;omega
theorem rC {α:Type}(p:α→Bool)(l:List α){x:List α}(h:x∈aU p l):x.length≤l.length:=by
 have h1:=sP p l
 have h2:x.length≤((aU p l).map List.length).sum:=Dr (List.mem_map.2 ⟨x,h,rfl⟩)
 have h3:0<(aU p l).length:=List.length_pos_of_mem h
 omega
theorem Ds {α:Type}{p:α→Bool}{l:List α}(h:∀ c,c∈l→p c=false):aU p l=[l]:=by
 induction l with
 | nil=>rfl
 | cons a r ih=>
  simp only[aU]
  rw[if_neg (by rw[h a (by simp)];simp),ih (fun c hc=>h c (by simp[hc]))]
theorem wx {α:Type}{p:α→Bool}{l r:List α}{c:α}(h:∀ c,c∈l→p c=false)(hc:p c=true):aU p (l++c::r)=l::aU p r:=by
 induction l with
 | nil=>simp[aU,hc]
 | cons a l ih=>
  have:=ih (fun c hc=>h c (by simp[hc]))
  simp only[List.cons_append,aU]
  rw[if_neg (by rw[h a (by simp)];simp),this]
theorem AI {sep:UInt8}(xs:List (List UInt8))(hne:xs≠[])(h:∀ x,x∈xs→∀ c,c∈x→c≠sep):aU (fun c=>c == sep) (Lib.join xs [sep])=xs:=by
 induction xs with
 | nil=>exact absurd rfl hne
 | cons x r ih=>
  have hx:∀ c,c∈x→(c == sep)=false:=fun c hc=>by simpa using h x (by simp) c hc
  cases r with
  | nil=>rw[Lib.join_one,Ds hx]
  | cons y r=>
   rw[Lib.join_cons]
   have e:joinTail [sep] (y::r)=sep::Lib.join (y::r) [sep]:=by rw[Lib.join_cons];simp[joinTail]
   rw[e,wx hx (by simp),ih (by simp) (fun z hz=>h z (by simp[hz]))]
theorem Gr {b c:UInt8}(h:¬ b=c)(l:List UInt8):index (b::l) [c]=if index l [c]=-1 then -1 else index l [c]+1:=by
 have hp:([c]:List UInt8).isPrefixOf (b::l)=false:=by
  simp[List.isPrefixOf]
  exact fun h2=>h h2.symm
 conv=>lhs;unfold index
 rw[hp]
 by_cases hi:index l [c]=-1
 ·rw[hi];rfl
 ·rw[if_neg hi]
  have:(index l [c] == -1)=false:=by simpa using hi
  rw[this];simp
theorem vk {α:Type}{p:α→Bool}{c:α}{l x:List α}{t:List (List α)}(h:p c=false)(hs:aU p l=x::t):aU p (c::l)=(c::x)::t:=by
 simp only[aU,h,hs];rfl
theorem Rc (l:List UInt8)(c:UInt8):((Lib.cut l [c]).2.2=true∧aU (fun x=>x == c) l=(Lib.cut l [c]).1::aU (fun x=>x == c) (Lib.cut l [c]).2.1∧(Lib.cut l [c]).2.1.length<l.length∧(Lib.cut l [c]).1.length<l.length)∨((Lib.cut l [c]).2.2=false∧aU (fun x=>x == c) l=[l]):=by
 induction l with
 | nil=>exact .inr ⟨rfl,rfl⟩
 | cons b l ih=>
  by_cases hb:b=c
  ·subst hb
   have e:index (b::l) [b]=0:=by
    unfold index
    rw[if_pos (by simp[List.isPrefixOf])]
   refine .inl ?_
   unfold Lib.cut
   rw[e]
   simp[aU]
  ·have hpc:(fun x=>x == c) b=false:=by simpa using hb
   have e:=Gr hb l
   have hge:=index_ge l [c]
   by_cases hi:index l [c]=-1
   ·rw[if_pos hi]at e
    have e2:Lib.cut l [c]=(l,[],false):=by unfold Lib.cut;rw[hi];rfl
    rw[e2]at ih
    simp only[Bool.false_eq_true,false_and,true_and,false_or]at ih
    refine .inr ?_
    unfold Lib.cut
    rw[e,vk (p:=fun x=>x == c) hpc ih]
    exact⟨rfl,rfl⟩
   ·rw[if_neg hi]at e
    have hc:Lib.cut l [c]=(l.take (index l [c]).toNat,l.drop ((index l [c]).toNat+1),true):=by
     unfold Lib.cut;rw[if_pos (by omega)];rfl
    have hc2:Lib.cut (b::l) [c]=(b::l.take (index l [c]).toNat,l.drop ((index l [c]).toNat+1),true):=by
     unfold Lib.cut
     rw[e,if_pos (by omega),show(index l [c]+1).toNat=(index l [c]).toNat+1 by omega]
     rfl
    rw[hc]at ih
    simp only[true_and,Bool.true_eq_false,false_and,or_false]at ih
    obtain⟨i1,i2,i3⟩:=ih
    refine .inl ?_
    rw[hc2,vk (p:=fun x=>x == c) hpc i1]
    refine⟨rfl,rfl,?_,?_⟩
    ·simp only[List.length_cons];omega
    ·simp only[List.length_cons];omega
theorem Va {l l':List ByteArray}(h:l.map bs=l'.map bs):l=l':=by
 have key:∀ l:List ByteArray,(l.map bs).map ofL=l:=by
  intro l
  rw[List.map_map]
  conv=>rhs;rw[← List.map_id l]
  exact List.map_congr_left (fun x _=>Jl x)
 rw[← key l,h,key]
theorem Mz (l:List (List UInt8)):(l.map ofL).map bs=l:=by
 rw[List.map_map]
 conv=>rhs;rw[← List.map_id l]
 exact List.map_congr_left (fun x _=>mE x)
def sepB (by_:ByteArray)(c:UInt8):Bool:=(bs by_).contains c
def xJ (s by_:ByteArray):List ByteArray:=(aU (sepB by_) (bs s)).map ofL
theorem Bb (l:List UInt8)(c:UInt8):0≤indexByte l c↔l.contains c=true:=by
 induction l with
 | nil=>simp[indexByte]
 | cons b l ih=>
  have hge:=indexByte_ge l c
  unfold indexByte
  rw[List.contains_cons]
  by_cases hb:b=c
  ·subst hb
   rw[if_pos (by simp)];simp
  ·rw[if_neg (by simpa using hb),show(c == b)=false by rw[beq_eq_false_iff_ne];exact fun h=>hb h.symm]
   rw[Bool.false_or,← ih]
   by_cases h1:indexByte l c=-1
   ·rw[h1];simp
   ·have:(indexByte l c == -1)=false:=by simpa using h1
    rw[this];simp;omega
structure lU (s by_:ByteArray) (i:Nat) (f:Int) (out:List ByteArray):Prop where
 f0:0≤f
 f1:f≤(i:Int)
 len:out.length≤i
 eq:out.map bs++glue (((bs s).take i).drop f.toNat) (aU (sepB by_) ((bs s).drop i))=aU (sepB by_) (bs s)
theorem Gs (s by_:ByteArray):lU s by_ 0 0 []:=by
 refine⟨Int.le_refl _,Int.le_refl _,Nat.le_refl _,?_⟩
 simp only[List.take_zero,List.drop_nil,List.drop_zero,List.map_nil,List.nil_append]
 exact Jm (nK _ _)
theorem lU.yes {s by_:ByteArray}{i:Nat}{f:Int}{out:List ByteArray}(h:lU s by_ i f out)(hi:i<(bs s).length)(hc:sepB by_ (bs s)[i]=true):lU s by_ (i+1) ((i:Int)+1) (out++[s.extract f.toNat i]):=by
 refine⟨by omega,by omega,by simp only[List.length_append,List.length_singleton];have:=h.len;omega,?_⟩
 rw[← h.eq,List.map_append,List.append_assoc]
 congr 1
 rw[List.drop_eq_getElem_cons hi,My hc]
 simp only[List.map_cons,List.map_nil,List.singleton_append]
 rw[Dp]
 congr 1
 rw[show((i:Int)+1).toNat=i+1 by omega,List.drop_eq_nil_of_le (by rw[List.length_take];omega)]
 exact Jm (nK _ _)
theorem lU.no {s by_:ByteArray}{i:Nat}{f:Int}{out:List ByteArray}(h:lU s by_ i f out)(hi:i<(bs s).length)(hc:sepB by_ (bs s)[i]=false):lU s by_ (i+1) f out:=by
 have h0:=h.f0
 have h1:=h.f1
 refine⟨h0,by omega,by have:=h.len;omega,?_⟩
 rw[← h.eq]
 congr 1
 rw[List.drop_eq_getElem_cons hi,NY hc,cG hi,List.drop_append_of_le_length (by rw[List.length_take];omega)]
theorem lU.done {s by_:ByteArray}{f:Int}{out:List ByteArray}(h:lU s by_ (bs s).length f out):out++[s.extract f.toNat s.size]=xJ s by_:=by
 refine Va ?_
 unfold xJ
 rw[Mz,← h.eq,List.map_append,kv]
 congr 1
 simp only[List.map_cons,List.map_nil]
 rw[Dp,List.drop_length]
 simp[aU,glue]
theorem wy (s by_:ByteArray)(hs:s.size≤1073741824):iP s by_=some (xJ s by_):=by
 have hsz:=kv s
 unfold iP
 have key:∃ q,ak (iB s by_) (0,0,[])=some q∧lU s by_ (bs s).length q.1 q.2:=by
  refine bo (bs s).length (fun i st=>st.2.1=(i:Int)∧lU s by_ i st.1 st.2.2) _ ⟨rfl,Gs s by_⟩ ?_ ?_
  ·rintro i ⟨f,j,out⟩ hi ⟨rfl,hC⟩
   simp only at hC
   have h0:=hC.f0
   have h1:=hC.f1
   have h2:=hC.len
   unfold iB
   simp only
   rw[if_pos (by omega),Rb hi]
   simp only[obnd]
   unfold ki vC
   simp only
   have hcc:(((bs s)[i].toNat:Nat):Int).toNat.toUInt8=(bs s)[i]:=by simp
   rw[hcc]
   have hiff:=Bb (bs by_) (bs s)[i]
   cases hc:sepB by_ (bs s)[i]
   ·have hneg:¬ 0≤indexByte (bs by_) (bs s)[i]:=by
     rw[hiff]
     unfold sepB at hc
     rw[hc];simp
    rw[if_neg hneg,wr (by omega) (by omega)]
    exact .inl ⟨_,rfl,rfl,hC.no hi hc⟩
   ·have hpos:0≤indexByte (bs by_) (bs s)[i]:=hiff.2 hc
    rw[if_pos hpos,ah (by omega),ah (by omega),ah (by omega),ah (by omega),ah (by omega),ah (by omega),wr (by omega) (by omega),Int.toNat_natCast]
    exact .inl ⟨_,rfl,rfl,hC.yes hi hc⟩
  ·rintro⟨f,j,out⟩ ⟨rfl,hC⟩
   unfold iB
   simp only
   rw[if_neg (by omega)]
   exact⟨_,rfl,hC⟩
 obtain⟨q,hq,hC⟩:=key
 have h0:=hC.f0
 have h1:=hC.f1
 have h2:=hC.len
 rw[hq]
 simp only[obnd]
 rw[ah (by omega),ah (by omega),ah (by omega),ah (by omega),hC.done]
def MA (l:List ByteArray)(sep:ByteArray):ByteArray:=ofL (Lib.join (l.map bs) (bs sep))
theorem FW (l:List ByteArray)(sep:ByteArray)(h1:l.length≤1073741824)(h2:(Lib.join (l.map bs) (bs sep)).length≤1099511627776):mH l sep=some (MA l sep):=by
 unfold mH nU LM
 rw[if_pos ⟨by omega,by omega⟩];rfl
end Go.Proofs.Qe
