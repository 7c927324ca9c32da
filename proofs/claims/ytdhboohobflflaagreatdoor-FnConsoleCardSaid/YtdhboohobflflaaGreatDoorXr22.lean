/- Regions whose order is drawn: the end of it. Own work. -/
import Derived.Test.YtdhboohobflflaaGreatDoorXr21
set_option linter.all false
namespace Go.Proofs.Qr
section
variable {P:Program} {fr:Fr} {nt:Nat} {env env' env0:Env} {H:Hp} {clk:Nat} {K:Nat→Prop} {M:Nat→Cb} {w:World} {T:Nat→Ty} {md:Nat→List AV→Md} {a:Act} {ops:Array Oper} {h:DH}
variable {Q:St→Prop} {d:pN} {tr:List TI} {rem:DT} {recs:List Rec} {listed:Array Bool} {E:Env}
theorem wZ {dk f:Nat}{ps:List (Nat × Nat × Nat)}{sn nl:Bool}{args:List AV}{Q Q':AV→Hp→Nat→Prop}(hQ:∀ av H' clk',Q av H' clk'→Q' av H' clk')(hh:oq P dk f ps H clk sn nl args Q):oq P dk f ps H clk sn nl args Q':=by
 obtain⟨h1,h2⟩:=hh
 refine⟨h1,?_⟩
 split
 ·rename_i as has
  rw[has]at h2
  simp only at h2
  split
  ·rename_i h0 hh0
   rw[hh0]at h2
   obtain⟨r,h',h3,h4,h5⟩:=h2
   exact⟨r,h',h3,h4,hQ _ _ _ h5⟩
  rename_i hh0
  rw[hh0]at h2
  exact h2
 rename_i has
 rw[has]at h2
 exact h2
theorem EC {o:Oper}{Q Q':AV→Hp→Nat→Prop}(hQ:∀ av H' clk',Q av H' clk'→Q' av H' clk')(hh:outK P md T env H clk nt o Q):outK P md T env H clk nt o Q':=by
 unfold outK at hh ⊢
 split
 ·rename_i av H' clk' hev
  rw[hev]at hh
  exact hQ _ _ _ hh
 rename_i hev
 rw[hev]at hh
 simp only at hh
 unfold kU at hh ⊢
 split
 ·rename_i c hc
  rw[hc]at hh
  simp only at hh
  split
  ·rename_i x hx
   rw[hx]at hh
   simp only at hh
   split
   ·rename_i f caps hf
    rw[hf]at hh
    simp only at hh
    unfold qN at hh ⊢
    split
    ·rename_i hk
     rw[if_pos hk]at hh
     exact wZ hQ hh
    rename_i hk
    rw[if_neg hk]at hh
    exact wZ hQ hh
   rename_i hno
   split at hh
   ·rename_i f caps hf
    exact(hno f caps hf).elim
   exact hh
  rename_i hno
  split at hh
  ·rename_i x hx
   exact(hno x hx).elim
  exact hh
 ·rename_i op t x y yt hc
  rw[hc]at hh
  simp only at hh
  split
  ·rename_i hk
   rw[if_pos hk]at hh
   exact⟨hQ _ _ _ hh.1,hQ _ _ _ hh.2⟩
  rename_i hk
  rw[if_neg hk]at hh
  exact hh
 rename_i hn1 hn2
 split at hh
 ·rename_i c hc
  exact(hn1 c hc).elim
 ·rename_i op t x y yt hc
  exact(hn2 _ _ _ _ _ hc).elim
 exact hh
theorem xa {recs:List Rec}:∀ {l:List Nat},gB T H clk recs l→∀ j,j∈l→∀ r,lX j recs=some r→r.wanted=true→ct T r.env H clk r.o=some (r.av,H,clk)
 | [],_,_,hj,_,_,_=>by simp at hj
 | k::l,hh,j,hj,r,hr,hw=>by
  simp only[gB]at hh
  rcases List.mem_cons.1 hj with rfl|hj
  ·rw[hr]at hh
   exact hh.1 hw
  exact xa hh.2 j hj r hr hw
theorem Inv0.stepEff (I:Inv0 P md T nt ops h Q env0 tr (.cons d rem) recs listed E H clk)(hsz:listed.size=ops.size){o:Oper}(ho:ops[d.j]?=some o)(hef:ba o.op=true)
  (hon:∀ e,e∈o.after→Region.binds .any e=true→isOn listed e.on) :
  aop P md T nt ops ⟨E,H,clk⟩ o (fun st'=>∃ av H' clk' tr',st'=⟨putE o.dst av E,H',clk'⟩∧Inv0 P md T nt ops (h.ext d.j) Q env0 tr' rem recs (listed.setIfInBounds d.j true) (putE o.dst av E) H' clk'∧du ops (h.ext d.j) (tr'.map (fun it=>(it.j,it.keep))) rem=true):=by
 obtain⟨o',ho',hit,hordT,_⟩:=ow I.ord
 rw[ho]at ho'
 cases ho'
 have hord:=(hordT hef).2
 have hcov:=(hordT hef).1
 have hlt:d.j<listed.size:=by rw[hsz];exact(Array.getElem?_eq_some_iff.1 ho).1
 have hspec:∀ x,x∈tr→(x.j≠d.j∧(ba x.o.op=true→x.j∈cu h d.j)∧(∀ y,x.o.dst=some y→o.dst≠some y)∧(∀ y,x.o.dst=some y→y∈o.looksAt ops→x.j∈cu h d.j)∧(∀ y,o.dst=some y→y∈x.o.looksAt ops→x.j∈cu h d.j)) ∧
   (ba x.o.op=true∨kV x.o.op=false∨x.j∈cu h d.j∨(x.keep=true∧x.j∈d.chk)):=by
  intro x hx
  obtain⟨h1,oi,h2,h3,h4,h5,h6,h7⟩:=jM hit x.j x.keep (List.mem_map.2 ⟨x,hx,rfl⟩)
  rw[I.opsj x hx]at h2
  cases h2
  exact⟨⟨h1,h3,h4,h5,h6⟩,h7 hef⟩
 have hagree:=I.headAgree ho hon (fun x hx y hy hl=>(hspec x hx).1.2.2.2.1 y hy hl)
 have hanc:=su I.edg I.closed (d.j+1) d.j o (by omega) ho hon
 have hun:¬ isOn listed d.j:=by
  intro hon
  obtain⟨x,hx,h1⟩:=I.lst d.j hon
  exact(hspec x hx).1.1 h1
 have build:∀ (av:AV) (H':Hp) (clk':Nat),(∀ x,x∈tr→¬ isOn listed x.j→GI T ops H' clk' x.env x)→(∀ x,o.dst=some x→x<nt)→bb P md T nt ops rem recs ⟨putE o.dst av (bR env0 tr),H',clk'⟩ Q →
   Inv0 P md T nt ops (h.ext d.j) Q env0 (⟨d.j,o,bR env0 tr,av,d.keep,true⟩::tr) rem recs (listed.setIfInBounds d.j true) (putE o.dst av E) H' clk':=by
  intro av H' clk' hcur hnt hp
  refine { opsj:=?_,pair:=?_,envs:=?_,ord:=hord,lst:=?_,effs:=?_,look1:=?_,look2:=?_,cur:=?_,recsOk:=?_,closed:=?_,nts:=?_,edg:=(I.edg.mono (fun j hj=>bh.2 (.inl hj))).ext (bh.2 (.inr ⟨rfl,hlt⟩)),pend:=hp }
  ·intro x hx
   rcases List.mem_cons.1 hx with rfl|hx
   ·exact ho
   exact I.opsj x hx
  ·exact List.pairwise_cons.2 ⟨fun x hx=>(show PR ops h ⟨d.j,o,bR env0 tr,av,d.keep,true⟩ x from(hspec x hx).1).ext,I.pair.imp PR.ext⟩
  ·intro T1 x T2 htr
   cases T1 with
   | nil=>
    simp only[List.nil_append,List.cons.injEq]at htr
    obtain⟨rfl,rfl⟩:=htr
    rfl
   | cons y T1=>
    simp only[List.cons_append,List.cons.injEq]at htr
    exact I.envs T1 x T2 htr.2
  ·intro j hj
   rcases bh.1 hj with hj|⟨rfl,_⟩
   ·obtain⟨x,hx,h1⟩:=I.lst j hj
    exact⟨x,by simp[hx],h1⟩
   exact⟨⟨d.j,o,bR env0 tr,av,d.keep,true⟩,by simp,rfl⟩
  ·intro x hx he
   rcases List.mem_cons.1 hx with rfl|hx
   ·exact bh.2 (.inr ⟨rfl,hlt⟩)
   exact bh.2 (.inl (I.effs x hx he))
  ·intro x s hx hox hd
   rw[mF]
   rcases List.mem_cons.1 hx with rfl|hx
   ·simp only at hd
    rw[if_pos hd]
   rw[if_neg ((hspec x hx).1.2.2.1 s hd)]
   rcases bh.1 hox with hox|⟨h1,_⟩
   ·exact I.look1 x s hx hox hd
   exact absurd h1.symm (hspec x hx).1.1
  ·intro s hs
   rw[mF,if_neg (hs _ List.mem_cons_self (bh.2 (.inr ⟨rfl,hlt⟩)))]
   exact I.look2 s (fun x hx hox=>hs x (List.mem_cons_of_mem _ hx) (bh.2 (.inl hox)))
  ·intro x hx hox
   rcases List.mem_cons.1 hx with rfl|hx
   ·exact absurd (bh.2 (.inr ⟨rfl,hlt⟩)) hox
   exact hcur x hx (fun hn=>hox (bh.2 (.inl hn)))
  ·intro x hx hk hxe
   rcases List.mem_cons.1 hx with rfl|hx
   ·simp only at hxe
    rw[hef]at hxe
    cases hxe
   exact I.recsOk x hx hk hxe
  ·intro j oj hj hoj e he hb
   rcases bh.1 hj with hj|⟨rfl,_⟩
   ·exact bh.2 (.inl (I.closed j oj hj hoj e he hb))
   rw[ho]at hoj
   cases hoj
   exact bh.2 (.inl (hon e he hb))
  intro x hx
  rcases List.mem_cons.1 hx with rfl|hx
  ·exact hnt
  exact I.nts x hx
 have hp:=I.pend
 simp only[bb,ho,hef]at hp
 have hput:∀ (Q':St→Prop) (av:AV) (H':Hp) (clk':Nat),(∀ x,o.dst=some x→x<nt)→Q' ⟨putE o.dst av E,H',clk'⟩→putK nt o.dst E Q' av H' clk':=by
  intro Q' av H' clk' hnt hq
  unfold putK
  unfold putE at hq
  cases hd:o.dst with
  | none=>rw[hd]at hq;exact hq
  | some x=>rw[hd]at hq;simp only;rw[if_pos (hnt x hd)];exact hq
 have hyes:outK P md T (bR env0 tr) H clk nt o (fun av H' clk'=>gB T H' clk' recs d.chk∧putK nt o.dst (bR env0 tr) (fun st'=>bb P md T nt ops rem recs st' Q) av H' clk') →
   qQ P md T nt ⟨E,H,clk⟩ o (fun st'=>∃ av H' clk' tr',st'=⟨putE o.dst av E,H',clk'⟩∧Inv0 P md T nt ops (h.ext d.j) Q env0 tr' rem recs (listed.setIfInBounds d.j true) (putE o.dst av E) H' clk'∧du ops (h.ext d.j) (tr'.map (fun it=>(it.j,it.keep))) rem=true):=by
  intro hh
  unfold qQ
  rw[← CR hagree]at hh
  refine EC ?_ hh
  rintro av H' clk' ⟨hchk,hpk⟩
  obtain⟨hnt,hp2⟩:=pP hpk
  refine hput _ av H' clk' hnt ⟨av,H',clk',_,rfl,build av H' clk' ?_ hnt hp2,hcov⟩
  intro x hx hox
  have hxe:ba x.o.op=false:=by
   cases hxe:ba x.o.op with
   | false=>rfl
   | true=>exact absurd (I.effs x hx hxe) hox
  obtain⟨h1,h2,h3⟩|⟨h1,h2,h3⟩:=I.cur x hx hox
  ·refine .inl ⟨h1,h2,?_⟩
   rcases(hspec x hx).2 with h4|h4|h4|⟨h4,h5⟩
   ·rw[hxe]at h4;cases h4
   ·exact BZ hxe h4 h3
   ·exact absurd (hanc x.j h4) hox
   obtain⟨r,r1,r2,r3,r4,r5⟩:=I.recsOk x hx h4 hxe
   have:=xa hchk x.j h5 r r1 (by rw[r4,h1])
   rw[r2,r3,r5 h1]at this
   exact this
  exact .inr ⟨h1,h2,h3⟩
 have hno:putK nt o.dst (bR env0 tr) (fun st'=>bb P md T nt ops rem recs st' Q) (.lit undef) H clk →
   putK nt o.dst E (fun st'=>∃ av H' clk' tr',st'=⟨putE o.dst av E,H',clk'⟩∧Inv0 P md T nt ops (h.ext d.j) Q env0 tr' rem recs (listed.setIfInBounds d.j true) (putE o.dst av E) H' clk'∧du ops (h.ext d.j) (tr'.map (fun it=>(it.j,it.keep))) rem=true) (.lit undef) H clk:=by
  intro hpk
  obtain⟨hnt,hp2⟩:=pP hpk
  exact hput _ _ _ _ hnt ⟨_,H,clk,_,rfl,build _ H clk I.cur hnt hp2,hcov⟩
 unfold jL at hp
 unfold aop
 split at hp
 ·rename_i hgd
  try simp only[hgd]
  exact hyes hp
 rename_i g want hgd
 try simp only[hgd]
 rw[wX hgd hagree]
 split at hp
 ·rename_i b hb
  try simp only[hb]
  exact eh.2 ⟨fun hbw=>hyes ((eh.1 hp).1 hbw),fun hbw=>hno ((eh.1 hp).2 hbw)⟩
 exact hp.elim
def cnt (listed:Array Bool):List Nat→Nat
 | []=>0
 | j::r=>(if listed.getD j false=true then 0 else 1)+cnt listed r
theorem Be:∀ {l:List Nat},cnt listed l=0→∀ j,j∈l→isOn listed j
 | [],_,_,hj=>by simp at hj
 | k::l,hc,j,hj=>by
  simp only[cnt]at hc
  rcases List.mem_cons.1 hj with rfl|hj
  ·unfold isOn
   split at hc
   ·assumption
   omega
  exact Be (by omega) j hj
theorem ED {i:Nat}:∀ (l:List Nat),cnt (listed.setIfInBounds i true) l≤cnt listed l
 | []=>by simp[cnt]
 | k::l=>by
  simp only[cnt]
  have:=ED (i:=i) l
  have hk:listed.getD k false=true→(listed.setIfInBounds i true).getD k false=true:=getD_set_true
  split <;> split <;> simp_all <;> omega
theorem EE {i:Nat}(hun:¬ isOn listed i)(hlt:i<listed.size):∀ (l:List Nat),i∈l→cnt (listed.setIfInBounds i true) l<cnt listed l
 | [],hi=>by simp at hi
 | k::l,hi=>by
  simp only[cnt]
  have h1:=ED (listed:=listed) (i:=i) l
  by_cases hk:k=i
  ·subst hk
   have h2:(listed.setIfInBounds k true).getD k false=true:=bh.2 (.inr ⟨rfl,hlt⟩)
   unfold isOn at hun
   rw[if_pos h2,if_neg hun]
   omega
  have h2:=EE hun hlt l (by rcases List.mem_cons.1 hi with rfl|hi;exact absurd rfl hk;exact hi)
  have hkk:listed.getD k false=true→(listed.setIfInBounds i true).getD k false=true:=getD_set_true
  split <;> split <;> simp_all <;> omega
theorem EF {mo:Region.Mode}(rk:Nat→Nat)(hrk:∀ j o,ops[j]?=some o→∀ e,e∈o.after→Region.binds mo e=true→e.on<ops.size∧rk e.on<rk j)(hsz:listed.size=ops.size)(hr:Region.ready mo ops listed=[]) :
  ∀ n j,rk j<n→j<ops.size→isOn listed j:=by
 intro n
 induction n with
 | zero=>intro j hj;omega
 | succ n ih=>
  intro j hj hlt
  have hon:listed.getD j true=listed.getD j false:=by
   have:j<listed.size:=by omega
   simp[this]
  cases hl:listed.getD j false with
  | true=>exact hl
  | false=>
   exfalso
   have hmem:j∈Region.ready mo ops listed:=by
    refine mem_ready.2 ⟨by rw[hon,hl],ops[j],Array.getElem?_eq_getElem hlt,fun e he hb=>?_⟩
    obtain⟨h1,h2⟩:=hrk j _ (Array.getElem?_eq_getElem hlt) e he hb
    exact ih e.on (by omega) h1
   rw[hr]at hmem
   simp at hmem
theorem Inv0.finish (I:Inv0 P md T nt ops h Q env0 tr rem recs listed E H clk)(hh:rem=.nil∨ei ops rem=true)(hall:∀ j,j<ops.size→isOn listed j)
  (R:Rel fr nt ⟨E,H,clk⟩ K M a.tmps w):At fr nt a.defers Q a w:=by
 have hon:∀ x,x∈tr→isOn listed x.j:=fun x hx=>hall x.j (Array.getElem?_eq_some_iff.1 (I.opsj x hx)).1
 rcases hh with rfl|hst
 ·have hp:=I.pend
  simp only[bb]at hp
  refine⟨_,_,_,R.weaken (env':=bR env0 tr) (fun k=>.inl ?_),rfl,hp⟩
  exact(I.agree k [] tr rfl (fun x hx _=>hon x hx) (by simp)).symm
 exfalso
 obtain⟨j,hj⟩:=FG rem hst
 obtain⟨d,r,o,I',_,ho,hef⟩:=I.pick rem hst hj
 obtain⟨x,hx,h1⟩:=I'.lst d.j (hall d.j (Array.getElem?_eq_some_iff.1 ho).1)
 exact I'.head_new x hx h1
theorem EG (hT:∀ t,TyOk P t (T t)){mo:Region.Mode}(rk:Nat→Nat)(hrk:∀ j o,ops[j]?=some o→∀ e,e∈o.after→Region.binds mo e=true→e.on<ops.size∧rk e.on<rk j)
  {Qx:Exit→Act→World→Prop} (ds:List Deferred) (hQ:∀ a w,At fr nt ds Q a w→Qx .normal a w) :
  ∀ (fuel:Nat) (h:DH) (listed:Array Bool) (a:Act) (w:World) (tr:List TI) (rem:DT) (recs:List Rec) (E:Env) (H:Hp) (clk:Nat) (K:Nat→Prop) (M:Nat→Cb),
   Inv0 P md T nt ops h Q env0 tr rem recs listed E H clk→du ops h (tr.map (fun it=>(it.j,it.keep))) rem=true→(rem=.nil∨ei ops rem=true)→listed.size=ops.size →
   Rel fr nt ⟨E,H,clk⟩ K M a.tmps w→a.defers=ds→cnt listed (List.range ops.size)≤fuel→wpAny P mo ops Qx fuel listed a w:=by
 intro fuel
 induction fuel with
 | zero=>
  intro h listed a w tr rem recs E H clk K M I hcov hh hsz R hd hc
  have hall:∀ j,j<ops.size→isOn listed j:=fun j hj=>Be (by omega) j (List.mem_range.2 hj)
  refine⟨?_,hQ a w (by rw[← hd];exact I.finish hh hall R)⟩
  cases hr:Region.ready mo ops listed with
  | nil=>rfl
  | cons j r=>
   exfalso
   obtain⟨h1,o,ho,_⟩:=mem_ready.1 (show j∈Region.ready mo ops listed by rw[hr];simp)
   have hlt:=(Array.getElem?_eq_some_iff.1 ho).1
   have h2:=hall j hlt
   unfold isOn at h2
   have:j<listed.size:=by omega
   simp[this]at h1 h2
   rw[h1]at h2
   cases h2
 | succ fuel ih=>
  intro h listed a w tr rem recs E H clk K M I hcov hh hsz R hd hc
  refine⟨fun hr=>hQ a w (by rw[← hd];exact I.finish hh (fun j hj=>EF rk hrk hsz hr _ j (Nat.lt_succ_self _) hj) R),fun i hi=>?_⟩
  obtain⟨hi0,o,ho,hedges⟩:=mem_ready.1 hi
  have hlt:=(Array.getElem?_eq_some_iff.1 ho).1
  have hun:¬ isOn listed i:=by
   unfold isOn
   have:i<listed.size:=by omega
   simp[this]at hi0 ⊢
   exact hi0
  have hon:∀ e,e∈o.after→Region.binds .any e=true→isOn listed e.on:=fun e he hb=>hedges e he (Bd hb)
  have hsz':(listed.setIfInBounds i true).size=ops.size:=by simpa using hsz
  have hcnt:cnt (listed.setIfInBounds i true) (List.range ops.size)≤fuel:=by
   have:=EE hun (by omega) (List.range ops.size) (List.mem_range.2 hlt)
   omega
  have hwp:∀ (Post:St→Prop),aop P md T nt ops ⟨E,H,clk⟩ o Post→(∀ a' w',At fr nt a.defers Post a' w'→wpAny P mo ops Qx fuel (listed.setIfInBounds i true) a' w')→wpOp P ops Qx i (wpAny P mo ops Qx fuel (listed.setIfInBounds i true)) a w:=by
   intro Post hop hgo
   have:=Ez (Qx:=Qx) hT R hop
   unfold wpOp
   simp only[ho]
   split
   ·rename_i hw
    rw[if_pos hw]at this
    exact this.imp (Oper.wp_mono hgo) id
   rename_i hw
   rw[if_neg hw]at this
   exact hgo _ _ this
  by_cases hin:∃ it,it∈tr∧it.j=i
  ·obtain⟨it,hit,rfl⟩:=hin
   have:=I.opsj it hit
   rw[ho]at this
   cases this
   have hgi:=I.giNow hit hun hon
   refine hwp _ (IZ (I.nts it hit) hgi) ?_
   rintro a' w' ⟨st',K',M',R',hd',rfl⟩
   exact ih _ _ a' w' tr rem recs _ H clk K' M' (I.stepPure hsz hit hun hon) hcov hh hsz' R' (hd'.trans hd) hcnt
  rcases hh with rfl|hst
  ·exfalso
   have hord:=I.ord
   simp only[hM,beq_iff_eq,List.length_map]at hord
   have hnd:(tr.map (fun it=>it.j)).Nodup:=by
    rw[List.nodup_iff_pairwise_ne,List.pairwise_map]
    exact I.pair.imp (fun hp=>fun he=>hp.1 he.symm)
   have hsub:(i::tr.map (fun it=>it.j)).Nodup:=List.nodup_cons.2 ⟨fun hm=>by
    obtain⟨it,hit,hj⟩:=List.mem_map.1 hm
    exact hin ⟨it,hit,hj⟩,hnd⟩
   have hlen:(i::tr.map (fun it=>it.j)).length≤(List.range ops.size).length:=by
    refine List.Nodup.length_le_of_subset hsub (fun x hx=>?_)
    rcases List.mem_cons.1 hx with rfl|hx
    ·exact List.mem_range.2 hlt
    obtain⟨it,hit,rfl⟩:=List.mem_map.1 hx
    exact List.mem_range.2 (Array.getElem?_eq_some_iff.1 (I.opsj it hit)).1
   simp at hlen
   omega
  have hmem:i∈kW rem:=by
   unfold du at hcov
   rw[hst]at hcov
   simp only[Bool.not_true,Bool.false_or]at hcov
   have:=List.all_eq_true.1 hcov i (List.mem_range.2 hlt)
   simp only[Bool.or_eq_true]at this
   rcases this with (h1|h1)|h1
   ·exfalso
    obtain⟨p,hp,hpi⟩:=List.any_eq_true.1 h1
    obtain⟨it,hit,rfl⟩:=List.mem_map.1 hp
    exact hin ⟨it,hit,by simpa using hpi⟩
   ·simpa using h1
   exfalso
   obtain⟨e,he,hei⟩:=List.any_eq_true.1 h1
   have hei':e∈cu h i:=by simpa using hei
   have hdl:=su I.edg I.closed (i+1) i o (by omega) ho hon e hei'
   obtain⟨d,r,od,I',hde,_,_⟩:=I.pick rem hst he
   obtain⟨x,hx,hxe⟩:=I.lst e hdl
   exact I'.head_new x hx (by rw[hde];exact hxe)
  obtain⟨d,r,od,I',hdi,hod,hef⟩:=I.pick rem hst hmem
  subst hdi
  rw[ho]at hod
  cases hod
  refine hwp _ (I'.stepEff hsz ho hef hon) ?_
  rintro a' w' ⟨st',K',M',R',hd',av,H',clk',tr',rfl,I2,hcov2⟩
  obtain⟨tr3,rem3,recs3,I3,hcov3,hh3⟩:=I2.advance r tr' recs hcov2
  exact ih _ _ a' w' tr3 rem3 recs3 _ H' clk' K' M' I3 hcov3 hh3 hsz' R' (hd'.trans hd) hcnt
theorem Rel.drawn {st:St}{tmps:Array Value}(R:Rel fr nt st K M tmps w)(n:Nat):Rel fr nt st K M tmps { w with drawn:=n }:=by
 have hK:∀ b,K b→({ w with drawn:=n }:World).heap[b]?=w.heap[b]?∧K b:=fun b hb=>⟨rfl,hb⟩
 exact { R with
  env:=fun k=>cv hK (Nat.le_refl _) (.refl _ _ _) _ _ (R.env k)
  heap:=⟨fun id ver b hg=>⟨(R.heap.blk id ver b hg).1,gM hK (Nat.le_refl _) (.refl _ _ _) b _ (fun _ _=>rfl) (R.heap.blk id ver b hg).2⟩,R.heap.nodup,R.heap.disj,R.heap.apart,R.heap.low⟩ }
theorem FH (hT:∀ t,TyOk P t (T t))(hd:qt ops h=true){st:St}(R:Rel fr nt st K M a.tmps w){Qx:Exit→Act→World→Prop}{id:Nat}
  (hQ:∀ a' w',At fr nt a.defers Q a' w'→Qx .normal a' w') (hp:bb P md T nt ops h.order [] st Q):(Code.region id ops true).wp P Qx a w:=by
 obtain⟨env0,H,clk⟩:=st
 have hE:=fun l=>CT hd l
 have hord:hM ops h [] h.order=true:=by
  unfold qt at hd
  simp only[Bool.and_eq_true]at hd
  exact hd.1.1
 have hcov0:du ops h [] h.order=true:=by
  unfold qt at hd
  simp only[Bool.and_eq_true]at hd
  exact hd.1.2
 have hoff:∀ j,¬ isOn (Array.replicate ops.size false) j:=by
  intro j hj
  unfold isOn at hj
  by_cases hlt:j<ops.size
  ·simp[hlt]at hj
  simp[hlt]at hj
 have I0:Inv0 P md T nt ops h Q env0 [] h.order [] (Array.replicate ops.size false) env0 H clk:=
  { opsj:=by simp,pair:=.nil,envs:=by simp,ord:=hord,lst:=fun j hj=>absurd hj (hoff j),effs:=by simp,look1:=by simp,look2:=fun _ _=>rfl,cur:=by simp,recsOk:=by simp,closed:=fun j _ hj=>absurd hj (hoff j),nts:=by simp,edg:=hE _,pend:=hp }
 obtain⟨tr,rem,recs,I,hcov,hh⟩:=I0.advance h.order [] [] hcov0
 have hcnt:∀ l:List Nat,cnt (Array.replicate ops.size false) l≤l.length:=by
  intro l
  induction l with
  | nil=>simp[cnt]
  | cons k l ih=>simp only[cnt,List.length_cons];split <;> omega
 have all:∀ (mo:Region.Mode),wpAny P mo ops Qx ops.size (Array.replicate ops.size false) a { w with drawn:=w.drawn+1 }:=by
  intro mo
  refine EG (rk:=match mo with | .gc=>fun j=>h.rank.getD j 0|_=>fun j=>j) hT ?_ a.defers hQ _ h _ _ _ tr rem recs env0 H clk K M I hcov hh (by simp) (R.drawn _) rfl (by have:=hcnt (List.range ops.size);simpa using this)
  intro j o ho e he hb
  obtain⟨h1,h2,h3⟩:=(hE (Array.replicate ops.size false) j o ho).1 e he
  refine⟨h1,?_⟩
  cases mo with
  | text=>exact h2 hb
  | gc=>exact h3 hb
  | any=>exact h2 (qv hb)
 refine wp_region_draw fun t=>?_
 unfold Region.schedule
 split
 ·exact wpAny_sound _ _ _ _ _ (all .any)
 exact wpAny_sound _ _ _ _ _ (all _)
end
end Go.Proofs.Qr
