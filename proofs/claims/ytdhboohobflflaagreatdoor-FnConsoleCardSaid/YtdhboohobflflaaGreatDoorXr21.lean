/- Regions whose order is drawn: every order comes to what the one that is walked comes to. Own work. -/
import Derived.Test.YtdhboohobflflaaGreatDoorXr19
set_option linter.all false
namespace Go.Proofs.Qr
structure TI where
 j:Nat
 o:Oper
 env:Env
 av:AV
 keep:Bool
 w:Bool
def putE (dst:Option Nat)(av:AV)(env:Env):Env:=match dst with|some d=>(d,av)::env|none=>env
def bR (env0:Env):List TI→Env
 | []=>env0
 | it::r=>putE it.o.dst it.av (bR env0 r)
def qu (ops:Array Oper)(env:Env)(o:Oper):Prop:=match o.guard with|none=>True|some (g,want)=>gval ops env g=some (some want)
def sr (ops:Array Oper)(env:Env)(o:Oper):Prop:=match o.guard with|none=>False|some (g,want)=>∃ b,gval ops env g=some b∧b≠some want
def GI (T:Nat→Ty)(ops:Array Oper)(H:Hp)(clk:Nat)(env:Env)(it:TI):Prop:=
 (it.w=true∧qu ops env it.o∧ct T env H clk it.o=some (it.av,H,clk))∨(it.w=false∧sr ops env it.o∧it.av=.lit undef)
def PR (ops:Array Oper)(h:DH)(it x:TI):Prop:=
 x.j≠it.j∧(ba x.o.op=true→x.j∈cu h it.j)∧(∀ d,x.o.dst=some d→it.o.dst≠some d)∧(∀ d,x.o.dst=some d→d∈it.o.looksAt ops→x.j∈cu h it.j)∧(∀ d,it.o.dst=some d→d∈x.o.looksAt ops→x.j∈cu h it.j)
def isOn (listed:Array Bool)(j:Nat):Prop:=listed.getD j false=true
def iT (ops:Array Oper)(h:DH)(listed:Array Bool):Prop:=∀ j o,ops[j]?=some o →
 (∀ e,e∈o.after→e.on<ops.size∧(Region.binds .text e=true→e.on<j)∧(Region.binds .gc e=true→h.rank.getD e.on 0<h.rank.getD j 0)) ∧
 ∀ i,i∈cu h j→isOn listed i∨∃ e,e∈o.after∧Region.binds .any e=true∧(e.on=i∨i∈cu h e.on)
theorem EB {h:DH}{e i j:Nat}(hi:i∈cu (h.ext e) j):i=e∨i∈cu h j:=by
 unfold cu DH.ext at hi
 unfold cu
 simp only[List.getD_eq_getElem?_getD,List.getElem?_map]at hi ⊢
 cases hj:h.anc[j]? with
 | none=>rw[hj]at hi;simp at hi
 | some l=>rw[hj]at hi;simpa using hi
theorem kZ {h:DH}{e i j:Nat}(hi:i∈cu h j):i∈cu (h.ext e) j:=by
 unfold cu at hi
 unfold cu DH.ext
 simp only[List.getD_eq_getElem?_getD,List.getElem?_map]at hi ⊢
 cases hj:h.anc[j]? with
 | none=>rw[hj]at hi;simp at hi
 | some l=>rw[hj]at hi;simp only[Option.map_some,Option.getD_some]at hi ⊢;exact List.mem_cons_of_mem _ hi
theorem iT.mono {ops:Array Oper}{h:DH}{l l':Array Bool}(hE:iT ops h l)(hl:∀ j,isOn l j→isOn l' j):iT ops h l':=by
 intro j o ho
 obtain⟨h1,h2⟩:=hE j o ho
 exact⟨h1,fun i hi=>(h2 i hi).imp (hl i) id⟩
theorem iT.ext {ops:Array Oper}{h:DH}{l:Array Bool}{e:Nat}(hE:iT ops h l)(he:isOn l e):iT ops (h.ext e) l:=by
 intro j o ho
 obtain⟨h1,h2⟩:=hE j o ho
 refine⟨h1,fun i hi=>?_⟩
 rcases EB hi with rfl|hi
 ·exact .inl he
 rcases h2 i hi with h3|⟨e',h3,h4,h5⟩
 ·exact .inl h3
 exact .inr ⟨e',h3,h4,h5.imp id kZ⟩
theorem PR.ext {ops:Array Oper}{h:DH}{e:Nat}{it x:TI}(hp:PR ops h it x):PR ops (h.ext e) it x:=
 ⟨hp.1,fun a=>kZ (hp.2.1 a),hp.2.2.1,fun d a b=>kZ (hp.2.2.2.1 d a b),fun d a b=>kZ (hp.2.2.2.2 d a b)⟩
section
variable {P:Program} {fr:Fr} {nt:Nat} {env env' env0:Env} {H:Hp} {clk:Nat} {K:Nat→Prop} {M:Nat→Cb} {w:World} {T:Nat→Ty} {md:Nat→List AV→Md} {a:Act} {ops:Array Oper} {h:DH}
theorem mF (dst:Option Nat)(av:AV)(env:Env)(s:Nat):look (putE dst av env) s=if dst=some s then av else look env s:=by
 unfold putE
 cases dst with
 | none=>simp
 | some d=>simp[im]
theorem pP {dst:Option Nat}{Q:St→Prop}{av:AV}(hh:putK nt dst env Q av H clk):(∀ x,dst=some x→x<nt)∧Q ⟨putE dst av env,H,clk⟩:=by
 unfold putK at hh
 cases dst with
 | none=>exact⟨fun _ h=>(by cases h),hh⟩
 | some d=>
  simp only at hh
  split at hh
  ·rename_i hlt
   exact⟨fun y hy=>(by cases hy;exact hlt),hh⟩
  exact hh.elim
theorem wY (s:Nat):∀ (tr:List TI),(∃ x,x∈tr∧x.o.dst=some s∧look (bR env0 tr) s=x.av)∨((∀ x,x∈tr→x.o.dst≠some s)∧look (bR env0 tr) s=look env0 s)
 | []=>.inr ⟨by simp,rfl⟩
 | it::r=>by
  simp only[bR,mF]
  by_cases hs:it.o.dst=some s
  ·rw[if_pos hs]
   exact .inl ⟨it,by simp,hs,rfl⟩
  rw[if_neg hs]
  obtain⟨x,hx,h1,h2⟩|⟨h1,h2⟩:=wY s r
  ·exact .inl ⟨x,by simp[hx],h1,h2⟩
  refine .inr ⟨fun x hx=>?_,h2⟩
  rcases List.mem_cons.1 hx with rfl|hx
  ·exact hs
  exact h1 x hx
theorem FF {it:TI}(ha:∀ t,t∈it.o.looksAt ops→look env t=look env' t)(hg:GI T ops H clk env' it):GI T ops H clk env it:=by
 unfold GI at hg ⊢
 have hgv:∀ g want,it.o.guard=some (g,want)→gval ops env g=gval ops env' g:=fun g want hgd=>wX hgd ha
 obtain⟨h1,h2,h3⟩|⟨h1,h2,h3⟩:=hg
 ·refine .inl ⟨h1,?_,by rw[vp T H clk it.o (wW ha)];exact h3⟩
  unfold qu at h2 ⊢
  split
  ·trivial
  rename_i g want hgd
  rw[hgd]at h2
  rw[hgv g want hgd]
  exact h2
 refine .inr ⟨h1,?_,h3⟩
 unfold sr at h2 ⊢
 split
 ·rename_i hgd
  rw[hgd]at h2
  exact h2
 rename_i g want hgd
 rw[hgd]at h2
 rw[hgv g want hgd]
 exact h2
theorem IZ {it:TI}(hnt:∀ d,it.o.dst=some d→d<nt)(hg:GI T ops H clk env it):aop P md T nt ops ⟨env,H,clk⟩ it.o (fun st'=>st'=⟨putE it.o.dst it.av env,H,clk⟩):=by
 have hput:putK nt it.o.dst env (fun st'=>st'=⟨putE it.o.dst it.av env,H,clk⟩) it.av H clk:=by
  unfold putK putE
  cases hd:it.o.dst with
  | none=>rfl
  | some d=>simp only;rw[if_pos (hnt d hd)];trivial
 unfold GI at hg
 unfold aop
 obtain⟨h1,h2,h3⟩|⟨h1,h2,h3⟩:=hg
 ·have hs:qQ P md T nt ⟨env,H,clk⟩ it.o (fun st'=>st'=⟨putE it.o.dst it.av env,H,clk⟩):=by
   unfold qQ outK
   simp only[h3]
   exact hput
  unfold qu at h2
  split
  ·exact hs
  rename_i g want hgd
  rw[hgd]at h2
  simp only at h2
  simp only[h2]
  exact eh.2 ⟨fun _=>hs,fun hne=>absurd rfl hne⟩
 unfold sr at h2
 split
 ·rename_i hgd
  rw[hgd]at h2
  exact h2.elim
 rename_i g want hgd
 rw[hgd]at h2
 obtain⟨b,hb,hne⟩:=h2
 simp only[hb]
 refine eh.2 ⟨fun he=>absurd he hne,fun _=>?_⟩
 rw[← h3]
 exact hput
structure Inv0 (P:Program) (md:Nat→List AV→Md) (T:Nat→Ty) (nt:Nat) (ops:Array Oper) (h:DH) (Q:St→Prop) (env0:Env) (tr:List TI) (rem:DT) (recs:List Rec) (listed:Array Bool) (E:Env) (H:Hp) (clk:Nat):Prop where
 opsj:∀ it,it∈tr→ops[it.j]?=some it.o
 pair:tr.Pairwise (PR ops h)
 envs:∀ T1 it T2,tr=T1++it::T2→it.env=bR env0 T2
 ord:hM ops h (tr.map (fun it=>(it.j,it.keep))) rem=true
 lst:∀ j,isOn listed j→∃ it,it∈tr∧it.j=j
 effs:∀ it,it∈tr→ba it.o.op=true→isOn listed it.j
 look1:∀ it s,it∈tr→isOn listed it.j→it.o.dst=some s→look E s=it.av
 look2:∀ s,(∀ it,it∈tr→isOn listed it.j→it.o.dst≠some s)→look E s=look env0 s
 cur:∀ it,it∈tr→¬ isOn listed it.j→GI T ops H clk it.env it
 recsOk:∀ it,it∈tr→it.keep=true→ba it.o.op=false→∃ r,lX it.j recs=some r∧r.o=it.o∧r.env=it.env∧r.wanted=it.w∧(it.w=true→r.av=it.av)
 closed:∀ j o,isOn listed j→ops[j]?=some o→∀ e,e∈o.after→Region.binds .any e=true→isOn listed e.on
 nts:∀ it,it∈tr→∀ d,it.o.dst=some d→d<nt
 edg:iT ops h listed
 pend:bb P md T nt ops rem recs ⟨bR env0 tr,H,clk⟩ Q
theorem jM {anc:List Nat}{d:pN}{o:Oper}:∀ {done:List (Nat × Bool)},sp ops anc d o done=true→∀ i kp,(i,kp)∈done→i≠d.j∧∃ oi,ops[i]?=some oi ∧
  (ba oi.op=true→i∈anc)∧(∀ x,oi.dst=some x→o.dst≠some x)∧(∀ x,oi.dst=some x→x∈o.looksAt ops→i∈anc)∧(∀ x,o.dst=some x→x∈oi.looksAt ops→i∈anc) ∧
  (ba o.op=true→ba oi.op=true∨kV oi.op=false∨i∈anc∨(kp=true∧i∈d.chk))
 | [],_,_,_,hm=>by simp at hm
 | (i',kp')::done,hh,i,kp,hm=>by
  simp only[sp,Bool.and_eq_true]at hh
  obtain⟨⟨h1,h2⟩,h3⟩:=hh
  rcases List.mem_cons.1 hm with hm|hm
  ·cases hm
   split at h2
   ·rename_i oi hoi
    simp only[Bool.and_eq_true,Bool.or_eq_true,Bool.not_eq_true',List.contains_eq_mem,decide_eq_true_eq]at h2
    obtain⟨⟨⟨⟨h4,h5⟩,h6⟩,h7⟩,h8⟩:=h2
    refine⟨by simpa using h1,oi,hoi,?_,?_,?_,?_,?_⟩
    ·intro he
     rcases h4 with h4|h4
     ·rw[he]at h4;cases h4
     exact h4
    ·intro x hx hx'
     unfold GS at h5
     rw[hx,hx']at h5
     simp at h5
    ·intro x hx hl
     unfold AD at h6
     rw[hx]at h6
     rcases h6 with h6|h6
     ·simp at h6;exact absurd hl h6
     exact h6
    ·intro x hx hl
     unfold AD at h7
     rw[hx]at h7
     rcases h7 with h7|h7
     ·simp at h7;exact absurd hl h7
     exact h7
    intro he
    rcases h8 with (((h8|h8)|h8)|h8)|h8
    ·rw[he]at h8;cases h8
    ·exact .inl h8
    ·exact .inr (.inl h8)
    ·exact .inr (.inr (.inl h8))
    exact .inr (.inr (.inr h8))
   cases h2
  exact jM h3 i kp hm
theorem CT (hd:qt ops h=true)(listed:Array Bool):iT ops h listed:=by
 intro j o ho
 unfold qt at hd
 simp only[Bool.and_eq_true]at hd
 have hlt:j<ops.size:=(Array.getElem?_eq_some_iff.1 ho).1
 have:=List.all_eq_true.1 hd.2 j (List.mem_range.2 hlt)
 simp only[ho]at this
 unfold CA at this
 simp only[Bool.and_eq_true]at this
 refine⟨fun e he=>?_,fun i hi=>?_⟩
 ·have h1:=Array.all_eq_true_iff_forall_mem.1 this.1 e he
  simp only[Bool.and_eq_true,Bool.or_eq_true,Bool.not_eq_true',Nat.blt_eq]at h1
  obtain⟨⟨h2,h3⟩,h4⟩:=h1
  refine⟨h2,fun hb=>?_,fun hb=>?_⟩
  ·rcases h3 with h3|h3
   ·rw[hb]at h3;cases h3
   exact h3
  rcases h4 with h4|h4
  ·rw[hb]at h4;cases h4
  exact h4
 have h1:=List.all_eq_true.1 this.2 i hi
 obtain⟨e,he,hb⟩:=Array.any_eq_true'.1 h1
 simp only[Bool.and_eq_true,Bool.or_eq_true,beq_iff_eq,List.contains_eq_mem,decide_eq_true_eq]at hb
 exact .inr ⟨e,he,hb.1,hb.2⟩
theorem qv {e:Edge}(h:Region.binds .any e=true):Region.binds .text e=true:=by
 unfold Region.binds at h ⊢
 split at h <;> simp_all
theorem Bd {md:Region.Mode}{e:Edge}(h:Region.binds .any e=true):Region.binds md e=true:=by
 cases md <;> unfold Region.binds at h ⊢ <;> split at h <;> simp_all
theorem su {listed:Array Bool}(hE:iT ops h listed)(hc:∀ j o,isOn listed j→ops[j]?=some o→∀ e,e∈o.after→Region.binds .any e=true→isOn listed e.on) :
  ∀ (n j:Nat) (o:Oper),j<n→ops[j]?=some o→(∀ e,e∈o.after→Region.binds .any e=true→isOn listed e.on)→∀ i,i∈cu h j→isOn listed i:=by
 intro n
 induction n with
 | zero=>intro j o hj;omega
 | succ n ih=>
  intro j o hj ho hon i hi
  obtain⟨he1,he2⟩:=hE j o ho
  rcases he2 i hi with hl|⟨e,hm,hb,hd⟩
  ·exact hl
  have hone:=hon e hm hb
  rcases hd with rfl|hd
  ·exact hone
  obtain⟨hlt,htx,_⟩:=he1 e hm
  have hlt2:=htx (qv hb)
  have hoe:ops[e.on]?=some ops[e.on]:=Array.getElem?_eq_getElem hlt
  exact ih e.on _ (by omega) hoe (fun e' he' hb'=>hc e.on _ hone hoe e' he' hb') i hd
section inv
variable {Q:St→Prop} {d:pN} {tr:List TI} {rem:DT} {recs:List Rec} {listed:Array Bool} {E:Env}
theorem Inv0.agree (I:Inv0 P md T nt ops h Q env0 tr rem recs listed E H clk)(s:Nat)(T1 T2:List TI)(htr:tr=T1++T2)
  (hA:∀ x,x∈T2→x.o.dst=some s→isOn listed x.j) (hB:∀ x,x∈T1→x.o.dst=some s→¬ isOn listed x.j):look E s=look (bR env0 T2) s:=by
 obtain⟨x,hx,h1,h2⟩|⟨h1,h2⟩:=wY (env0:=env0) s T2
 ·rw[h2]
  exact I.look1 x s (by rw[htr];simp[hx]) (hA x hx h1) h1
 rw[h2]
 refine I.look2 s (fun it hit hon hd=>?_)
 rw[htr]at hit
 rcases List.mem_append.1 hit with hit|hit
 ·exact hB it hit hd hon
 exact h1 it hit hd
theorem Inv0.same (I:Inv0 P md T nt ops h Q env0 tr rem recs listed E H clk){x y:TI}(hx:x∈tr)(hy:y∈tr)(hj:x.j=y.j):x=y:=by
 obtain⟨T1,T2,rfl⟩:=List.append_of_mem hx
 have hp:=I.pair
 rw[List.pairwise_append]at hp
 obtain⟨_,h2,h3⟩:=hp
 rw[List.pairwise_cons]at h2
 rcases List.mem_append.1 hy with hy|hy
 ·exact absurd hj (h3 y hy x (by simp)).1
 rcases List.mem_cons.1 hy with rfl|hy
 ·rfl
 exact absurd hj.symm (h2.1 y hy).1
theorem Inv0.dsts (I:Inv0 P md T nt ops h Q env0 tr rem recs listed E H clk){x y:TI}(hx:x∈tr)(hy:y∈tr)(hj:x.j≠y.j){d:Nat}(hd:x.o.dst=some d):y.o.dst≠some d:=by
 obtain⟨T1,T2,rfl⟩:=List.append_of_mem hx
 have hp:=I.pair
 rw[List.pairwise_append]at hp
 obtain⟨_,h2,h3⟩:=hp
 rw[List.pairwise_cons]at h2
 rcases List.mem_append.1 hy with hy|hy
 ·exact(h3 y hy x (by simp)).2.2.1 d hd
 rcases List.mem_cons.1 hy with rfl|hy
 ·exact absurd rfl hj
 intro hd'
 exact(h2.1 y hy).2.2.1 d hd' hd
theorem bh {i j:Nat}:isOn (listed.setIfInBounds i true) j↔(isOn listed j∨(i=j∧i<listed.size)):=by
 unfold isOn
 by_cases hij:i=j
 ·subst hij
  by_cases hlt:i<listed.size
  ·simp[hlt]
  simp[hlt]
 rw[getD_set_ne false hij]
 simp[hij]
theorem Inv0.stepPure (I:Inv0 P md T nt ops h Q env0 tr rem recs listed E H clk)(hsz:listed.size=ops.size){it:TI}(hit:it∈tr)(hun:¬ isOn listed it.j)
  (hon:∀ e,e∈it.o.after→Region.binds .any e=true→isOn listed e.on) :
  Inv0 P md T nt ops h Q env0 tr rem recs (listed.setIfInBounds it.j true) (putE it.o.dst it.av E) H clk:=by
 have hlt:it.j<listed.size:=by rw[hsz];exact(Array.getElem?_eq_some_iff.1 (I.opsj it hit)).1
 refine { I with lst:=?_,effs:=?_,look1:=?_,look2:=?_,cur:=?_,closed:=?_,edg:=I.edg.mono (fun j hj=>bh.2 (.inl hj)) }
 ·intro j hj
  rcases bh.1 hj with hj|⟨rfl,_⟩
  ·exact I.lst j hj
  exact⟨it,hit,rfl⟩
 ·intro x hx he
  exact bh.2 (.inl (I.effs x hx he))
 ·intro x s hx hox hd
  rw[mF]
  by_cases hj:x.j=it.j
  ·have:=I.same hx hit hj
   subst this
   rw[if_pos hd]
  rw[if_neg (I.dsts hx hit hj hd)]
  rcases bh.1 hox with hox|⟨h1,_⟩
  ·exact I.look1 x s hx hox hd
  exact absurd h1.symm hj
 ·intro s hs
  rw[mF,if_neg (hs it hit (bh.2 (.inr ⟨rfl,hlt⟩)))]
  exact I.look2 s (fun x hx hox=>hs x hx (bh.2 (.inl hox)))
 ·intro x hx hox
  exact I.cur x hx (fun ho=>hox (bh.2 (.inl ho)))
 intro j o hj ho e he hb
 rcases bh.1 hj with hj|⟨rfl,_⟩
 ·exact bh.2 (.inl (I.closed j o hj ho e he hb))
 rw[I.opsj it hit]at ho
 cases ho
 exact bh.2 (.inl (hon e he hb))
theorem Inv0.giNow (I:Inv0 P md T nt ops h Q env0 tr rem recs listed E H clk){it:TI}(hit:it∈tr)(hun:¬ isOn listed it.j)
  (hon:∀ e,e∈it.o.after→Region.binds .any e=true→isOn listed e.on):GI T ops H clk E it:=by
 have hanc:=su I.edg I.closed (it.j+1) it.j it.o (by omega) (I.opsj it hit) hon
 refine FF ?_ (I.cur it hit hun)
 intro t ht
 obtain⟨T1,T2,htr⟩:=List.append_of_mem hit
 rw[I.envs T1 it T2 htr]
 have hp:=I.pair
 rw[htr,List.pairwise_append]at hp
 obtain⟨_,h2,h3⟩:=hp
 rw[List.pairwise_cons]at h2
 refine I.agree t (T1++[it]) T2 (by rw[htr];simp) (fun x hx hd=>?_) (fun x hx hd=>?_)
 ·exact hanc x.j ((h2.1 x hx).2.2.2.1 t hd ht)
 rcases List.mem_append.1 hx with hx|hx
 ·have hj:=(h3 x hx it (by simp)).2.2.2.2 t hd ht
  intro hox
  have hmem:x∈tr:=by rw[htr];simp[hx]
  exact hun (su I.edg I.closed (x.j+1) x.j x.o (by omega) (I.opsj x hmem) (fun e he hb=>I.closed x.j x.o hox (I.opsj x hmem) e he hb) _ hj)
 simp at hx
 subst hx
 exact hun
theorem Inv0.headAgree (I:Inv0 P md T nt ops h Q env0 tr rem recs listed E H clk){j:Nat}{o:Oper}(ho:ops[j]?=some o)
  (hon:∀ e,e∈o.after→Region.binds .any e=true→isOn listed e.on) (hpr:∀ x,x∈tr→∀ d,x.o.dst=some d→d∈o.looksAt ops→x.j∈cu h j) :
  ∀ t,t∈o.looksAt ops→look E t=look (bR env0 tr) t:=by
 intro t ht
 have hanc:=su I.edg I.closed (j+1) j o (by omega) ho hon
 exact I.agree t [] tr rfl (fun x hx hd=>hanc x.j (hpr x hx t hd ht)) (by simp)
theorem ow {done:List (Nat × Bool)}{d:pN}(ho:hM ops h done (.cons d rem)=true):∃ o,ops[d.j]?=some o∧sp ops (cu h d.j) d o done=true ∧
  (ba o.op=true→du ops (h.ext d.j) ((d.j,d.keep)::done) rem=true∧hM ops (h.ext d.j) ((d.j,d.keep)::done) rem=true) ∧
  (ba o.op=false→du ops h ((d.j,d.keep)::done) rem=true∧hM ops h ((d.j,d.keep)::done) rem=true):=by
 simp only[hM]at ho
 split at ho
 ·rename_i o hop
  simp only[Bool.and_eq_true]at ho
  obtain⟨⟨_,h1⟩,h2⟩:=ho
  refine⟨o,hop,h1,fun he=>?_,fun he=>?_⟩
  ·rw[he]at h2
   simpa only [Bool.and_eq_true] using h2
  rw[he]at h2
  simpa only [Bool.and_eq_true] using h2
 cases ho
theorem Inv0.push (I:Inv0 P md T nt ops h Q env0 tr (.cons d rem) recs listed E H clk){o:Oper}(ho:ops[d.j]?=some o)(hun:¬ isOn listed d.j){av:AV}{wt:Bool}{recs':List Rec}
  (hpure:ba o.op=false) (hgi:GI T ops H clk (bR env0 tr) ⟨d.j,o,bR env0 tr,av,d.keep,wt⟩)
  (hrec:recs'=(match d.keep with|true=>⟨d.j,o,bR env0 tr,if wt then av else .dead,wt⟩::recs|false=>recs))
  (hnt:∀ x,o.dst=some x→x<nt)
  (hp:bb P md T nt ops rem recs' ⟨putE o.dst av (bR env0 tr),H,clk⟩ Q) :
  Inv0 P md T nt ops h Q env0 (⟨d.j,o,bR env0 tr,av,d.keep,wt⟩::tr) rem recs' listed E H clk:=by
 obtain⟨o',ho',hit,_,hordF⟩:=ow I.ord
 rw[ho]at ho'
 cases ho'
 have hord:=(hordF hpure).2
 have hspec:∀ x,x∈tr→PR ops h ⟨d.j,o,bR env0 tr,av,d.keep,wt⟩ x:=by
  intro x hx
  obtain⟨h1,oi,h2,h3,h4,h5,h6,h7⟩:=jM hit x.j x.keep (List.mem_map.2 ⟨x,hx,rfl⟩)
  rw[I.opsj x hx]at h2
  cases h2
  exact⟨h1,h3,h4,h5,h6⟩
 refine { opsj:=?_,pair:=?_,envs:=?_,ord:=hord,lst:=?_,effs:=?_,look1:=?_,look2:=?_,cur:=?_,recsOk:=?_,closed:=I.closed,nts:=?_,edg:=I.edg,pend:=hp }
 ·intro x hx
  rcases List.mem_cons.1 hx with rfl|hx
  ·exact ho
  exact I.opsj x hx
 ·exact List.pairwise_cons.2 ⟨hspec,I.pair⟩
 ·intro T1 x T2 htr
  cases T1 with
  | nil=>
   simp only[List.nil_append,List.cons.injEq]at htr
   obtain⟨rfl,rfl⟩:=htr
   rfl
  | cons y T1=>
   simp only[List.cons_append,List.cons.injEq]at htr
   exact I.envs T1 x T2 htr.2
 ·intro j hj
  obtain⟨x,hx,h1⟩:=I.lst j hj
  exact⟨x,by simp[hx],h1⟩
 ·intro x hx he
  rcases List.mem_cons.1 hx with rfl|hx
  ·rw[hpure]at he;cases he
  exact I.effs x hx he
 ·intro x s hx hox hd
  rcases List.mem_cons.1 hx with rfl|hx
  ·exact absurd hox hun
  exact I.look1 x s hx hox hd
 ·intro s hs
  exact I.look2 s (fun x hx hox=>hs x (by simp[hx]) hox)
 ·intro x hx hox
  rcases List.mem_cons.1 hx with rfl|hx
  ·exact hgi
  exact I.cur x hx hox
 ·intro x hx hk hef
  rcases List.mem_cons.1 hx with rfl|hx
  ·simp only at hk
   rw[hrec,hk]
   refine⟨_,by simp only[lX,if_true];rfl,rfl,rfl,rfl,?_⟩
   intro hw
   simp only at hw
   simp[hw]
  obtain⟨r,h1,h2⟩:=I.recsOk x hx hk hef
  refine⟨r,?_,h2⟩
  rw[hrec]
  cases d.keep with
  | false=>exact h1
  | true=>
   simp only[lX]
   rw[if_neg (fun he=>(hspec x hx).1 he.symm)]
   exact h1
 intro x hx
 rcases List.mem_cons.1 hx with rfl|hx
 ·exact hnt
 exact I.nts x hx
theorem Inv0.advance (rem:DT)(tr:List TI)(recs:List Rec)(I:Inv0 P md T nt ops h Q env0 tr rem recs listed E H clk)(hcov:du ops h (tr.map (fun it=>(it.j,it.keep))) rem=true) :
  ∃ tr' rem' recs',Inv0 P md T nt ops h Q env0 tr' rem' recs' listed E H clk∧du ops h (tr'.map (fun it=>(it.j,it.keep))) rem'=true∧(rem'=.nil∨ei ops rem'=true):=by
 induction rem generalizing tr recs with
 | nil=>exact⟨tr,.nil,recs,I,hcov,.inl rfl⟩
 | fork a b _ _=>
  refine⟨tr,.fork a b,recs,I,hcov,.inr ?_⟩
  have:=I.ord
  simp only[hM,Bool.and_eq_true]at this
  simp only[ei,Bool.and_eq_true]
  exact this.1.1
 | cons d rem ih=>
  obtain⟨o,ho,hit,hordT,hordF⟩:=ow I.ord
  cases hef:ba o.op with
  | true=>exact⟨tr,.cons d rem,recs,I,hcov,.inr (by simp only[ei,CQ,ho];exact hef)⟩
  | false=>
   have hcov':=(hordF hef).1
   have hun:¬ isOn listed d.j:=by
    intro hon
    obtain⟨x,hx,h1⟩:=I.lst d.j hon
    exact(jM hit x.j x.keep (List.mem_map.2 ⟨x,hx,rfl⟩)).1 h1
   have hp:=I.pend
   simp only[bb,ho,hef]at hp
   have hyes:qu ops (bR env0 tr) o→(match ct T (bR env0 tr) H clk o with
     | some (av,H',clk')=>putK nt o.dst (bR env0 tr) (fun st'=>bb P md T nt ops rem (match d.keep with|true=>⟨d.j,o,bR env0 tr,av,true⟩::recs|false=>recs) st' Q) av H' clk'
     | none=>False)→∃ tr' rem' recs',Inv0 P md T nt ops h Q env0 tr' rem' recs' listed E H clk∧du ops h (tr'.map (fun it=>(it.j,it.keep))) rem'=true∧(rem'=.nil∨ei ops rem'=true):=by
    intro hg hh
    split at hh
    ·rename_i av H' clk' hev
     obtain⟨rfl,rfl⟩:=BY hef hev
     have hpk:=pP hh
     exact ih _ _ (I.push ho hun hef (.inl ⟨rfl,hg,hev⟩) (by simp) hpk.1 hpk.2) hcov'
    exact hh.elim
   have hno:sr ops (bR env0 tr) o→putK nt o.dst (bR env0 tr) (fun st'=>bb P md T nt ops rem (match d.keep with|true=>⟨d.j,o,bR env0 tr,.dead,false⟩::recs|false=>recs) st' Q) (.lit undef) H clk →
     ∃ tr' rem' recs',Inv0 P md T nt ops h Q env0 tr' rem' recs' listed E H clk∧du ops h (tr'.map (fun it=>(it.j,it.keep))) rem'=true∧(rem'=.nil∨ei ops rem'=true):=by
    intro hg hh
    have hpk:=pP hh
    exact ih _ _ (I.push ho hun hef (.inr ⟨rfl,hg,rfl⟩) (by simp) hpk.1 hpk.2) hcov'
   unfold jL at hp
   split at hp
   ·rename_i hgd
    exact hyes (by unfold qu;rw[hgd];trivial) hp
   rename_i g want hgd
   split at hp
   ·rename_i b hb
    by_cases hbw:b=some want
    ·exact hyes (by unfold qu;rw[hgd];simp only;rw[hb,hbw]) ((eh.1 hp).1 hbw)
    exact hno (by unfold sr;rw[hgd];simp only;exact⟨b,hb,hbw⟩) ((eh.1 hp).2 hbw)
   exact hp.elim
theorem Inv0.pick (rem:DT)(I:Inv0 P md T nt ops h Q env0 tr rem recs listed E H clk)(hst:ei ops rem=true){j:Nat}(hj:j∈kW rem) :
  ∃ d r o,Inv0 P md T nt ops h Q env0 tr (.cons d r) recs listed E H clk∧d.j=j∧ops[d.j]?=some o∧ba o.op=true:=by
 induction rem with
 | nil=>simp[ei]at hst
 | cons d r _=>
  simp only[kW,List.mem_singleton]at hj
  subst hj
  simp only[ei,CQ]at hst
  split at hst
  ·rename_i o ho
   exact⟨d,r,o,I,rfl,ho,hst⟩
  cases hst
 | fork a b iha ihb=>
  simp only[ei,Bool.and_eq_true]at hst
  have hord:=I.ord
  simp only[hM,Bool.and_eq_true]at hord
  have hp:=I.pend
  simp only[bb]at hp
  simp only[kW,List.mem_append]at hj
  rcases hj with hj|hj
  ·exact iha { I with ord:=hord.1.2,pend:=hp.1 } hst.1 hj
  exact ihb { I with ord:=hord.2,pend:=hp.2 } hst.2 hj
theorem FG (rem:DT)(hst:ei ops rem=true):∃ j,j∈kW rem:=by
 induction rem with
 | nil=>simp[ei]at hst
 | cons d r _=>exact⟨d.j,by simp[kW]⟩
 | fork a b iha _=>
  simp only[ei,Bool.and_eq_true]at hst
  obtain⟨j,hj⟩:=iha hst.1
  exact⟨j,by simp[kW,hj]⟩
theorem Inv0.head_new {r:DT}(I:Inv0 P md T nt ops h Q env0 tr (.cons d r) recs listed E H clk):∀ x,x∈tr→x.j≠d.j:=by
 obtain⟨o',ho',hit,_⟩:=ow I.ord
 exact fun x hx=>(jM hit x.j x.keep (List.mem_map.2 ⟨x,hx,rfl⟩)).1
end inv
end
end Go.Proofs.Qr
