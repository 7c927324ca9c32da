/- The walk of a body is sound;a contract out of a body. Own work. -/
import Derived.Test.YtdhboohobflflaaGreatDoorXr20
import Derived.Deep.LoopGhost
set_option linter.all false
namespace Go.Proofs.Qr
def fg (hi:Hint):Code→Bool
 | .region id ops draw=>!draw || qt ops (hi.draws id)
 | .seq x y=>fg hi x&&fg hi y
 | .cond _ x y=>fg hi x&&fg hi y
 | .block _ x=>fg hi x
 | .loop x=>fg hi x
 | _=>true
section
variable {P:Program} {fr:Fr} {nt:Nat} {md:Nat→List AV→Md} {T:Nat→Ty} {hi:Hint}
theorem FI (hT:∀ t,TyOk P t (T t))(ds:List Deferred):∀ (c:Code) (st:St) (K:Nat→Prop) (M:Nat→Cb) (a:Act) (w:World) (Q:Exit→St→Prop) (Qx:Exit→Act→World→Prop),
  fg hi c=true→Rel fr nt st K M a.tmps w→a.defers=ds→(∀ e a' w',At fr nt ds (Q e) a' w'→Qx e a' w')→bp P md T nt hi c st Q→c.wp P Qx a w:=by
 intro c
 induction c with
 | skip=>
  intro st K M a w Q Qx _ R hd hQ h
  exact wp_skip (hQ .normal a w ⟨st,K,M,R,hd,h⟩)
 | region id ops draw=>
  intro st K M a w Q Qx hc R hd hQ h
  simp only[bp,ky]at h
  split at h
  ·rename_i st' hst
   obtain⟨K',M',R'⟩:=pM R hst
   cases draw with
   | true=>
    simp only[fg,Bool.not_true,Bool.false_or]at hc
    exact FH hT hc R' (fun a' w' hA=>hQ .normal a' w' (by rw[← hd];exact hA)) h
   | false=>
    simp only at h
    exact wp_region_list (Cz hT ds (hQ .normal) _ st' K' M' a w R' hd h)
  exact h.elim
 | seq x y ihx ihy=>
  intro st K M a w Q Qx hc R hd hQ h
  simp only[fg,Bool.and_eq_true]at hc
  refine wp_seq (ihx st K M a w _ _ hc.1 R hd ?_ h)
  rintro e a' w' ⟨st',K',M',R',hd',h'⟩
  cases e with
  | normal=>exact ihy st' K' M' a' w' Q Qx hc.2 R' hd' hQ h'
  | _=>exact hQ _ a' w' ⟨st',K',M',R',hd',h'⟩
 | cond c x y ihx ihy=>
  intro st K M a w Q Qx hc R hd hQ h
  simp only[fg,Bool.and_eq_true]at hc
  simp only[bp]at h
  split at h
  ·rename_i v hv
   split at h
   ·rename_i t
    have he:=R.opnd c
    rw[hv]at he
    simp only[erep]at he
    exact wp_cond_split he (fun ht=>ihx st K M a w Q Qx hc.1 R hd hQ (h.1 ht)) (fun ht=>ihy st K M a w Q Qx hc.2 R hd hQ (h.2 ht))
   exact h.elim
  exact h.elim
 | block id x ih=>
  intro st K M a w Q Qx hc R hd hQ h
  simp only[fg]at hc
  refine wp_block (ih st K M a w _ _ hc R hd ?_ h)
  rintro e a' w' ⟨st',K',M',R',hd',h'⟩
  cases e with
  | exit id'=>
   simp only at h'
   simp only[Exit.inBlock]
   split at h'
   ·rename_i hid
    rw[if_pos hid]
    exact hQ _ a' w' ⟨st',K',M',R',hd',h'⟩
   rename_i hid
   rw[if_neg hid]
   exact hQ _ a' w' ⟨st',K',M',R',hd',h'⟩
  | _=>exact hQ _ a' w' ⟨st',K',M',R',hd',h'⟩
 | loop x ih=>
  intro st K M a w Q Qx hc R hd hQ h
  simp only[fg]at hc
  simp only[bp,AE]at h
  obtain⟨acts,I,n0,h0,hround⟩:=h
  have hK:∀ (J:St→Prop) (st:St) (K:Nat→Prop) (M:Nat→Cb) (a:Act) (w:World),Rel fr nt st K M a.tmps w→a.defers=ds→hN acts J st→At fr nt ds J a w:=by
   intro J st K M a w R hd hl
   unfold hN at hl
   split at hl
   ·rename_i st' hst
    obtain⟨K',M',R'⟩:=pM R hst
    exact⟨st',K',M',R',hd,hl⟩
   exact hl.elim
  refine wp_loop_ghost (fun n a w=>At fr nt ds (I n) a w) n0 (hK _ st K M a w R hd h0) ?_
  rintro n a w ⟨st,K,M,R,hd,hI⟩
  refine ih st K M a w _ _ hc R hd ?_ (hround n st hI)
  rintro e a' w' ⟨st',K',M',R',hd',h'⟩
  cases e with
  | normal=>
   obtain⟨st1,K1,M1,R1,hd1,m,hlt,hI1⟩:=hK _ st' K' M' a' w' R' hd' h'
   exact⟨m,hlt,st1,K1,M1,R1,hd1,hI1⟩
  | _=>exact hQ _ a' w' ⟨st',K',M',R',hd',h'⟩
 | exit id=>
  intro st K M a w Q Qx _ R hd hQ h
  exact wp_exit (hQ _ a w ⟨st,K,M,R,hd,h⟩)
 | ret=>
  intro st K M a w Q Qx _ R hd hQ h
  exact wp_ret (hQ _ a w ⟨st,K,M,R,hd,h⟩)
 | _=>
  intro st K M a w Q Qx _ R hd hQ h
  exact h.elim
end
def lb (T:Nat→Ty)(env:Env)(H:Hp):List ResultVar→Option (List AV)
 | []=>some []
 | .tmp t::r=>(match lb T env H r with
  | some vs=>some (look env t::vs)
  | none=>none)
 | .cell x t::r=>(match oV H T t (look env x) with
  | some v=>(match lb T env H r with
   | some vs=>some (v::vs)
   | none=>none)
  | none=>none)
def oz:List AV→AV
 | [v]=>v
 | vs=>.tup vs
def sv (ids:List Nat):List (Nat × Nat)→List (Nat × Nat)
 | []=>[]
 | (id,v)::r=>if v=0 then (if ids.contains id then sv ids r else (id,v)::sv ids r) else (id,v)::sv ids r
def kz:List (Nat × Nat × Nat)→Nat→Nat→Option (Nat × Nat)
 | [],_,_=>none
 | (c,v,k)::r,id,ver=>if c=id then (if v=ver then some (k,1) else kz r id ver) else kz r id ver
def jN (ids:List Nat)(ps:List (Nat × Nat × Nat))(id ver:Nat):Option (Nat × Nat):=
 if ver=0 then (if ids.contains id then some (id,0) else kz ps id ver) else kz ps id ver
def db (ids0:List Nat)(ps:List (Nat × Nat × Nat))(H:Hp):List Nat→Hp
 | []=>[]
 | id::r=>match hget H id with
  | some (v,b)=>if v=0 then (id,0,renB (jN ids0 ps) b)::db ids0 ps H r else db ids0 ps H r
  | none=>db ids0 ps H r
def gC (ids0:List Nat)(ps0:List (Nat × Nat × Nat))(H:Hp):List (Nat × Nat × Nat)→Hp
 | []=>[]
 | (c,v,k)::r=>match hget H c with
  | some (v',b)=>if v'=v then (k,1,renB (jN ids0 ps0) b)::gC ids0 ps0 H r else gC ids0 ps0 H r
  | none=>gC ids0 ps0 H r
def Bf:List Nat→List AV
 | []=>[]
 | id::r=>.ptr id 0 0 0::Bf r
def CU (ids:List Nat)(H:Hp)(r:AV):List (Nat × Nat × Nat):=wU 20000 (sv ids (kS H 200 [] (r::Bf ids)))
def AF (ps:List (Nat × Nat × Nat))(ids:List Nat):Bool:=
 mD (ps.map (fun p=>p.1))&&mD (ps.map (fun p=>p.2.2))&&ids.all (fun i=>!(ps.map (fun p=>p.2.2)).contains i)&&ps.all (fun p=>!(p.2.1 == 0&&ids.contains p.1))
def outF (ids:List Nat)(ps:List (Nat × Nat × Nat))(H:Hp)(r:AV)(Q:AV→Hp→Prop):Prop:=
 AF ps ids=true∧Q (ren (jN ids ps) r) (db ids ps H ids++gC ids ps H ps)
def retS (T:Nat→Ty)(rs:List ResultVar)(ids:List Nat)(Q:AV→Hp→Prop)(st:St):Prop:=
 match lb T st.env st.heap rs with
  | some vs=>outF ids (CU ids st.heap (oz vs)) st.heap (oz vs) Q
  | none=>False
def retK (T:Nat→Ty)(ra:List Ax)(rs:List ResultVar)(ids:List Nat)(Q:AV→Hp→Prop)(e:Exit)(st:St):Prop:=
 match e with
 | .normal | .ret=>hN ra (retS T rs ids Q) st
 | _=>False
section
variable {P:Program} {fr:Fr} {nt:Nat} {md:Nat→List AV→Md} {T:Nat→Ty} {hi:Hint} {env:Env} {H:Hp} {clk:Nat} {K:Nat→Prop} {M:Nat→Cb} {tmps:Array Value} {w:World} {a:Act}
theorem kb {ids0:List Nat}{ps:List (Nat × Nat × Nat)}:∀ {l:List Nat} {k:Nat} {x:Nat × Blk},hget (db ids0 ps H l) k=some x→k∈l∧∃ b,hget H k=some (0,b)∧x=(0,renB (jN ids0 ps) b)
 | [],_,_,h=>by simp[db,hget]at h
 | id::r,k,x,h=>by
  simp only[db]at h
  split at h
  ·rename_i v b hg
   split at h
   ·rename_i hv
    subst hv
    rw[gj]at h
    by_cases hk:id=k
    ·rw[if_pos hk]at h
     cases h
     exact⟨by simp[hk],b,by rw[← hk];exact hg,rfl⟩
    rw[if_neg hk]at h
    obtain⟨h1,h2⟩:=kb h
    exact⟨List.mem_cons_of_mem _ h1,h2⟩
   obtain⟨h1,h2⟩:=kb h
   exact⟨List.mem_cons_of_mem _ h1,h2⟩
  obtain⟨h1,h2⟩:=kb h
  exact⟨List.mem_cons_of_mem _ h1,h2⟩
theorem oA {ids0:List Nat}{ps0:List (Nat × Nat × Nat)}:∀ {l:List (Nat × Nat × Nat)} {k:Nat} {x:Nat × Blk},hget (gC ids0 ps0 H l) k=some x→∃ c v b,(c,v,k)∈l∧hget H c=some (v,b)∧x=(1,renB (jN ids0 ps0) b)
 | [],_,_,h=>by simp[gC,hget]at h
 | (c,v,k')::r,k,x,h=>by
  simp only[gC]at h
  split at h
  ·rename_i v' b hg
   split at h
   ·rename_i hv
    subst hv
    rw[gj]at h
    by_cases hk:k'=k
    ·rw[if_pos hk]at h
     cases h
     exact⟨c,v',b,by simp[hk],hg,rfl⟩
    rw[if_neg hk]at h
    obtain⟨c,v,b,h1,h2⟩:=oA h
    exact⟨c,v,b,List.mem_cons_of_mem _ h1,h2⟩
   obtain⟨c,v,b,h1,h2⟩:=oA h
   exact⟨c,v,b,List.mem_cons_of_mem _ h1,h2⟩
  obtain⟨c,v,b,h1,h2⟩:=oA h
  exact⟨c,v,b,List.mem_cons_of_mem _ h1,h2⟩
theorem vw:∀ (A B:Hp) (k:Nat),hget (A++B) k=match hget A k with|some x=>some x|none=>hget B k
 | [],_,_=>rfl
 | (j,v,b)::A,B,k=>by
  rw[List.cons_append,ep,ep,vw A B k]
  by_cases h:j=k
  ·simp[h]
  simp[h]
theorem mv:∀ {ps:List (Nat × Nat × Nat)} {id ver a v:Nat},kz ps id ver=some (a,v)→(id,ver,a)∈ps∧v=1
 | [],_,_,_,_,h=>by simp[kz]at h
 | (c,v',k)::r,id,ver,a,v,h=>by
  simp only[kz]at h
  split at h
  ·rename_i hc
   split at h
   ·rename_i hv
    cases h
    subst hc hv
    exact⟨by simp,rfl⟩
   obtain⟨h1,h2⟩:=mv h
   exact⟨List.mem_cons_of_mem _ h1,h2⟩
  obtain⟨h1,h2⟩:=mv h
  exact⟨List.mem_cons_of_mem _ h1,h2⟩
theorem Rel.out (R:Rel fr nt ⟨env,H,clk⟩ K M tmps w){ids:List Nat}{ps:List (Nat × Nat × Nat)}(hids:fr.ids=ids)(hok:AF ps ids=true) :
  ∃ M',Rel fr 0 ⟨[],db ids ps H ids++gC ids ps H ps,2⟩ K M' #[] w∧∀ r v,erep w K clk H M r v→erep w K 2 (db ids ps H ids++gC ids ps H ps) M' (ren (jN ids ps) r) v:=by
 unfold AF at hok
 simp only[Bool.and_eq_true]at hok
 obtain⟨⟨⟨hc,hk⟩,hni⟩,hz⟩:=hok
 have hc:=mE hc
 have hk:=mE hk
 have hni:∀ i,i∈ids→∀ c v,(c,v,i) ∉ ps:=by
  intro i hi c v hm
  have:=List.all_eq_true.1 hni i hi
  simp only[Bool.not_eq_true',List.contains_eq_mem,decide_eq_false_iff_not]at this
  exact this (List.mem_map.2 ⟨_,hm,rfl⟩)
 have hz:∀ c v k,(c,v,k)∈ps→v=0→c ∉ ids:=by
  intro c v k hm hv hi
  have:=List.all_eq_true.1 hz _ hm
  simp[hv,hi]at this
 generalize hM':(fun k=>if k∈ids then M k else match fJ ps k with|some (c,_)=>M c|none=>M k)=M'
 have hMi:∀ k,k∈ids→M' k=M k:=fun k hi=>by rw[← hM'];simp only[hi,if_true]
 have hMo:∀ c v k,k ∉ ids→(c,v,k)∈ps→M' k=M c:=fun c v k hi hm=>by rw[← hM'];simp only[hi,if_false,eo hk hm]
 have src:∀ k ver b',hget (db ids ps H ids++gC ids ps H ps) k=some (ver,b')→∃ c v b,hget H c=some (v,b)∧b'=renB (jN ids ps) b∧M' k=M c ∧
   ((k∈ids∧c=k∧v=0∧ver=0)∨(k ∉ ids∧(c,v,k)∈ps∧ver=1)):=by
  intro k ver b' hg
  rw[vw]at hg
  split at hg
  ·rename_i x hx
   cases hg
   obtain⟨h1,b,h2,h3⟩:=kb hx
   cases h3
   exact⟨k,0,b,h2,rfl,hMi k h1,.inl ⟨h1,rfl,rfl,rfl⟩⟩
  obtain⟨c,v,b,h1,h2,h3⟩:=oA hg
  cases h3
  have hki:k ∉ ids:=fun hi=>hni k hi c v h1
  exact⟨c,v,b,h2,rfl,hMo c v k hki h1,.inr ⟨hki,h1,rfl⟩⟩
 have hren:pK (jN ids ps) clk H M 2 (db ids ps H ids++gC ids ps H ps) M':=by
  intro id ver a v hr _
  have hcase:(ver=0∧id∈ids∧a=id∧v=0)∨((id,ver,a)∈ps∧v=1):=by
   unfold jN at hr
   split at hr
   ·rename_i hv
    split at hr
    ·rename_i hi
     cases hr
     exact .inl ⟨hv,by simpa using hi,rfl,rfl⟩
    exact .inr (mv hr)
   exact .inr (mv hr)
  refine⟨by rcases hcase with h|h <;> omega,fun b' hg=>?_⟩
  obtain⟨c,v0,b,h1,h2,h3,h4⟩:=src a v b' hg
  obtain⟨rfl,hi,rfl,rfl⟩|⟨hm,rfl⟩:=hcase
  ·obtain⟨_,rfl,rfl,_⟩|⟨hki,_,_⟩:=h4
   ·exact⟨⟨b,h1⟩,by rw[h3];exact .refl _⟩
   exact absurd hi hki
  obtain⟨_,_,_,h5⟩|⟨hki,hm2,_⟩:=h4
  ·omega
  have e1:=eo hk hm
  have e2:=eo hk hm2
  rw[e1]at e2
  cases e2
  exact⟨⟨b,h1⟩,by rw[h3];exact .refl _⟩
 refine⟨M',⟨rfl,by show 1≤2;omega,fun k=>by simp[look,erep],⟨?_,?_,?_,?_,R.heap.low⟩,R.up,R.new,?_,R.grown,R.same,R.os,R.tape,R.output,?_,R.glob⟩,fun r v hr=>lT hren r v hr⟩
 ·intro k ver b' hg
  obtain⟨c,v0,b,h1,rfl,h3,h4⟩:=src k ver b' hg
  rw[h3]
  exact⟨by show ver<2;rcases h4 with h4|h4 <;> omega,kR hren (R.heap.blk c v0 b h1).2⟩
 ·intro k ver b' hg
  obtain⟨c,v0,b,h1,rfl,h3,h4⟩:=src k ver b' hg
  rw[h3,bB]
  exact R.heap.nodup c v0 b h1
 ·intro k ver b' k' ver' b'' hg hg' hne x hx hx'
  obtain⟨c,v0,b,h1,rfl,h3,h4⟩:=src k ver b' hg
  obtain⟨c',v0',b1,h1',rfl,h3',h4'⟩:=src k' ver' b'' hg'
  rw[h3,bB]at hx
  rw[h3',bB]at hx'
  refine R.heap.disj c v0 b c' v0' b1 h1 h1' (fun he=>hne ?_) x hx hx'
  subst he
  rw[h1]at h1'
  cases h1'
  rcases h4 with ⟨g1,g2,g3,_⟩|⟨g1,g2,_⟩ <;> rcases h4' with ⟨g4,g5,g6,_⟩|⟨g4,g5,_⟩
  ·rw[← g2,← g5]
  ·exact absurd (g2 ▸ g1) (hz _ _ _ g5 g3)
  ·exact absurd (g5 ▸ g4) (hz _ _ _ g2 g6)
  have e1:=ik hc g2
  have e2:=ik hc g5
  rw[e1]at e2
  cases e2
  rfl
 ·intro k ver b' hg x hx
  obtain⟨c,v0,b,h1,rfl,h3,h4⟩:=src k ver b' hg
  rw[h3,bB]at hx
  exact R.heap.apart c v0 b h1 x hx
 ·intro k ver b' hg x hx
  obtain⟨c,v0,b,h1,rfl,h3,h4⟩:=src k ver b' hg
  rw[h3,bB]at hx
  exact R.own c v0 b h1 x hx
 intro k hkm b' hg
 rw[hids]at hkm
 obtain⟨c,v0,b,h1,rfl,h3,h4⟩:=src k 0 b' hg
 obtain⟨g1,rfl,rfl,_⟩|⟨g1,_⟩:=h4
 ·rw[h3]
  exact R.base c (by rw[hids];exact hkm) b h1
 exact absurd hkm g1
def lc:Nat→List AV→Env
 | _,[]=>[]
 | k,a::r=>(k,a)::lc (k+1) r
theorem vx (s:Nat):∀ (l:List AV) (k:Nat),look (lc k l) s=if k≤s then l.getD (s - k) .dead else .dead
 | [],k=>by simp[lc,look]
 | a::r,k=>by
  simp only[lc,im,vx s r (k+1)]
  by_cases h:k=s
  ·subst h;simp
  rw[if_neg h]
  by_cases h2:k≤s
  ·rw[if_pos h2,if_pos (by omega),show s - k=(s - (k+1))+1 by omega]
   simp
  rw[if_neg h2,if_neg (by omega)]
theorem FJ (hT:∀ t,TyOk P t (T t))(R:Rel fr nt ⟨env,H,clk⟩ K M a.tmps w)(fn:Func){vs:List AV}(h:lb T env H fn.results.toList=some vs):∃ v,(results fn a.tmps).run P w=.ok v w∧erep w K clk H M (oz vs) v:=by
 have hload:∀ {t:Nat} {x av:AV} {v:Value},erep w K clk H M x v→oV H T t x=some av→∃ r,(do loadVar t (← asAddr v):Sem Value).run P w=.ok r w∧erep w K clk H M av r:=by
  intro t x av v hx hl
  obtain⟨r,h1,h2⟩:=zO (P:=P) hT R.heap hx hl
  have hv:∃ ad,v=.pointer (some ad):=by
   unfold oV at hl
   split at hl
   ·simp only[erep]at hx
    obtain⟨_,ad,hv,_⟩:=hx
    exact⟨ad,hv⟩
   ·simp only[erep]at hx
    obtain⟨b,off,hv,_⟩:=hx
    exact⟨_,hv⟩
   cases hl
  obtain⟨ad,rfl⟩:=hv
  refine⟨r,?_,h2⟩
  rw[← h1]
  simp[Instr.loadAt,Instr.sureAddr,asAddr]
 have key:∀ (l:List ResultVar) (vs:List AV),lb T env H l=some vs→∃ us:List Value,(l.mapM (m:=Sem) (fun | .tmp t=>pure (a.tmps.getD t undef) | .cell x t=>do loadVar t (← asAddr (a.tmps.getD x undef)))).run P w=.ok us w∧al w K clk H M vs us:=by
  intro l
  induction l with
  | nil=>intro vs h;simp only[lb]at h;cases h;exact⟨[],by simp,by simp[al]⟩
  | cons x l ih=>
   intro vs h
   cases x with
   | tmp t=>
    simp only[lb]at h
    split at h
    ·rename_i vs' hvs
     cases h
     obtain⟨us,h1,h2⟩:=ih vs' hvs
     refine⟨a.tmps.getD t undef::us,?_,by simp only[al];exact⟨R.env t,h2⟩⟩
     rw[List.mapM_cons]
     simp only[Sem.run_bind,Sem.run_pure,Result.andThen_ok,h1]
    cases h
   | cell x t=>
    simp only[lb]at h
    split at h
    ·rename_i u hu
     split at h
     ·rename_i vs' hvs
      cases h
      obtain⟨us,h1,h2⟩:=ih vs' hvs
      obtain⟨r,h3,h4⟩:=hload (R.env x) hu
      refine⟨r::us,?_,by simp only[al];exact⟨h4,h2⟩⟩
      rw[List.mapM_cons]
      rw[Sem.run_bind,h3]
      simp only[Result.andThen_ok,Sem.run_bind,h1,Sem.run_pure]
     cases h
    cases h
 obtain⟨us,h1,h2⟩:=key _ vs h
 have hrun:(results fn a.tmps).run P w=.ok (if h:us.toArray.size=1 then us.toArray[0] else .tuple us.toArray) w:=by
  unfold results
  rw[Array.mapM_eq_mapM_toList]
  rw[Sem.run_bind,Sem.run_map]
  erw [h1]
  simp
 refine⟨_,hrun,?_⟩
 match vs,us,h2 with
 | [],[],_=>simp[oz,erep,al]
 | [x],[u],h2=>
  simp only[al]at h2
  simpa [oz] using h2.1
 | x::y::r,u::v::q,h2=>
  simp only[oz]
  rw[dif_neg (by simp)]
  simp only[erep]
  exact⟨_,rfl,h2⟩
theorem ao (hT:∀ t,TyOk P t (T t)){ra:List Ax}{f:FuncId}{fn:Func}{c:Code}{args:List AV}{h0 h':Hp}{r:AV}(hf:P.funcs[f]?=some fn)(hn:(fn.name == "runtime.NumGoroutine")=false) (hb:fn.body=some c)
  (hc:fg hi c=true) (hlen:args.length≤fn.ntmps)
  (h:bp P md T fn.ntmps hi c ⟨lc 0 args,h0,1⟩ (retK T ra fn.results.toList (h0.map (·.1)) (fun r1 h1=>r1=r∧h1=h'))):ai P f args h0 r h':=by
 refine⟨⟨fn,hf,hn,by rw[hb];rfl⟩,?_⟩
 intro w K M vs hgl HO ha
 have hvl:=cM ha
 have hsz:vs.size=args.length:=by simpa using hvl.symm
 refine calls_of_wp hf hb ?_
 have R0:Rel ⟨w,K,oO h0 M,M,h0.map (·.1)⟩ fn.ntmps ⟨lc 0 args,h0,1⟩ K M (vs++Array.replicate (fn.ntmps - vs.size) undef) w:=by
  refine { size:=by simp;omega,pos:=Nat.le_refl _,env:=fun k=>?_,heap:=HO,up:=fun _ hb=>hb,new:=fun _ hb=>.inl hb,own:=fun id ver b hg x hx=>.inl ⟨id,ver,b,hg,hx⟩,grown:=Nat.le_refl _,same:=fun _ _ _=>rfl,os:=rfl,tape:=rfl,output:=rfl,base:=fun _ _ _ _=>.refl _,glob:=hgl }
  show erep w K 1 h0 M (look (lc 0 args) k) _
  rw[vx,if_pos (Nat.zero_le k),Nat.sub_zero,List.getD_eq_getElem?_getD,Array.getD_eq_getD_getElem?]
  cases hk:args[k]? with
  | none=>simp[erep]
  | some av=>
   obtain⟨v,hv,he⟩:=gh ha hk
   have hlt:k<vs.size:=by
    have:=(List.getElem?_eq_some_iff.1 hk).1
    omega
   rw[Array.getElem?_append_left hlt]
   have:vs[k]?=some v:=by simpa using hv
   rw[this]
   exact he
 refine FI hT [] c _ K M ⟨vs++Array.replicate (fn.ntmps - vs.size) undef,[]⟩ w _ _ hc R0 rfl ?_ h
 rintro e a' w' ⟨st0,K0,M0,R0',hd',hr0⟩
 have go:hN ra (retS T fn.results.toList (h0.map (·.1)) (fun r1 h1=>r1=r∧h1=h')) st0→∃ v,(results fn a'.tmps).run P w'=.ok v w'∧∃ v1 K1 M1,Ending.returned v=.returned v1∧Rel ⟨w,K,oO h0 M,M,h0.map (·.1)⟩ 0 ⟨[],h',2⟩ K1 M1 #[] w'∧erep w' K1 2 h' M1 r v1:=by
  intro hl
  unfold hN at hl
  split at hl
  case h_2=>exact hl.elim
  rename_i st1 hst1
  obtain⟨K',M',R'⟩:=pM R0' hst1
  obtain⟨env,H,clk⟩:=st1
  unfold retS at hl
  simp only at hl
  split at hl
  ·rename_i us hus
   obtain⟨v,hv,he⟩:=FJ (P:=P) hT R' fn hus
   obtain⟨hok,rfl,rfl⟩:=hl
   obtain⟨M1,R1,hout⟩:=R'.out rfl hok
   exact⟨v,hv,v,K',M1,rfl,R1,hout _ v he⟩
  exact hl.elim
 unfold retK at hr0
 cases e with
 | normal=>exact⟨hd',go hr0⟩
 | ret=>exact⟨hd',go hr0⟩
 | _=>exact hr0.elim
end
end Go.Proofs.Qr
set_option linter.all false
namespace Go.Proofs.Qr
section
variable {P:Program} {md:Nat→List AV→Md} {T:Nat→Ty} {nt:Nat} {hi:Hint} {e:Env} {H:Hp} {c:Nat} {Q:Exit→St→Prop} {R:St→Prop} {all:Array Oper}
theorem CV (A B:Prop):ka true A B=A:=by simp[ka]
theorem Ca (A B:Prop):ka false A B=B:=by simp[ka]
theorem EH (b:Bool)(A B:Prop):ka (!b) A B=ka b B A:=by cases b <;> simp[ka]
theorem CW:bp P md T nt hi .skip ⟨e,H,c⟩ Q=Q .normal ⟨e,H,c⟩:=rfl
theorem Bg (id:Nat)(ops:Array Oper)(draw:Bool):bp P md T nt hi (.region id ops draw) ⟨e,H,c⟩ Q=ky P md T nt hi id ops draw ⟨e,H,c⟩ (Q .normal):=rfl
theorem EI (x y:Code):bp P md T nt hi (.seq x y) ⟨e,H,c⟩ Q=bp P md T nt hi x ⟨e,H,c⟩ (fun e st'=>match e with
 | .normal=>bp P md T nt hi y st' Q
 | e=>Q e st'):=rfl
theorem Cc (id:Nat)(x:Code):bp P md T nt hi (.block id x) ⟨e,H,c⟩ Q=bp P md T nt hi x ⟨e,H,c⟩ (fun e st'=>match e with
 | .exit id'=>if id'=id then Q .normal st' else Q (.exit id') st'
 | e=>Q e st'):=rfl
theorem CX (x:Code):bp P md T nt hi (.loop x) ⟨e,H,c⟩ Q=AE (bp P md T nt hi x) Q .mk .mk ⟨e,H,c⟩:=rfl
theorem CY (id:Nat):bp P md T nt hi (.exit id) ⟨e,H,c⟩ Q=Q (.exit id) ⟨e,H,c⟩:=rfl
theorem EJ:bp P md T nt hi .ret ⟨e,H,c⟩ Q=Q .ret ⟨e,H,c⟩:=rfl
theorem FK:aops P md T nt all [] ⟨e,H,c⟩ R=R ⟨e,H,c⟩:=rfl
theorem EK (o:Oper)(rest:List Oper):aops P md T nt all (o::rest) ⟨e,H,c⟩ R=aop P md T nt all ⟨e,H,c⟩ o (fun st'=>aops P md T nt all rest st' R):=rfl
theorem EL (recs:List Rec):bb P md T nt all .nil recs ⟨e,H,c⟩ R=R ⟨e,H,c⟩:=rfl
theorem bC {a b:DT}{recs:List Rec}{st:St}(h1:bb P md T nt all a recs st R)(h2:bb P md T nt all b recs st R):bb P md T nt all (.fork a b) recs st R:=⟨h1,h2⟩
theorem CZ (d:pN)(rem:DT)(recs:List Rec):bb P md T nt all (.cons d rem) recs ⟨e,H,c⟩ R=(match all[d.j]? with
 | some o=>(match ba o.op with
  | true=>jL all e o.guard
   (outK P md T e H c nt o (fun av H' clk'=>gB T H' clk' recs d.chk∧putK nt o.dst e (fun st'=>bb P md T nt all rem recs st' R) av H' clk'))
   (putK nt o.dst e (fun st'=>bb P md T nt all rem recs st' R) (.lit undef) H c)
  | false=>jL all e o.guard
   (match ct T e H c o with
    | some (av,H',clk')=>putK nt o.dst e (fun st'=>bb P md T nt all rem (match d.keep with|true=>⟨d.j,o,e,av,true⟩::recs|false=>recs) st' R) av H' clk'
    | none=>False)
   (putK nt o.dst e (fun st'=>bb P md T nt all rem (match d.keep with|true=>⟨d.j,o,e,.dead,false⟩::recs|false=>recs) st' R) (.lit undef) H c))
 | none=>False):=rfl
theorem FL {T:Nat→Ty}{ra:List Ax}{rs:List ResultVar}{ids:List Nat}{Q:AV→Hp→Prop}:retK T ra rs ids Q .ret ⟨e,H,c⟩=hN ra (retS T rs ids Q) ⟨e,H,c⟩:=rfl
theorem Cd {T:Nat→Ty}{ra:List Ax}{rs:List ResultVar}{ids:List Nat}{Q:AV→Hp→Prop}:retK T ra rs ids Q .normal ⟨e,H,c⟩=hN ra (retS T rs ids Q) ⟨e,H,c⟩:=rfl
theorem EM {T:Nat→Ty}{ra:List Ax}{rs:List ResultVar}{ids:List Nat}{Q:AV→Hp→Prop}(id:Nat):retK T ra rs ids Q (.exit id) ⟨e,H,c⟩=False:=rfl
end
end Go.Proofs.Qr
