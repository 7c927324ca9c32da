/- A slice inside a row's cell,handed to a function that writes it. Own work. -/
import Derived.Test.YtpodkllkinpfmaaGreatDoorXk22
set_option linter.all false
namespace Go.Proofs.Qk
section
variable {P:Program} {fr:Fr} {nt:Nat} {env:Env} {H:Hp} {clk:Nat} {K:Nat→Prop} {M:Nat→Cb} {tmps:Array Value} {w w':World}
theorem ve {b:Nat}{c:AV}:∀ (cs:List AV) (off:Nat) (F:List Nat) (o:Nat),aG w K b off cs F→cs[o]?=some c →
  ∃ A F2 B v,F=A++F2++B∧w.cell? ⟨b,off+o,none⟩=some v∧rep w K c v F2 ∧
   ∀ (w':World) (c':AV) (F2':List Nat),(∀ x,K x→w'.heap[x]?=w.heap[x]?)→w'.heap[b]?=w.heap[b]?→(∀ x,x∈A++B→w'.heap[x]?=w.heap[x]?)→rep w' K c' v F2'→aG w' K b off (cs.set o c') (A++F2'++B)
 | [],_,_,_,_,ho=>by simp at ho
 | d::cs,off,F,0,h,ho=>by
  simp at ho
  subst ho
  simp only[aG]at h
  obtain⟨v,F1,F2,h1,h2,h3,rfl⟩:=h
  refine⟨[],F1,F2,v,by simp,by simpa using h1,h2,fun w' c' F2' hK hb hx hr=>?_⟩
  simp only[List.set_cons_zero,List.nil_append,aG]
  exact⟨v,F2',F2,by rw[Fx hb];exact h1,hr,iE (fun x hx=>⟨hK x hx,hx⟩) _ _ _ _ hb (fun x hm=>hx x (by simp[hm])) h3,rfl⟩
 | d::cs,off,F,o+1,h,ho=>by
  simp only[aG]at h
  obtain⟨v0,F1,F3,h1,h2,h3,rfl⟩:=h
  obtain⟨A,F2,B,v,hF,hc,hr,hput⟩:=ve cs (off+1) F3 o h3 (by simpa using ho)
  subst hF
  refine⟨F1++A,F2,B,v,by simp,by rw[show off+(o+1)=off+1+o by omega];exact hc,hr,fun w' c' F2' hK hb hx hr'=>?_⟩
  simp only[List.set_cons_succ,aG]
  refine⟨v0,F1,A++F2'++B,by rw[Fx hb];exact h1,nm (fun x hx=>⟨hK x hx,hx⟩) _ _ _ (fun x hm=>hx x (by simp[hm])) h2,hput w' c' F2' hK hb (fun x hm=>hx x ?_) hr',by simp⟩
  simp only[List.mem_append]at hm ⊢
  rcases hm with hm|hm
  ·exact .inl (.inr hm)
  exact .inr hm
theorem rN {b sz:Nat}{c:AV}{r:List AV}:∀ (rows:List (List AV)) (off:Nat) (F:List Nat) (i o:Nat),aq w K sz b off rows F→rows[i]?=some r→r[o]?=some c →
  ∃ A F2 B v,F=A++F2++B∧w.cell? ⟨b,off+i*sz+o,none⟩=some v∧rep w K c v F2 ∧
   ∀ (w':World) (c':AV) (F2':List Nat),(∀ x,K x→w'.heap[x]?=w.heap[x]?)→w'.heap[b]?=w.heap[b]?→(∀ x,x∈A++B→w'.heap[x]?=w.heap[x]?)→rep w' K c' v F2'→aq w' K sz b off (rows.set i (r.set o c')) (A++F2'++B)
 | [],_,_,_,_,_,ho,_=>by simp at ho
 | q::rows,off,F,0,o,h,hr,ho=>by
  simp at hr
  subst hr
  simp only[aq]at h
  obtain⟨F1,F3,hl,h1,h2,rfl⟩:=h
  obtain⟨A,F2,B,v,hF,hc,hrep,hput⟩:=ve q off F1 o h1 ho
  subst hF
  refine⟨A,F2,B++F3,v,by simp,by simpa using hc,hrep,fun w' c' F2' hK hb hx hr'=>?_⟩
  simp only[List.set_cons_zero,aq]
  refine⟨A++F2'++B,F3,by simpa using hl,hput w' c' F2' hK hb (fun x hm=>hx x ?_) hr',fh (fun x hx=>⟨hK x hx,hx⟩) _ _ _ _ _ hb (fun x hm=>hx x (by simp[hm])) h2,by simp⟩
  simp only[List.mem_append]at hm ⊢
  rcases hm with hm|hm
  ·exact .inl hm
  exact .inr (.inl hm)
 | q::rows,off,F,i+1,o,h,hr,ho=>by
  simp only[aq]at h
  obtain⟨F1,F3,hl,h1,h2,rfl⟩:=h
  obtain⟨A,F2,B,v,hF,hc,hrep,hput⟩:=rN rows (off+sz) F3 i o h2 (by simpa using hr) ho
  subst hF
  refine⟨F1++A,F2,B,v,by simp,by rw[show off+(i+1)*sz+o=off+sz+i*sz+o by rw[Nat.succ_mul];omega];exact hc,hrep,fun w' c' F2' hK hb hx hr'=>?_⟩
  simp only[List.set_cons_succ,aq]
  refine⟨F1,A++F2'++B,hl,iE (fun x hx=>⟨hK x hx,hx⟩) _ _ _ _ hb (fun x hm=>hx x (by simp[hm])) h1,hput w' c' F2' hK hb (fun x hm=>hx x ?_) hr',by simp⟩
  simp only[List.mem_append]at hm ⊢
  rcases hm with hm|hm
  ·exact .inl (.inr hm)
  exact .inr hm
theorem Gx {H':Hp}{M':Nat→Cb}{c c':Nat}{K':Nat→Prop}:∀ {xs vs:List Value},an w K c H M (xs.map AV.lit) vs→an w' K' c' H' M' (xs.map AV.lit) vs
 | [],[],_=>by simp[an]
 | x::xs,v::vs,h=>by
  simp only[List.map_cons,an,erep]at h ⊢
  exact⟨h.1,Gx h.2⟩
 | [],_::_,h=>by simp[an]at h
 | _::_,[],h=>by simp[an]at h
theorem Rel.viewCall (R:Rel fr nt ⟨env,H,clk⟩ K M tmps w){id ver i o:Nat}{z:Bool}{rows:List (List AV)}{r:List AV}{sub sub':List (List AV)}(hg:hget H id=some (ver,.row z rows))(hr:rows[i]?=some r)(ho:r[o]?=some (.own sub))
  {v:Value} (hcell:∀ b off,(M id).base=some (b,off)→w.cell? ⟨b,off+i*(M id).sz+o,none⟩=some v)
  {f:FuncId} {xs vs:List Value} (hvs:an w K clk H M (xs.map AV.lit) vs) {u:Value} (hlen:sub'.length=sub.length) (hfr:frsR sub'=true)
  (hc:ak P f (.ref 10000 0 0 sub.length::xs.map AV.lit) [(10000,0,.row true sub)] (.lit u) [(10000,0,.row true sub')]) :
  Calls P f (v::vs).toArray w (fun e w'=>∃ M',e=.returned u∧Rel fr nt ⟨env,(id,ver,.row z (rows.set i (r.set o (.own sub'))))::H,clk⟩ K M' tmps w'):=by
 have hblk:=(R.heap.blk id ver _ hg).2
 simp only[aC]at hblk
 obtain⟨_,hr0,_⟩|⟨pb,poff,pc,pe,hbase,hpw,hp3,hp4,hpz,hrows⟩:=hblk
 ·rw[hr0]at hr;simp at hr
 obtain⟨A,F2,B,v',hF,hcv,hrep,hput⟩:=rN rows poff _ i o hrows hr ho
 have hvv:v'=v:=by
  have:=hcell pb poff hbase
  rw[hcv]at this
  exact Option.some.inj this
 subst hvv
 have hownb:al (.row z rows) (M id)=pb::(M id).fp:=by simp[al,hbase]
 have hnd0:=R.heap.nodup id _ _ hg
 have hap:=R.heap.apart id ver _ hg
 have hown:=R.own id ver _ hg
 rw[hownb,hF]at hnd0 hap hown
 have hdisj:∀ x,x∈pb::(A++F2++B)→∀ j vv y,j≠id→hget H j=some (vv,y)→x ∉ al y (M j):=by
  intro x hx j vv y hj hgj
  exact R.heap.disj id ver _ j vv y hg hgj (Ne.symm hj) x (by rw[hownb,hF];exact hx)
 have inF2:∀ x,x∈F2→x∈pb::(A++F2++B):=fun x hx=>by simp[hx]
 have inAB:∀ x,x∈pb::(A++B)→x∈pb::(A++F2++B):=fun x hx=>by simp at hx ⊢;rcases hx with h|h|h <;> simp[h]
 obtain⟨cb,hcb,hcbo,href⟩:∃ cb:Cb,aC w K 1 [(10000,0,.row true sub)] (fun _=>cb) (.row true sub) cb∧al (.row true sub) cb=F2∧erep w K 1 [(10000,0,.row true sub)] (fun _=>cb) (.ref 10000 0 0 sub.length) v':=by
  simp only[rep]at hrep
  obtain⟨a,rfl,rfl,rfl⟩|⟨b,off,cap,c,e,sz,F',hne,rfl,hcap,hb,hs,rfl,hr2⟩:=hrep
  ·refine⟨⟨none,0,0,[]⟩,by simp[aC],rfl,?_⟩
   simp only[erep]
   exact⟨by omega,a,0,rfl,by simp,fun blk _=>⟨rfl,.inl rfl⟩⟩
  refine⟨⟨some (b,off),cap,sz,F'⟩,?_,rfl,?_⟩
  ·simp only[aC]
   exact .inr ⟨b,off,c,e,rfl,hb,hs,hcap,fun _ h0=>absurd h0 hne,hr2⟩
  simp only[erep]
  exact⟨by omega,_,cap,rfl,hcap,fun blk _=>⟨by simp,.inr ⟨b,off,rfl,by simp⟩⟩⟩
 have hget1:∀ k x y,hget [(10000,0,Blk.row true sub)] k=some (x,y)→k=10000∧x=0∧y=.row true sub:=by
  intro k x y hk
  rw[jh]at hk
  by_cases h1:10000=k
  ·rw[if_pos h1]at hk
   obtain⟨rfl,rfl⟩:=Prod.mk.inj (Option.some.inj hk)
   exact⟨h1.symm,rfl,rfl⟩
  rw[if_neg h1]at hk
  simp[hget]at hk
 have HO:fy w K 1 [(10000,0,.row true sub)] (fun _=>cb):=by
  refine⟨fun k x y hk=>?_,fun k x y hk=>?_,fun k x y k' x' y' hk hk' hne=>?_,fun k x y hk q hq=>?_,R.heap.low⟩
  ·obtain⟨rfl,rfl,rfl⟩:=hget1 k x y hk
   exact⟨by omega,hcb⟩
  ·obtain⟨rfl,rfl,rfl⟩:=hget1 k x y hk
   rw[hcbo]
   have:=(List.nodup_cons.1 hnd0).2
   rw[List.nodup_append,List.nodup_append]at this
   exact this.1.2.1
  ·obtain⟨rfl,_,_⟩:=hget1 k x y hk
   obtain⟨rfl,_,_⟩:=hget1 k' x' y' hk'
   exact absurd rfl hne
  obtain⟨rfl,rfl,rfl⟩:=hget1 k x y hk
  rw[hcbo]at hq
  exact hap q (inF2 q hq)
 have hLa:an w K 1 [(10000,0,.row true sub)] (fun _=>cb) (.ref 10000 0 0 sub.length::xs.map AV.lit) (v'::vs).toArray.toList:=by
  simp only[an]
  exact⟨href,Gx hvs⟩
 refine Calls.mono (hc.2 w K (fun _=>cb) _ R.glob HO hLa) ?_
 rintro e w' ⟨u',K',M',rfl,R',hu⟩
 simp only[erep]at hu
 subst hu
 have ownsF:∀ x,ro [(10000,0,.row true sub)] (fun _=>cb) x→x∈F2:=by
  rintro x ⟨k,ver',blk,hk,hx⟩
  obtain⟨rfl,rfl,rfl⟩:=hget1 k ver' blk hk
  rw[hcbo]at hx
  exact hx
 have hsame:∀ x,x<w.heap.size→x ∉ F2→w'.heap[x]?=w.heap[x]?:=fun x hx hn=>R'.same x hx (fun ho=>hn (ownsF x ho))
 have hg':hget [(10000,0,Blk.row true sub')] 10000=some (0,.row true sub'):=by simp[hget]
 have hlike:=R'.base 10000 (by simp) _ hg'
 have hblk':=(R'.heap.blk 10000 0 _ hg').2
 have hndF2':=R'.heap.nodup 10000 0 _ hg'
 have hapF2':=R'.heap.apart 10000 0 _ hg'
 have hownF2':=R'.own 10000 0 _ hg'
 simp only at hlike hblk' hownF2'
 generalize hF2':al (.row true sub') (M' 10000)=F2' at hndF2' hapF2' hownF2'
 have hrep':rep w' K (.own sub') v' F2':=by
  refine Ms (K:=K') (.own sub') v' F2' (by simpa [frs] using hfr) ?_
  simp only[rep]at hrep ⊢
  obtain⟨a,rfl,rfl,rfl⟩|⟨b,off,cap,c,e,sz,F',hne,rfl,hcap,hb,hs,hFe,hr2⟩:=hrep
  ·have:sub'=[]:=List.eq_nil_of_length_eq_zero (by simpa using hlen)
   subst this
   refine .inl ⟨a,rfl,rfl,?_⟩
   simp only[aC]at hblk'
   simp only[erep]at href
   obtain⟨_,a2,c2,h1,_,h2⟩:=href
   simp only[Value.slice.injEq]at h1
   obtain⟨h3,_⟩:=h2 (.row true []) (by simp[hget])
   have hcap0:(M' 10000).cap=0:=by rw[hlike.2.1];omega
   obtain⟨h4,_,_,h5⟩|⟨b,off,c,e,h4,_,_,_,_,h5⟩:=hblk'
   ·rw[← hF2']
    simp[al,h4,h5]
   exfalso
   have hcbo2:=hcbo
   rw[hlike.1]at h4
   simp[al,h4]at hcbo2
  have hne':sub'≠[]:=by
   intro h0
   rw[h0]at hlen
   exact hne (List.eq_nil_of_length_eq_zero (by simpa using hlen.symm))
  simp only[aC]at hblk'
  simp only[erep]at href
  obtain⟨_,a2,c2,h1,_,h2⟩:=href
  simp only[Value.slice.injEq]at h1
  obtain⟨rfl,_,rfl⟩:=h1
  obtain⟨h3,h3b⟩:=h2 (.row true sub) (by simp[hget])
  obtain⟨_,h4,_⟩|⟨b',off',c',e',h4,h5,h6,h7,_,h8⟩:=hblk'
  ·exact absurd h4 hne'
  have hpos:0<sub.length:=by cases sub with|nil=>exact absurd rfl hne|cons _ _=>simp
  rcases h3b with h3b|⟨b2,off2,h9,h10⟩
  ·omega
  have e1:=h4
  rw[hlike.1,h9]at e1
  obtain⟨rfl,rfl⟩:=Prod.mk.inj (Option.some.inj e1)
  simp only[Nat.zero_mul,Nat.add_zero,Option.some.injEq,Addr.mk.injEq,and_true]at h10
  obtain⟨rfl,rfl⟩:=h10
  have hcapE:(M' 10000).cap=cap:=by rw[hlike.2.1];omega
  refine .inr ⟨b,off,cap,c',e',(M' 10000).sz,(M' 10000).fp,hne',by rw[hlen],by rw[hlen];exact hcap,h5,by rw[← hcapE];exact h6,?_,h8⟩
  rw[← hF2']
  simp[al,h4]
 have hKw:∀ x,K x→w'.heap[x]?=w.heap[x]?:=fun x hx=>hsame x (R.heap.low x hx) (fun hm=>(hap x (inF2 x hm)).2 hx)
 have hndAB:=List.nodup_cons.1 hnd0
 have notF2:∀ x,x∈pb::(A++B)→x ∉ F2:=by
  intro x hx hm
  rcases List.mem_cons.1 hx with rfl|hx
  ·exact hndAB.1 (by simp[hm])
  have:=hndAB.2
  rw[List.nodup_append,List.nodup_append]at this
  rcases List.mem_append.1 hx with h|h
  ·exact this.1.2.2 x h x hm rfl
  exact this.2.2 x (by simp[hm]) x h rfl
 have fresh:∀ x,x∈F2'→x∈F2∨w.heap.size≤x:=by
  intro x hx
  rcases hownF2' x hx with h|h
  ·exact .inl (ownsF x h)
  exact .inr h
 have hrows':=hput w' (.own sub') F2' hKw (hsame pb (hap pb (by simp)).1 (notF2 pb (by simp))) (fun x hx=>hsame x (hap x (inAB x (by simp at hx ⊢;exact .inr hx))).1 (notF2 x (by simp at hx ⊢;exact .inr hx))) hrep'
 refine⟨_,rfl,R.upd (id:=id) (ver:=ver) (clk':=clk) (blk:=.row z (rows.set i (r.set o (.own sub')))) (cb:=⟨(M id).base,(M id).cap,(M id).sz,A++F2'++B⟩) (w':=w') (fun x=>x∈F2) R'.grown (fun b hb hT=>hsame b hb hT) R'.os R'.tape R'.output
  (fun b hb=>(hap b (inF2 b hb)).2) (fun b hb j vv y hj hgj=>hdisj b (inF2 b hb) j vv y hj hgj) (fun b hb=>hown b (inF2 b hb)) (Nat.le_refl _) (R.heap.blk id ver _ hg).1 (.inr ⟨_,hg,rfl,rfl,rfl⟩) ?_ ?_ ?_ ?_⟩
 ·intro x hx
  simp only[al,hbase]at hx
  have hx2:x∈pb::(A++B)∨x∈F2':=by
   simp only[List.mem_cons,List.mem_append]at hx ⊢
   rcases hx with h|(h|h)|h
   ·exact .inl (.inl h)
   ·exact .inl (.inr (.inl h))
   ·exact .inr h
   exact .inl (.inr (.inr h))
  rcases hx2 with hx2|hx2
  ·have hm:=inAB x hx2
   exact⟨Nat.lt_of_lt_of_le (hap x hm).1 R'.grown,(hap x hm).2,hown x hm,fun j vv y hj hgj=>hdisj x hm j vv y hj hgj⟩
  refine⟨(hapF2' x hx2).1,fun hk=>(hapF2' x hx2).2 (R'.up x hk),?_,fun j vv y hj hgj hm=>?_⟩
  ·rcases fresh x hx2 with h|h
   ·exact hown x (inF2 x h)
   exact .inr (Nat.le_trans R.grown h)
  rcases fresh x hx2 with h|h
  ·exact hdisj x (inF2 x h) j vv y hj hgj hm
  exact absurd (R.heap.apart j vv y hgj x hm).1 (by omega)
 ·simp only[al,hbase]
  have hnot:∀ x,x∈F2'→x ∉ pb::(A++B):=by
   intro x hx hm
   rcases fresh x hx with h|h
   ·exact notF2 x hm h
   exact absurd (hap x (inAB x hm)).1 (by omega)
  have h1:=hndAB.2
  rw[List.nodup_append,List.nodup_append]at h1
  refine List.nodup_cons.2 ⟨fun hm=>?_,?_⟩
  ·simp only[List.mem_append]at hm
   rcases hm with (h|h)|h
   ·exact hndAB.1 (by simp[h])
   ·exact hnot pb h (by simp)
   exact hndAB.1 (by simp[h])
  rw[List.nodup_append,List.nodup_append]
  refine⟨⟨h1.1.1,hndF2',fun x hx y hy he=>?_⟩,h1.2.1,fun x hx y hy he=>?_⟩
  ·subst he
   exact hnot x hy (by simp[hx])
  subst he
  rcases List.mem_append.1 hx with h|h
  ·exact h1.2.2 x (by simp[h]) x hy rfl
  exact hnot x h (by simp[hy])
 ·intro hm h0
  subst h0
  exact R.base id hm _ hg
 simp only[aC]
 refine .inr ⟨pb,poff,pc,pe,hbase,by rw[hsame pb (hap pb (by simp)).1 (notF2 pb (by simp))];exact hpw,hp3,by rw[List.length_set];exact hp4,?_,hrows'⟩
 intro hzt h0
 have:=congrArg List.length h0
 rw[List.length_set]at this
 exact hpz hzt (List.eq_nil_of_length_eq_zero (by simpa using this))
end
end Go.Proofs.Qk
