/- A call's contract,and the state behind a call. Own work. -/
import Derived.Test.YtdhboohobflflaaGreatDoorXr13
set_option linter.all false
namespace Go.Proofs.Qr
def oO (h:Hp)(M:Nat→Cb)(b:Nat):Prop:=∃ id ver blk,hget h id=some (ver,blk)∧b∈an blk (M id)
def ai (P:Program)(f:FuncId)(args:List AV)(h:Hp)(r:AV)(h':Hp):Prop:=
 (∃ fn,P.funcs[f]?=some fn∧(fn.name == "runtime.NumGoroutine")=false∧fn.body.isNone=false) ∧
 ∀ (w:World) (K:Nat→Prop) (M:Nat→Cb) (vs:Array Value),Gl w K→cL w K 1 h M→al w K 1 h M args vs.toList →
  Calls P f vs w (fun e w'=>∃ v K' M',e=.returned v∧Rel ⟨w,K,oO h M,M,h.map (·.1)⟩ 0 ⟨[],h',2⟩ K' M' #[] w'∧erep w' K' 2 h' M' r v)
mutual
def frs:AV→Bool
 | .lit _=>true
 | .sl rows=>rows.isEmpty
 | .own rows=>frsR rows
 | .loc _=>false
 | .ptr ..=>true
 | .ref ..=>true
 | .fn _ caps=>frsC caps
 | .mp ..=>true
 | .agg cells=>frsC cells
 | .tup vs=>frsC vs
 | .dead=>true
def frsC:List AV→Bool
 | []=>true
 | c::cs=>frs c&&frsC cs
def frsR:List (List AV)→Bool
 | []=>true
 | r::rs=>frsC r&&frsR rs
end
def frsB:Blk→Bool
 | .var cells=>frsC cells
 | .row _ rows=>frsR rows
 | .tree _=>false
 | .map _=>true
 | .gone=>true
section
variable {w:World} {K K':Nat→Prop} {clk clk':Nat} {H H':Hp} {M M':Nat→Cb}
mutual
theorem GR:∀ (av:AV) (v:Value) (F:List Nat),frs av=true→rep w K av v F→rep w K' av v F
 | .lit u,v,F,_,h=>by simpa [rep] using h
 | .sl rows,v,F,hf,h=>by
  simp only[frs,List.isEmpty_iff]at hf
  subst hf
  simp only[rep]at h ⊢
  obtain⟨rfl,h⟩:=h
  refine⟨rfl,.inl ?_⟩
  rcases h with h|⟨b,off,cap,sz,hv,_⟩
  ·exact h
  exact⟨_,_,hv,trivial⟩
 | .own rows,v,F,hf,h=>by
  simp only[frs]at hf
  simp only[rep]at h ⊢
  rcases h with h|⟨b,off,cap,c,e,sz,F',hne,hv,hc,hb,hs,hFe,hr⟩
  ·exact .inl h
  exact .inr ⟨b,off,cap,c,e,sz,F',hne,hv,hc,hb,hs,hFe,sk sz b off rows F' hf hr⟩
 | .loc _,_,_,_,h=>by simp[rep]at h
 | .ptr ..,_,_,_,h=>by simp[rep]at h
 | .ref ..,_,_,_,h=>by simp[rep]at h
 | .fn ..,_,_,_,h=>by simp[rep]at h
 | .mp ..,_,_,_,h=>by simp[rep]at h
 | .agg ..,_,_,_,h=>by simp[rep]at h
 | .tup ..,_,_,_,h=>by simp[rep]at h
 | .dead,_,_,_,h=>by simp[rep]at h
theorem wS (b:Nat):∀ (off:Nat) (cs:List AV) (F:List Nat),frsC cs=true→aF w K b off cs F→aF w K' b off cs F
 | _,[],F,_,h=>by simpa [aF] using h
 | off,c::cs,F,hf,h=>by
  simp only[frsC,Bool.and_eq_true]at hf
  simp only[aF]at h ⊢
  obtain⟨v,F1,F2,hc,h1,h2,rfl⟩:=h
  exact⟨v,F1,F2,hc,GR c v F1 hf.1 h1,wS b (off+1) cs F2 hf.2 h2,rfl⟩
theorem sk (sz b:Nat):∀ (off:Nat) (rs:List (List AV)) (F:List Nat),frsR rs=true→au w K sz b off rs F→au w K' sz b off rs F
 | _,[],F,_,h=>by simpa [au] using h
 | off,r::rs,F,hf,h=>by
  simp only[frsR,Bool.and_eq_true]at hf
  simp only[au]at h ⊢
  obtain⟨F1,F2,hl,h1,h2,rfl⟩:=h
  exact⟨F1,F2,hl,wS b off r F1 hf.1 h1,sk sz b (off+sz) rs F2 hf.2 h2,rfl⟩
end
mutual
theorem Et:∀ (av:AV) (v:Value),frs av=true→erep w K clk H M av v→erep w K' clk H M av v
 | .lit u,v,_,h=>by simpa [erep] using h
 | .sl rows,v,hf,h=>by simp only[erep]at h ⊢;exact GR _ _ _ hf h
 | .own _,_,_,h=>by simp[erep]at h
 | .loc cells,v,hf,_=>by simp[frs]at hf
 | .ptr ..,v,_,h=>by simpa only [erep] using h
 | .ref ..,v,_,h=>by simpa only [erep] using h
 | .fn f caps,v,hf,h=>by
  simp only[frs]at hf
  simp only[erep]at h ⊢
  obtain⟨cs,hv,hr⟩:=h
  exact⟨cs,hv,qp caps _ hf hr⟩
 | .mp _ _,v,_,h=>by simpa only [erep] using h
 | .agg cells,v,hf,h=>by
  simp only[frs]at hf
  simp only[erep]at h ⊢
  obtain⟨cs,hv,hr⟩:=h
  exact⟨cs,hv,qp cells _ hf hr⟩
 | .tup vs,v,hf,h=>by
  simp only[frs]at hf
  simp only[erep]at h ⊢
  obtain⟨cs,hv,hr⟩:=h
  exact⟨cs,hv,qp vs _ hf hr⟩
 | .dead,_,_,_=>by simp[erep]
theorem qp:∀ (as:List AV) (vs:List Value),frsC as=true→al w K clk H M as vs→al w K' clk H M as vs
 | [],[],_,_=>by simp[al]
 | a::as,v::vs,hf,h=>by
  simp only[frsC,Bool.and_eq_true]at hf
  simp only[al]at h ⊢
  exact⟨Et a v hf.1 h.1,qp as vs hf.2 h.2⟩
 | [],_::_,_,h=>by simp[al]at h
 | _::_,[],_,h=>by simp[al]at h
end
theorem FB {b:Blk}{cb:Cb}(hf:frsB b=true)(h:aB w K clk H M b cb):aB w K' clk H M b cb:=by
 cases b with
 | var cells=>
  simp only[frsB]at hf
  simp only[aB]at h ⊢
  obtain⟨b,c,e,h1,h2,h3,h4⟩:=h
  exact⟨b,c,e,h1,h2,h3,qp _ _ hf h4⟩
 | row z rows=>
  simp only[frsB]at hf
  simp only[aB]at h ⊢
  rcases h with h|⟨b,off,c,e,h1,h2,h3,h4,hz,h5⟩
  ·exact .inl h
  exact .inr ⟨b,off,c,e,h1,h2,h3,h4,hz,sk _ _ _ _ _ hf h5⟩
 | tree rows=>simp[frsB]at hf
 | map es=>simpa only [aB] using h
 | gone=>simp[aB]
end
def renI (ρ:Nat→Nat→Option (Nat × Nat))(id ver i n:Nat)(p:Bool):AV:=
 match ρ id ver with
 | some (a,b)=>if p then .ptr a b i n else .ref a b i n
 | none=>.dead
mutual
def ren (ρ:Nat→Nat→Option (Nat × Nat)):AV→AV
 | .lit v=>.lit v
 | .sl rows=>.sl rows
 | .own rows=>.own rows
 | .loc c=>.loc c
 | .ptr id ver i o=>renI ρ id ver i o true
 | .ref id ver i n=>renI ρ id ver i n false
 | .fn f c=>.fn f (renL ρ c)
 | .mp id ver=>(match ρ id ver with
  | some (a,b)=>.mp a b
  | none=>.dead)
 | .agg c=>.agg (renL ρ c)
 | .tup c=>.tup (renL ρ c)
 | .dead=>.dead
def renL (ρ:Nat→Nat→Option (Nat × Nat)):List AV→List AV
 | []=>[]
 | c::cs=>ren ρ c::renL ρ cs
end
def renB (ρ:Nat→Nat→Option (Nat × Nat)):Blk→Blk
 | .var cells=>.var (renL ρ cells)
 | .row z rows=>.row z rows
 | .tree rows=>.tree rows
 | .map es=>.map es
 | .gone=>.gone
theorem bB (ρ b cb):an (renB ρ b) cb=an b cb:=by cases b <;> rfl
section
variable {w:World} {K:Nat→Prop} {clk clk':Nat} {H H':Hp} {M M':Nat→Cb} {ρ:Nat→Nat→Option (Nat × Nat)}
def pK (ρ:Nat→Nat→Option (Nat × Nat))(clk:Nat)(H:Hp)(M:Nat→Cb)(clk':Nat)(H':Hp)(M':Nat→Cb):Prop:=
 ∀ id ver a v,ρ id ver=some (a,v)→ver<clk→v<clk'∧∀ b',hget H' a=some (v,b')→(∃ b,hget H id=some (ver,b))∧(M' a).Like (M id)
mutual
theorem lT (hρ:pK ρ clk H M clk' H' M'):∀ (av:AV) (v:Value),erep w K clk H M av v→erep w K clk' H' M' (ren ρ av) v
 | .lit u,v,h=>by simpa [erep,ren] using h
 | .sl rows,v,h=>by simpa only [erep,ren] using h
 | .own _,_,h=>by simp[erep]at h
 | .loc cells,v,h=>by simpa only [erep,ren] using h
 | .ptr id ver i o,v,h=>by
  simp only[erep]at h
  simp only[ren,renI]
  obtain⟨hv,ad,rfl,h⟩:=h
  split
  ·rename_i a b hr
   obtain⟨h1,h2⟩:=hρ id ver a b hr hv
   simp only[if_true,erep]
   refine⟨h1,ad,rfl,fun blk hg=>?_⟩
   obtain⟨⟨b0,hb⟩,hl⟩:=h2 blk hg
   obtain⟨x,off,h3,h4⟩:=h b0 hb
   exact⟨x,off,by rw[hl.1];exact h3,by rw[hl.2.2];exact h4⟩
  simp[erep]
 | .ref id ver i n,v,h=>by
  simp only[erep]at h
  simp only[ren,renI]
  obtain⟨hv,ad,c,rfl,hn,h⟩:=h
  split
  ·rename_i a b hr
   obtain⟨h1,h2⟩:=hρ id ver a b hr hv
   simp only[Bool.false_eq_true,if_false,erep]
   refine⟨h1,ad,c,rfl,hn,fun blk hg=>?_⟩
   obtain⟨⟨b0,hb⟩,hl⟩:=h2 blk hg
   obtain⟨h3,h4⟩:=h b0 hb
   exact⟨by rw[hl.2.1];exact h3,by rw[hl.1,hl.2.2];exact h4⟩
  simp[erep]
 | .fn f caps,v,h=>by
  simp only[erep,ren]at h ⊢
  obtain⟨cs,hv,hr⟩:=h
  exact⟨cs,hv,mC hρ caps _ hr⟩
 | .mp id ver,v,h=>by
  simp only[erep]at h
  simp only[ren]
  obtain⟨hv,r,rfl,h⟩:=h
  split
  ·rename_i a b hr
   obtain⟨h1,h2⟩:=hρ id ver a b hr hv
   simp only[erep]
   refine⟨h1,r,rfl,fun blk hg=>?_⟩
   obtain⟨⟨b0,hb⟩,hl⟩:=h2 blk hg
   rw[hl.1];exact h b0 hb
  simp[erep]
 | .agg cells,v,h=>by
  simp only[erep,ren]at h ⊢
  obtain⟨cs,hv,hr⟩:=h
  exact⟨cs,hv,mC hρ cells _ hr⟩
 | .tup vs,v,h=>by
  simp only[erep,ren]at h ⊢
  obtain⟨cs,hv,hr⟩:=h
  exact⟨cs,hv,mC hρ vs _ hr⟩
 | .dead,_,_=>by simp[erep,ren]
theorem mC (hρ:pK ρ clk H M clk' H' M'):∀ (as:List AV) (vs:List Value),al w K clk H M as vs→al w K clk' H' M' (renL ρ as) vs
 | [],[],_=>by simp[al,renL]
 | a::as,v::vs,h=>by
  simp only[al,renL]at h ⊢
  exact⟨lT hρ a v h.1,mC hρ as vs h.2⟩
 | [],_::_,h=>by simp[al]at h
 | _::_,[],h=>by simp[al]at h
end
theorem kR (hρ:pK ρ clk H M clk' H' M'){b:Blk}{cb:Cb}(h:aB w K clk H M b cb):aB w K clk' H' M' (renB ρ b) cb:=by
 cases b with
 | var cells=>
  simp only[aB,renB]at h ⊢
  obtain⟨b,c,e,h1,h2,h3,h4⟩:=h
  exact⟨b,c,e,h1,h2,h3,mC hρ _ _ h4⟩
 | row z rows=>simpa only [aB,renB] using h
 | tree rows=>simpa only [aB,renB] using h
 | map es=>simpa only [aB,renB] using h
 | gone=>simp[aB,renB]
end
section
variable {fr:Fr} {nt:Nat} {env:Env} {H:Hp} {clk:Nat} {K:Nat→Prop} {M:Nat→Cb} {tmps:Array Value} {w w':World}
theorem Rel.merge (R:Rel fr nt ⟨env,H,clk⟩ K M tmps w)(σ:Nat→Option Nat)(ρ:Nat→Nat→Option (Nat × Nat))(H2 h h':Hp)(Kp K2 K':Nat→Prop)(Mc M':Nat→Cb)
  (R':Rel ⟨w,Kp,oO h Mc,Mc,h.map (·.1)⟩ 0 ⟨[],h',2⟩ K' M' #[] w')
  (hσ:∀ id id' k,σ id=some k→σ id'=some k→id=id')
  (hH2:∀ id ver b,hget H2 id=some (ver,b)→match σ id with
   | none=>hget H id=some (ver,b)
   | some k=>(b=.gone∧ver=clk+1)∨∃ v0 b0,hget h' k=some (v0,b0)∧b=renB ρ b0∧ρ k v0=some (id,ver))
  (hρ:∀ k v0 id ver,ρ k v0=some (id,ver)→σ id=some k∧((ver=clk∧v0=1)∨(v0=0∧(∃ b,hget H id=some (ver,b))∧k∈h.map (·.1)∧Mc k=M id)))
  (hh:∀ k v b,hget h k=some (v,b)→∃ id,σ id=some k∧∃ ver b0,hget H id=some (ver,b0)∧an b (Mc k)=an b0 (M id))
  (hKp:∀ b,K b→Kp b)
  (hK2:(K2=K'∧∀ b,Kp b→K b)∨(K2=K∧∀ id ver b,hget h' id=some (ver,b)→frsB b=true)) :
  Rel fr nt ⟨env,H2,clk+2⟩ K2 (fun id=>match σ id with|some k=>M' k|none=>M id) tmps w' ∧
  ∀ r v,(K2=K'∨frs r=true)→erep w' K' 2 h' M' r v→erep w' K2 (clk+2) H2 (fun id=>match σ id with|some k=>M' k|none=>M id) (ren ρ r) v:=by
 have hpos:=R.pos
 simp only at hpos
 generalize hM2:(fun id=>match σ id with|some k=>M' k|none=>M id)=M2
 have M2n:∀ id,σ id=none→M2 id=M id:=fun id hs=>by rw[← hM2];simp only[hs]
 have M2s:∀ id k,σ id=some k→M2 id=M' k:=fun id k hs=>by rw[← hM2];simp only[hs]
 have ownH:∀ b,oO h Mc b→∃ id k ver b0,σ id=some k∧hget H id=some (ver,b0)∧b∈an b0 (M id):=by
  rintro b ⟨k,v,blk,hg,hb⟩
  obtain⟨id,hs,ver,b0,hg0,ho⟩:=hh k v blk hg
  exact⟨id,k,ver,b0,hs,hg0,by rw[← ho];exact hb⟩
 have keepK:∀ b,K b→w'.heap[b]?=w.heap[b]?:=by
  intro b hb
  refine R'.same b (R.heap.low b hb) (fun ho=>?_)
  obtain⟨id,k,ver,b0,_,hg,hm⟩:=ownH b ho
  exact(R.heap.apart id ver b0 hg b hm).2 hb
 have toK2:∀ b,K b→K2 b:=by
  intro b hb
  obtain⟨rfl,_⟩|⟨rfl,_⟩:=hK2
  ·exact R'.up b (hKp b hb)
  exact hb
 have hKm:∀ b,K b→w'.heap[b]?=w.heap[b]?∧K2 b:=fun b hb=>⟨keepK b hb,toK2 b hb⟩
 have hRen:pK ρ 2 h' M' (clk+2) H2 M2:=by
  intro k v0 id ver hr hlt
  obtain⟨hs,hd⟩:=hρ k v0 id ver hr
  have hverlt:ver<clk+1:=by
   obtain⟨h1,_⟩|⟨_,⟨b,h2⟩,_⟩:=hd
   ·omega
   have:=(R.heap.blk id ver _ h2).1
   simp only at this
   omega
  refine⟨by omega,fun b' hg=>?_⟩
  have:=hH2 id ver b' hg
  rw[hs]at this
  simp only at this
  obtain⟨_,hvc⟩|⟨v1,b1,hg1,_,hr1⟩:=this
  ·omega
  obtain⟨hs1,hd1⟩:=hρ k v1 id ver hr1
  have h10:v1=v0:=by
   rcases hd with ⟨h1,h2⟩|⟨h1,⟨b,h2⟩,_⟩ <;> rcases hd1 with ⟨h3,h4⟩|⟨h3,⟨b',h4⟩,_⟩
   ·omega
   ·exfalso
    have:=(R.heap.blk id ver _ h4).1
    simp only at this
    omega
   ·exfalso
    have:=(R.heap.blk id ver _ h2).1
    simp only at this
    omega
   omega
  subst h10
  exact⟨⟨b1,hg1⟩,by rw[M2s id k hs];exact .refl _⟩
 have hKeeps:dI clk H M H2 M2:=by
  intro id ver b' hlt hg
  have:=hH2 id ver b' hg
  cases hs:σ id with
  | none=>
   rw[hs]at this
   exact⟨b',this,by rw[M2n id hs];exact .refl _⟩
  | some k=>
   rw[hs]at this
   simp only at this
   obtain⟨_,hvc⟩|⟨v1,b1,hg1,_,hr1⟩:=this
   ·omega
   obtain⟨_,hd1⟩:=hρ k v1 id ver hr1
   obtain⟨h3,h4⟩|⟨h3,⟨b0,h4⟩,hk,hMc⟩:=hd1
   ·omega
   subst h3
   refine⟨b0,h4,?_⟩
   rw[M2s id k hs,← hMc]
   exact R'.base k hk b1 hg1
 have hblkK:∀ k v b,hget h' k=some (v,b)→aB w' K2 2 h' M' b (M' k):=by
  intro k v b hg
  have h1:=(R'.heap.blk k v b hg).2
  simp only at h1
  obtain⟨rfl,_⟩|⟨rfl,hf⟩:=hK2
  ·exact h1
  exact FB (hf k v b hg) h1
 have hown:∀ id k ver b x,σ id=some k→hget H2 id=some (ver,b)→x∈an b (M2 id)→∃ v0 b0,hget h' k=some (v0,b0)∧x∈an b0 (M' k):=by
  intro id k ver b x hs hg hx
  have:=hH2 id ver b hg
  rw[hs]at this
  simp only at this
  obtain⟨rfl,_⟩|⟨v1,b1,hg1,rfl,_⟩:=this
  ·simp[an]at hx
  rw[bB,M2s id k hs]at hx
  exact⟨v1,b1,hg1,hx⟩
 have fromOld:∀ id ver b x,σ id=none→hget H id=some (ver,b)→x∈an b (M id)→¬ oO h Mc x:=by
  intro id ver b x hs hg hx ho
  obtain⟨id',k,ver',b',hs',hg',hx'⟩:=ownH x ho
  have hne:id≠id':=fun e=>by rw[e,hs']at hs;cases hs
  exact R.heap.disj id ver b id' ver' b' hg hg' hne x hx hx'
 have someNone:∀ id k ver b x id' ver' b',σ id=some k→hget H2 id=some (ver,b)→x∈an b (M2 id)→σ id'=none→hget H id'=some (ver',b')→x ∉ an b' (M id'):=by
  intro id k ver b x id' ver' b' hs hg hx hs' hg' hx'
  obtain⟨v0,b0,hg0,hx0⟩:=hown id k ver b x hs hg hx
  rcases R'.own k v0 b0 hg0 x hx0 with ho|hlt
  ·exact fromOld id' ver' b' x hs' hg' hx' ho
  have:=(R.heap.apart id' ver' b' hg' x hx').1
  exact absurd this (by simp only at hlt;omega)
 refine⟨⟨R.size,by show 1≤clk+2;omega,fun k=>cv hKm (by show clk≤clk+2;omega) hKeeps _ _ (R.env k),?_,fun b hb=>toK2 b (R.up b hb),?_,?_,Nat.le_trans R.grown R'.grown,?_,R'.os.trans R.os,R'.tape.trans R.tape,R'.output.trans R.output,?_,R.glob.mono hKm⟩,?_⟩
 ·constructor
  ·intro id ver b hg
   have:=hH2 id ver b hg
   cases hs:σ id with
   | none=>
    rw[hs]at this
    simp only at this
    have h1:=R.heap.blk id ver b this
    simp only at h1
    rw[M2n id hs]
    refine⟨by show ver<clk+2;omega,gM hKm (by show clk≤clk+2;omega) hKeeps b _ (fun x hx=>?_) h1.2⟩
    exact R'.same x (R.heap.apart id ver b this x hx).1 (fromOld id ver b x hs this hx)
   | some k=>
    rw[hs]at this
    simp only at this
    rw[M2s id k hs]
    obtain⟨rfl,hv⟩|⟨v1,b1,hg1,rfl,hr1⟩:=this
    ·exact⟨by show ver<clk+2;omega,by simp[aB]⟩
    refine⟨(hRen k v1 id ver hr1 (R'.heap.blk k v1 b1 hg1).1).1,?_⟩
    exact kR hRen (hblkK k v1 b1 hg1)
  ·intro id ver b hg
   have:=hH2 id ver b hg
   cases hs:σ id with
   | none=>
    rw[hs]at this
    rw[M2n id hs]
    exact R.heap.nodup id ver b this
   | some k=>
    rw[hs]at this
    simp only at this
    rw[M2s id k hs]
    obtain⟨rfl,hv⟩|⟨v1,b1,hg1,rfl,hr1⟩:=this
    ·simp[an]
    rw[bB];exact R'.heap.nodup k v1 b1 hg1
  ·intro id ver b id' ver' b' hg hg' hne x hx
   cases hs:σ id with
   | none=>
    have h1:=hH2 id ver b hg
    rw[hs]at h1
    rw[M2n id hs]at hx
    cases hs':σ id' with
    | none=>
     have h2:=hH2 id' ver' b' hg'
     rw[hs']at h2
     rw[M2n id' hs']
     exact R.heap.disj id ver b id' ver' b' h1 h2 hne x hx
    | some k'=>exact fun hx'=>someNone id' k' ver' b' x id ver b hs' hg' hx' hs h1 hx
   | some k=>
    cases hs':σ id' with
    | none=>
     have h2:=hH2 id' ver' b' hg'
     rw[hs']at h2
     rw[M2n id' hs']
     exact someNone id k ver b x id' ver' b' hs hg hx hs' h2
    | some k'=>
     intro hx'
     obtain⟨v0,b0,hg0,hx0⟩:=hown id k ver b x hs hg hx
     obtain⟨v1,b1,hg1,hx1⟩:=hown id' k' ver' b' x hs' hg' hx'
     have hkk:k≠k':=fun e=>hne (hσ id id' k hs (by rw[hs',e]))
     exact R'.heap.disj k v0 b0 k' v1 b1 hg0 hg1 hkk x hx0 hx1
  ·intro id ver b hg x hx
   cases hs:σ id with
   | none=>
    have h1:=hH2 id ver b hg
    rw[hs]at h1
    rw[M2n id hs]at hx
    obtain⟨h2,h3⟩:=R.heap.apart id ver b h1 x hx
    refine⟨Nat.lt_of_lt_of_le h2 R'.grown,fun hk=>?_⟩
    obtain⟨rfl,hp⟩|⟨rfl,_⟩:=hK2
    ·rcases R'.new x hk with h4|h4|h4
     ·exact h3 (hp x h4)
     ·exact fromOld id ver b x hs h1 hx h4
     simp only at h4;omega
    exact h3 hk
   | some k=>
    obtain⟨v0,b0,hg0,hx0⟩:=hown id k ver b x hs hg hx
    obtain⟨h2,h3⟩:=R'.heap.apart k v0 b0 hg0 x hx0
    refine⟨h2,fun hk=>h3 ?_⟩
    obtain⟨rfl,hp⟩|⟨rfl,_⟩:=hK2
    ·exact hk
    exact R'.up x (hKp x hk)
  intro b hb
  obtain⟨rfl,hp⟩|⟨rfl,_⟩:=hK2
  ·exact R'.heap.low b hb
  exact Nat.lt_of_lt_of_le (R.heap.low b hb) R'.grown
 ·intro b hb
  obtain⟨rfl,hp⟩|⟨rfl,_⟩:=hK2
  ·rcases R'.new b hb with h4|h4|h4
   ·exact R.new b (hp b h4)
   ·obtain⟨id,k,ver,b0,_,hg,hm⟩:=ownH b h4
    exact .inr (R.own id ver b0 hg b hm)
   exact .inr (.inr (Nat.le_trans R.grown h4))
  exact R.new b hb
 ·intro id ver b hg x hx
  cases hs:σ id with
  | none=>
   have h1:=hH2 id ver b hg
   rw[hs]at h1
   rw[M2n id hs]at hx
   exact R.own id ver b h1 x hx
  | some k=>
   obtain⟨v0,b0,hg0,hx0⟩:=hown id k ver b x hs hg hx
   rcases R'.own k v0 b0 hg0 x hx0 with ho|hlt
   ·obtain⟨id',k',ver',b',_,hg',hm⟩:=ownH x ho
    exact R.own id' ver' b' hg' x hm
   exact .inr (Nat.le_trans R.grown hlt)
 ·intro b hb hno
  have hlt:b<w.heap.size:=Nat.lt_of_lt_of_le hb R.grown
  rw[← R.same b hb hno]
  refine R'.same b hlt (fun ho=>?_)
  obtain⟨id',k',ver',b',_,hg',hm⟩:=ownH b ho
  rcases R.own id' ver' b' hg' b hm with h1|h1
  ·exact hno h1
  omega
 ·intro id hid b hg
  have h1:=hH2 id 0 b hg
  cases hs:σ id with
  | none=>
   rw[hs]at h1
   rw[M2n id hs]
   exact R.base id hid b h1
  | some k=>
   rw[hs]at h1
   simp only at h1
   obtain⟨_,hvc⟩|⟨v1,b1,hg1,_,hr1⟩:=h1
   ·omega
   obtain⟨_,hd1⟩:=hρ k v1 id 0 hr1
   obtain⟨h3,h4⟩|⟨h3,⟨b0,h4⟩,hk,hMc⟩:=hd1
   ·omega
   subst h3
   rw[M2s id k hs]
   have l1:=R'.base k hk b1 hg1
   have l2:=R.base id hid b0 h4
   simp only at l1
   rw[hMc]at l1
   exact⟨l1.1.trans l2.1,l1.2.1.trans l2.2.1,l1.2.2.trans l2.2.2⟩
 intro r v hfr hr
 refine lT hRen r v ?_
 rcases hfr with rfl|hfr
 ·exact hr
 exact Et r v hfr hr
end
end Go.Proofs.Qr
