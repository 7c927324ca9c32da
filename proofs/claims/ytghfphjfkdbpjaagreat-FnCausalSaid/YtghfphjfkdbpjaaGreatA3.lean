/- How the abstract state turns: a slot is written,a block is laid,written,let go,or written no more. Own work. -/
import Derived.Test.YtghfphjfkdbpjaaGreatA2
set_option linter.all false
namespace Go.Proofs.QA
def updM (M:Nat→Cb)(id:Nat)(cb:Cb):Nat→Cb:=fun j=>if j=id then cb else M j
@[simp] theorem bT (M id cb):updM M id cb id=cb:=by simp [updM]
theorem bW {M:Nat→Cb}{id j:Nat}{cb:Cb}(h:j≠id):updM M id cb j=M j:=by simp [updM,h]
theorem aJ (id ver b H):hget ((id,ver,b)::H) id=some (ver,b):=by simp [fy]
theorem bd {id j:Nat}(h:j≠id)(ver b H):hget ((id,ver,b)::H) j=hget H j:=by
 rw [fy,if_neg (fun e=>h e.symm)]
section
variable {fr:Fr} {nt:Nat} {env:Env} {H:Hp} {clk:Nat} {K:Nat→Prop} {M:Nat→Cb} {tmps:Array Value} {w:World}
theorem Rel.put (R:Rel fr nt ⟨env,H,clk⟩ K M tmps w){d:Nat}(hd:d<nt){av:AV}{v:Value}(h:erep w K clk H M av v) :
  Rel fr nt ⟨(d,av)::env,H,clk⟩ K M (tmps.setIfInBounds d v) w:=by
 refine { R with size:=by simp [R.size],env:=fun k=>?_ }
 have hk:=R.env k
 have hsz:=R.size
 simp only [kJ]
 by_cases hdk:d=k
 ·subst hdk
  rw [if_pos rfl]
  simp only [Array.getD_eq_getD_getElem?,Array.getElem?_setIfInBounds,if_true]
  rw [if_pos (by omega)]
  exact h
 ·rw [if_neg hdk]
  simp only [Array.getD_eq_getD_getElem?,Array.getElem?_setIfInBounds,if_neg hdk] at hk ⊢
  exact hk
theorem Rel.weaken (R:Rel fr nt ⟨env,H,clk⟩ K M tmps w){env':Env}(h:∀ k,look env' k=look env k∨look env' k=.dead):Rel fr nt ⟨env',H,clk⟩ K M tmps w:=by
 refine { R with env:=fun k=>?_ }
 rcases h k with h | h
 ·show erep _ _ _ _ _ (look env' k) _
  rw [h];exact R.env k
 ·show erep _ _ _ _ _ (look env' k) _
  rw [h];simp [erep]
theorem Rel.upd (R:Rel fr nt ⟨env,H,clk⟩ K M tmps w){id ver clk':Nat}{blk:Blk}{cb:Cb}{w':World}(T:Nat→Prop)
  (hsz:w.heap.size≤w'.heap.size) (hw:∀ b,b<w.heap.size→¬ T b→w'.heap[b]?=w.heap[b]?)
  (hos:w'.os=w.os) (htape:w'.tape=w.tape) (hout:w'.output=w.output)
  (hTK:∀ b,T b→¬ K b) (hTO:∀ b,T b→∀ j v x,j≠id→hget H j=some (v,x)→b ∉ ar x (M j)) (hTf:∀ b,T b→fr.O b∨fr.w.heap.size≤b)
  (hc:clk≤clk') (hv:ver<clk')
  (hver:clk≤ver∨∃ x,hget H id=some (ver,x)∧cb.Like (M id))
  (hO:∀ x,x∈ar blk cb→x<w'.heap.size∧¬ K x∧(fr.O x∨fr.w.heap.size≤x)∧∀ j v y,j≠id→hget H j=some (v,y)→x ∉ ar y (M j))
  (hnd:(ar blk cb).Nodup)
  (hbase:id∈fr.ids→ver=0→cb.Like (fr.M id))
  (hblk:aA w' K clk' ((id,ver,blk)::H) (updM M id cb) blk cb) :
  Rel fr nt ⟨env,(id,ver,blk)::H,clk'⟩ K (updM M id cb) tmps w':=by
 have hK:∀ b,K b→w'.heap[b]?=w.heap[b]?∧K b:=fun b hb=>⟨hw b (R.heap.low b hb) (fun ht=>hTK b ht hb),hb⟩
 have hkeeps:iz clk H M ((id,ver,blk)::H) (updM M id cb):=by
  intro j v b' hlt hg
  by_cases hj:j=id
  ·subst hj
   rw [aJ] at hg
   obtain ⟨rfl,rfl⟩:=Prod.mk.inj (Option.some.inj hg)
   rcases hver with h | ⟨x,hx,hl⟩
   ·omega
   ·exact ⟨x,hx,by rw [bT];exact hl⟩
  ·rw [bd hj] at hg
   exact ⟨b',hg,by rw [bW hj];exact .refl _⟩
 have hoth:∀ j v x,j≠id→hget H j=some (v,x)→∀ b,b∈ar x (M j)→w'.heap[b]?=w.heap[b]?:=by
  intro j v x hj hg b hb
  exact hw b (R.heap.apart j v x hg b hb).1 (fun ht=>hTO b ht j v x hj hg hb)
 refine { size:=R.size,pos:=Nat.le_trans R.pos hc,env:=fun k=>dr hK hc hkeeps _ _ (R.env k),heap:=?_,up:=R.up,new:=R.new,own:=?_,grown:=Nat.le_trans R.grown hsz,same:=?_,os:=hos.trans R.os,tape:=htape.trans R.tape,output:=hout.trans R.output,base:=?_,glob:=R.glob.mono hK }
 ·constructor
  ·intro j v b hg
   by_cases hj:j=id
   ·subst hj
    rw [aJ] at hg
    obtain ⟨rfl,rfl⟩:=Prod.mk.inj (Option.some.inj hg)
    rw [bT]
    exact ⟨hv,hblk⟩
   ·rw [bd hj] at hg
    have:=R.heap.blk j v b hg
    simp only at this
    rw [bW hj]
    exact ⟨Nat.lt_of_lt_of_le this.1 hc,km hK hc hkeeps b _ (hoth j v b hj hg) this.2⟩
  ·intro j v b hg
   by_cases hj:j=id
   ·subst hj
    rw [aJ] at hg
    obtain ⟨rfl,rfl⟩:=Prod.mk.inj (Option.some.inj hg)
    rw [bT];exact hnd
   ·rw [bd hj] at hg
    rw [bW hj];exact R.heap.nodup j v b hg
  ·intro j v b j' v' b' hg hg' hne x hx
   by_cases hj:j=id
   ·subst hj
    rw [aJ] at hg
    obtain ⟨rfl,rfl⟩:=Prod.mk.inj (Option.some.inj hg)
    rw [bT] at hx
    rw [bd (Ne.symm hne)] at hg'
    rw [bW (Ne.symm hne)]
    exact (hO x hx).2.2.2 j' v' b' (Ne.symm hne) hg'
   ·rw [bd hj] at hg
    rw [bW hj] at hx
    by_cases hj':j'=id
    ·subst hj'
     rw [aJ] at hg'
     obtain ⟨rfl,rfl⟩:=Prod.mk.inj (Option.some.inj hg')
     rw [bT]
     intro hx'
     exact (hO x hx').2.2.2 j v b hj hg hx
    ·rw [bd hj'] at hg'
     rw [bW hj']
     exact R.heap.disj j v b j' v' b' hg hg' hne x hx
  ·intro j v b hg x hx
   by_cases hj:j=id
   ·subst hj
    rw [aJ] at hg
    obtain ⟨rfl,rfl⟩:=Prod.mk.inj (Option.some.inj hg)
    rw [bT] at hx
    exact ⟨(hO x hx).1,(hO x hx).2.1⟩
   ·rw [bd hj] at hg
    rw [bW hj] at hx
    have:=R.heap.apart j v b hg x hx
    exact ⟨Nat.lt_of_lt_of_le this.1 hsz,this.2⟩
  ·intro b hb
   exact Nat.lt_of_lt_of_le (R.heap.low b hb) hsz
 ·intro j v b hg x hx
  by_cases hj:j=id
  ·subst hj
   simp only [aJ] at hg
   obtain ⟨rfl,rfl⟩:=Prod.mk.inj (Option.some.inj hg)
   rw [bT] at hx
   exact (hO x hx).2.2.1
  ·simp only [bd hj] at hg
   rw [bW hj] at hx
   exact R.own j v b hg x hx
 ·intro b hb hno
  have hlt:b<w.heap.size:=Nat.lt_of_lt_of_le hb R.grown
  rw [← R.same b hb hno]
  refine hw b hlt (fun ht=>?_)
  rcases hTf b ht with h | h
  ·exact hno h
  ·omega
 ·intro j hj b hg
  by_cases hji:j=id
  ·subst hji
   simp only [aJ] at hg
   obtain ⟨rfl,rfl⟩:=Prod.mk.inj (Option.some.inj hg)
   rw [bT];exact hbase hj rfl
  ·simp only [bd hji] at hg
   rw [bW hji];exact R.base j hj b hg
theorem Rel.letGo (R:Rel fr nt ⟨env,H,clk⟩ K M tmps w)(id:Nat):Rel fr nt ⟨env,(id,clk,.gone)::H,clk+1⟩ K M tmps w:=by
 have:=R.upd (id:=id) (ver:=clk) (clk':=clk+1) (blk:=.gone) (cb:=M id) (w':=w) (fun _=>False) (Nat.le_refl _) (fun _ _ _=>rfl) rfl rfl rfl (by simp) (by simp) (by simp)
  (by omega) (by omega) (.inl (Nat.le_refl _)) (by simp [ar]) (by simp [ar]) (fun hm h0=>?_) (by simp [aA])
 ·have he:updM M id (M id)=M:=by funext j;unfold updM;split <;> simp_all
  rw [he] at this
  exact this
 ·have:=R.pos;simp only at this;omega
theorem Rel.freeze (R:Rel fr nt ⟨env,H,clk⟩ K M tmps w){id ver:Nat}{z:Bool}{rows:List (List AV)}(hg:hget H id=some (ver,.row z rows)) :
  Rel fr nt ⟨env,(id,ver,.tree (cv rows))::H,clk⟩ (fun b=>K b∨b∈ar (.row z rows) (M id)) M tmps w:=by
 have hK:∀ b,K b→w.heap[b]?=w.heap[b]?∧(K b∨b∈ar (.row z rows) (M id)):=fun b hb=>⟨rfl,.inl hb⟩
 have hkeeps:iz clk H M ((id,ver,.tree (cv rows))::H) M:=by
  intro j v b' _ hg'
  by_cases hj:j=id
  ·subst hj
   rw [aJ] at hg'
   obtain ⟨rfl,rfl⟩:=Prod.mk.inj (Option.some.inj hg')
   exact ⟨_,hg,.refl _⟩
  ·rw [bd hj] at hg'
   exact ⟨b',hg',.refl _⟩
 have hb:=R.heap.blk id ver _ hg
 refine { size:=R.size,pos:=R.pos,env:=fun k=>dr hK (Nat.le_refl _) hkeeps _ _ (R.env k),heap:=?_,up:=fun b hb=>.inl (R.up b hb),new:=?_,own:=?_,grown:=R.grown,same:=R.same,os:=R.os,tape:=R.tape,output:=R.output,base:=?_,glob:=R.glob.mono hK }
 ·constructor
  ·intro j v b hg'
   by_cases hj:j=id
   ·subst hj
    rw [aJ] at hg'
    obtain ⟨rfl,rfl⟩:=Prod.mk.inj (Option.some.inj hg')
    refine ⟨hb.1,?_⟩
    have h2:=hb.2
    simp only [aA] at h2 ⊢
    obtain ⟨h1,rfl,h3,_⟩|⟨b,off,c,e,h1,h2,h3,h4,_,h5⟩:=h2
    ·exact .inl ⟨h1,by simp,h3⟩
    ·refine .inr ⟨b,off,h1,.inr (by simp [ar,h1]),by rw [gR];exact h4,jg (fun b hb=>.inl hb) _ _ _ _ _ (fun x hx=>.inr (by simp [ar,h1,hx])) h5⟩
   ·rw [bd hj] at hg'
    have:=R.heap.blk j v b hg'
    exact ⟨this.1,km hK (Nat.le_refl _) hkeeps b _ (fun _ _=>rfl) this.2⟩
  ·intro j v b hg'
   by_cases hj:j=id
   ·subst hj
    rw [aJ] at hg'
    obtain ⟨rfl,rfl⟩:=Prod.mk.inj (Option.some.inj hg')
    simp [ar]
   ·rw [bd hj] at hg'
    exact R.heap.nodup j v b hg'
  ·intro j v b j' v' b' hg1 hg2 hne x hx
   by_cases hj:j=id
   ·subst hj
    rw [aJ] at hg1
    obtain ⟨rfl,rfl⟩:=Prod.mk.inj (Option.some.inj hg1)
    simp [ar] at hx
   ·rw [bd hj] at hg1
    by_cases hj':j'=id
    ·subst hj'
     rw [aJ] at hg2
     obtain ⟨rfl,rfl⟩:=Prod.mk.inj (Option.some.inj hg2)
     simp [ar]
    ·rw [bd hj'] at hg2
     exact R.heap.disj j v b j' v' b' hg1 hg2 hne x hx
  ·intro j v b hg' x hx
   by_cases hj:j=id
   ·subst hj
    rw [aJ] at hg'
    obtain ⟨rfl,rfl⟩:=Prod.mk.inj (Option.some.inj hg')
    simp [ar] at hx
   ·rw [bd hj] at hg'
    have:=R.heap.apart j v b hg' x hx
    refine ⟨this.1,fun h=>?_⟩
    rcases h with h | h
    ·exact this.2 h
    ·exact R.heap.disj j v b id ver _ hg' hg hj x hx h
  ·intro b h
   rcases h with h | h
   ·exact R.heap.low b h
   ·exact (R.heap.apart id ver _ hg b h).1
 ·intro b h
  rcases h with h | h
  ·exact R.new b h
  ·exact .inr (R.own id ver _ hg b h)
 ·intro j v b hg' x hx
  by_cases hj:j=id
  ·subst hj
   simp only [aJ] at hg'
   obtain ⟨rfl,rfl⟩:=Prod.mk.inj (Option.some.inj hg')
   simp [ar] at hx
  ·simp only [bd hj] at hg'
   exact R.own j v b hg' x hx
 ·intro j hj b hg'
  by_cases hji:j=id
  ·subst hji
   simp only [aJ] at hg'
   obtain ⟨rfl,rfl⟩:=Prod.mk.inj (Option.some.inj hg')
   exact R.base j hj _ hg
  ·simp only [bd hji] at hg'
   exact R.base j hj b hg'
end
end Go.Proofs.QA
