/- The abstract state (slots,blocks,a clock) and what it means that a frame and a world read as one. Own work. -/
import Derived.Test.YtghfphjfkdbpjaaGreatB1
set_option linter.all false
namespace Go.Proofs.QB
inductive Blk where
 | var (cells:List AV)
 | row (z:Bool) (rows:List (List AV))
 | tree (rows:List (List AV))
 | map (es:List (ByteArray × Value))
 | gone
abbrev Env:=List (Nat × AV)
abbrev Hp:=List (Nat × Nat × Blk)
structure St where
 env:Env
 heap:Hp
 clk:Nat
def look:Env→Nat→AV
 | [],_=>.dead
 | (k,v)::r,i=>if k=i then v else look r i
def hget:Hp→Nat→Option (Nat × Blk)
 | [],_=>none
 | (k,ver,b)::r,i=>if k=i then some (ver,b) else hget r i
theorem mK (k v r i):look ((k,v)::r) i=if k=i then v else look r i:=rfl
theorem gY (k ver b r i):hget ((k,ver,b)::r) i=if k=i then some (ver,b) else hget r i:=rfl
structure Cb where
 base:Option (Nat × Nat)
 cap:Nat
 sz:Nat
 fp:List Nat
def Cb.Like (c d:Cb):Prop:=c.base=d.base∧c.cap=d.cap∧c.sz=d.sz
theorem Cb.Like.refl (c:Cb):c.Like c:=⟨rfl,rfl,rfl⟩
def au:Blk→Cb→List Nat
 | .var _,cb | .row _ _,cb | .map _,cb=>(match cb.base with | some (b,_)=>b::cb.fp | none=>cb.fp)
 | _,_=>[]
mutual
def erep (w:World)(K:Nat→Prop)(clk:Nat)(H:Hp)(M:Nat→Cb):AV→Value→Prop
 | .lit u,v=>v=u
 | .sl rows,v=>rep w K (.sl rows) v []
 | .own _,_=>False
 | .loc cells,v=>∃ b off,v=.pointer (some ⟨b,off,none⟩)∧K b∧aE w K b off cells []
 | .ptr id ver i o,v=>ver<clk∧∃ ad,v=.pointer (some ad)∧∀ blk,hget H id=some (ver,blk)→∃ b off,(M id).base=some (b,off)∧ad=⟨b,off+i*(M id).sz+o,none⟩
 | .ref id ver i n,v=>ver<clk∧∃ a c,v=.slice a n c∧n≤c∧∀ blk,hget H id=some (ver,blk)→i+c=(M id).cap∧(c=0∨∃ b off,(M id).base=some (b,off)∧a=some ⟨b,off+i*(M id).sz,none⟩)
 | .fn f caps,v=>∃ cs,v=.func (.func f) #[] cs∧ay w K clk H M caps cs.toList
 | .mp id ver,v=>ver<clk∧∃ r,v=.map (some r)∧∀ blk,hget H id=some (ver,blk)→(M id).base=some (r,0)
 | .agg cells,v=>∃ cs,v=.agg cs∧ay w K clk H M cells cs.toList
 | .tup vs,v=>∃ cs,v=.tuple cs∧ay w K clk H M vs cs.toList
 | .dead,_=>True
def ay (w:World)(K:Nat→Prop)(clk:Nat)(H:Hp)(M:Nat→Cb):List AV→List Value→Prop
 | [],[]=>True
 | a::as,v::vs=>erep w K clk H M a v∧ay w K clk H M as vs
 | _,_=>False
end
def aC (w:World)(K:Nat→Prop)(clk:Nat)(H:Hp)(M:Nat→Cb):Blk→Cb→Prop
 | .var cells,cb=>∃ b c e,cb.base=some (b,0)∧cb.fp=[]∧w.heap[b]?=some (.cells c e (0,0))∧ay w K clk H M cells c.toList
 | .row z rows,cb=>(cb.base=none∧rows=[]∧cb.cap=0∧cb.fp=[])∨∃ b off c e,cb.base=some (b,off)∧w.heap[b]?=some (.cells c e (0,0)) ∧
  off+cb.cap*cb.sz≤c.size∧rows.length≤cb.cap∧(z=true→rows=[]→cb.cap=0)∧aA w K cb.sz b off rows cb.fp
 | .tree rows,cb=>(cb.base=none∧rows=[]∧cb.cap=0)∨∃ b off,cb.base=some (b,off)∧K b∧rows.length≤cb.cap∧aA w K cb.sz b off rows []
 | .map es,cb=>∃ b ents c,cb.base=some (b,0)∧cb.fp=[]∧w.heap[b]?=some (.map ents c)∧ents.toList.map (fun e=>(e.key,e.val))=es.map (fun p=>(Value.string p.1,p.2))∧∀ p,p∈es→p.2.oneCell'=true
 | .gone,_=>True
structure gZ (w:World) (K:Nat→Prop) (clk:Nat) (H:Hp) (M:Nat→Cb):Prop where
 blk:∀ id ver b,hget H id=some (ver,b)→ver<clk∧aC w K clk H M b (M id)
 nodup:∀ id ver b,hget H id=some (ver,b)→(au b (M id)).Nodup
 disj:∀ id ver b id' ver' b',hget H id=some (ver,b)→hget H id'=some (ver',b')→id≠id'→∀ x,x∈au b (M id)→x ∉ au b' (M id')
 apart:∀ id ver b,hget H id=some (ver,b)→∀ x,x∈au b (M id)→x<w.heap.size∧¬ K x
 low:∀ b,K b→b<w.heap.size
def Gl (w:World)(K:Nat→Prop):Prop:=∀ p,p∈glob→K p.1∧∃ c e z,w.heap[p.1]?=some (.cells c e z)∧p.2 c.toList
theorem Gl.mono {w w':World}{K K':Nat→Prop}(h:Gl w K)(hK:∀ b,K b→w'.heap[b]?=w.heap[b]?∧K' b):Gl w' K':=by
 intro p hp
 obtain ⟨h1,c,e,z,h2,h3⟩:=h p hp
 obtain ⟨h4,h5⟩:=hK _ h1
 exact ⟨h5,c,e,z,by rw [h4];exact h2,h3⟩
structure Fr where
 w:World
 K:Nat→Prop
 O:Nat→Prop
 M:Nat→Cb
 ids:List Nat
structure Rel (fr:Fr) (nt:Nat) (st:St) (K:Nat→Prop) (M:Nat→Cb) (tmps:Array Value) (w:World):Prop where
 size:tmps.size=nt
 pos:1≤st.clk
 env:∀ k,erep w K st.clk st.heap M (look st.env k) (tmps.getD k undef)
 heap:gZ w K st.clk st.heap M
 up:∀ b,fr.K b→K b
 new:∀ b,K b→fr.K b∨fr.O b∨fr.w.heap.size≤b
 own:∀ id ver b,hget st.heap id=some (ver,b)→∀ x,x∈au b (M id)→fr.O x∨fr.w.heap.size≤x
 grown:fr.w.heap.size≤w.heap.size
 same:∀ b,b<fr.w.heap.size→¬ fr.O b→w.heap[b]?=fr.w.heap[b]?
 os:w.os=fr.w.os
 tape:w.tape=fr.w.tape
 output:w.output=fr.w.output
 base:∀ id,id∈fr.ids→∀ b,hget st.heap id=some (0,b)→(M id).Like (fr.M id)
 glob:Gl w K
section mono
variable {w w':World} {K K':Nat→Prop} {clk clk':Nat} {H H':Hp} {M M':Nat→Cb}
def kc (clk:Nat)(H:Hp)(M:Nat→Cb)(H':Hp)(M':Nat→Cb):Prop:=
 ∀ id ver b',ver<clk→hget H' id=some (ver,b')→∃ b,hget H id=some (ver,b)∧(M' id).Like (M id)
theorem kc.refl (clk:Nat)(H:Hp)(M:Nat→Cb):kc clk H M H M:=fun _ _ b _ h=>⟨b,h,.refl _⟩
mutual
theorem em (hK:∀ b,K b→w'.heap[b]?=w.heap[b]?∧K' b)(hc:clk≤clk')(hk:kc clk H M H' M'):∀ (av:AV) (v:Value),erep w K clk H M av v→erep w' K' clk' H' M' av v
 | .lit u,v,h=>by simpa [erep] using h
 | .sl rows,v,h=>by simp only [erep] at h ⊢;exact lC hK _ _ _ (by simp) h
 | .own _,_,h=>by simp [erep] at h
 | .loc cells,v,h=>by
  simp only [erep] at h ⊢
  obtain ⟨b,off,hv,hb,hr⟩:=h
  exact ⟨b,off,hv,(hK b hb).2,gw hK b off cells [] (hK b hb).1 (by simp) hr⟩
 | .ptr id ver i o,v,h=>by
  simp only [erep] at h ⊢
  obtain ⟨hv,ad,rfl,h⟩:=h
  refine ⟨by omega,ad,rfl,fun blk hg=>?_⟩
  obtain ⟨b,hb,hl⟩:=hk id ver blk hv hg
  obtain ⟨x,off,h1,h2⟩:=h b hb
  exact ⟨x,off,by rw [hl.1];exact h1,by rw [hl.2.2];exact h2⟩
 | .ref id ver i n,v,h=>by
  simp only [erep] at h ⊢
  obtain ⟨hv,a,c,rfl,hn,h⟩:=h
  refine ⟨by omega,a,c,rfl,hn,fun blk hg=>?_⟩
  obtain ⟨b,hb,hl⟩:=hk id ver blk hv hg
  obtain ⟨h3,h4⟩:=h b hb
  exact ⟨by rw [hl.2.1];exact h3,by rw [hl.1,hl.2.2];exact h4⟩
 | .fn f caps,v,h=>by
  simp only [erep] at h ⊢
  obtain ⟨cs,hv,hr⟩:=h
  exact ⟨cs,hv,gR hK hc hk caps _ hr⟩
 | .mp id ver,v,h=>by
  simp only [erep] at h ⊢
  obtain ⟨hv,r,rfl,h⟩:=h
  refine ⟨by omega,r,rfl,fun blk hg=>?_⟩
  obtain ⟨b,hb,hl⟩:=hk id ver blk hv hg
  rw [hl.1];exact h b hb
 | .agg cells,v,h=>by
  simp only [erep] at h ⊢
  obtain ⟨cs,hv,hr⟩:=h
  exact ⟨cs,hv,gR hK hc hk cells _ hr⟩
 | .tup vs,v,h=>by
  simp only [erep] at h ⊢
  obtain ⟨cs,hv,hr⟩:=h
  exact ⟨cs,hv,gR hK hc hk vs _ hr⟩
 | .dead,_,_=>by simp [erep]
theorem gR (hK:∀ b,K b→w'.heap[b]?=w.heap[b]?∧K' b)(hc:clk≤clk')(hk:kc clk H M H' M'):∀ (as:List AV) (vs:List Value),ay w K clk H M as vs→ay w' K' clk' H' M' as vs
 | [],[],_=>by simp [ay]
 | a::as,v::vs,h=>by
  simp only [ay] at h ⊢
  exact ⟨em hK hc hk a v h.1,gR hK hc hk as vs h.2⟩
 | [],_::_,h=>by simp [ay] at h
 | _::_,[],h=>by simp [ay] at h
end
theorem mn (hK:∀ b,K b→w'.heap[b]?=w.heap[b]?∧K' b)(hc:clk≤clk')(hk:kc clk H M H' M')(b:Blk)(cb:Cb)(ho:∀ x,x∈au b cb→w'.heap[x]?=w.heap[x]?)
  (h:aC w K clk H M b cb):aC w' K' clk' H' M' b cb:=by
 cases b with
 | var cells=>
  simp only [aC] at h ⊢
  obtain ⟨b,c,e,h1,h2,h3,h4⟩:=h
  exact ⟨b,c,e,h1,h2,by rw [ho b (by simp [au,h1])];exact h3,gR hK hc hk _ _ h4⟩
 | row z rows=>
  simp only [aC] at h ⊢
  rcases h with h | ⟨b,off,c,e,h1,h2,h3,h4,hz,h5⟩
  ·exact .inl h
  ·have hb:=ho b (by simp [au,h1])
   exact .inr ⟨b,off,c,e,h1,by rw [hb];exact h2,h3,h4,hz,ec hK _ _ _ _ _ hb (fun x hx=>ho x (by simp [au,h1,hx])) h5⟩
 | tree rows=>
  simp only [aC] at h ⊢
  rcases h with h | ⟨b,off,h1,h2,h3,h4⟩
  ·exact .inl h
  ·exact .inr ⟨b,off,h1,(hK b h2).2,h3,ec hK _ _ _ _ _ (hK b h2).1 (by simp) h4⟩
 | map es=>
  simp only [aC] at h ⊢
  obtain ⟨b,ents,c,h1,h2,h3,h4⟩:=h
  exact ⟨b,ents,c,h1,h2,by rw [ho b (by simp [au,h1])];exact h3,h4⟩
 | gone=>simp [aC]
theorem eZ:∀ {as:List AV} {vs:List Value},ay w K clk H M as vs→as.length=vs.length
 | [],[],_=>rfl
 | a::as,v::vs,h=>by simp only [ay] at h;simp [eZ h.2]
 | [],_::_,h=>by simp [ay] at h
 | _::_,[],h=>by simp [ay] at h
theorem pj:∀ {as:List AV} {vs:List Value} {i:Nat} {a:AV},ay w K clk H M as vs→as[i]?=some a→∃ v,vs[i]?=some v∧erep w K clk H M a v
 | [],[],i,a,_,h=>by simp at h
 | x::as,v::vs,0,a,h,ha=>by simp only [ay] at h;simp at ha;subst ha;exact ⟨v,rfl,h.1⟩
 | x::as,v::vs,i+1,a,h,ha=>by simp only [ay] at h;simp at ha;obtain ⟨u,hu,hr⟩:=pj h.2 ha;exact ⟨u,by simpa using hu,hr⟩
 | [],_::_,_,_,h,_=>by simp [ay] at h
 | _::_,[],_,_,h,_=>by simp [ay] at h
theorem pY:∀ {as:List AV} {vs:List Value} {bs:List AV} {us:List Value},ay w K clk H M as vs→ay w K clk H M bs us→ay w K clk H M (as++bs) (vs++us)
 | [],[],_,_,_,h=>by simpa using h
 | a::as,v::vs,_,_,h,h'=>by simp only [ay,List.cons_append] at h ⊢;exact ⟨h.1,pY h.2 h'⟩
 | [],_::_,_,_,h,_=>by simp [ay] at h
 | _::_,[],_,_,h,_=>by simp [ay] at h
theorem tw:∀ {as:List AV} {vs:List Value} (n:Nat),ay w K clk H M as vs→ay w K clk H M (as.take n) (vs.take n)
 | [],[],_,_=>by simp [ay]
 | a::as,v::vs,0,_=>by simp [ay]
 | a::as,v::vs,n+1,h=>by simp only [ay,List.take_succ_cons] at h ⊢;exact ⟨h.1,tw n h.2⟩
 | [],_::_,_,h=>by simp [ay] at h
 | _::_,[],_,h=>by simp [ay] at h
theorem tx:∀ {as:List AV} {vs:List Value} (n:Nat),ay w K clk H M as vs→ay w K clk H M (as.drop n) (vs.drop n)
 | [],[],_,_=>by simp [ay]
 | a::as,v::vs,0,h=>by simpa using h
 | a::as,v::vs,n+1,h=>by simp only [ay,List.drop_succ_cons] at h ⊢;exact tx n h.2
 | [],_::_,_,h=>by simp [ay] at h
 | _::_,[],_,h=>by simp [ay] at h
theorem sp:∀ {as:List AV} {vs:List Value} (i:Nat) {a:AV} {v:Value},ay w K clk H M as vs→erep w K clk H M a v→ay w K clk H M (as.set i a) (vs.set i v)
 | [],[],_,_,_,_,_=>by simp [ay]
 | _::as,_::vs,0,_,_,h,h'=>by simp only [ay,List.set_cons_zero] at h ⊢;exact ⟨h',h.2⟩
 | _::as,_::vs,i+1,_,_,h,h'=>by simp only [ay,List.set_cons_succ] at h ⊢;exact ⟨h.1,sp i h.2 h'⟩
 | [],_::_,_,_,_,h,_=>by simp [ay] at h
 | _::_,[],_,_,_,h,_=>by simp [ay] at h
end mono
end Go.Proofs.QB
