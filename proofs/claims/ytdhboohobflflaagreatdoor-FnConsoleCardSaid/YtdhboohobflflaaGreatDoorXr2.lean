/- Abstract values as trees,and what it means that a machine value in a world reads as one. Own work: no statement of the seat is in this text. -/
import Derived.Calls
import Derived.Test.YtdhboohobflflaaGreatDoorXr0
import Derived.Laws.World
import Derived.Laws.Sem
import Derived.Laws.Cells
set_option linter.all false
namespace Go.Proofs.Qr
inductive AV where
 | lit (v:Value)
 | sl (rows:List (List AV))
 | own (rows:List (List AV))
 | loc (cells:List AV)
 | ptr (id ver i o:Nat)
 | ref (id ver i n:Nat)
 | fn (f:FuncId) (caps:List AV)
 | mp (id ver:Nat)
 | agg (cells:List AV)
 | tup (vs:List AV)
 | dead
instance:Inhabited AV:=⟨.dead⟩
mutual
def rep (w:World)(K:Nat→Prop):AV→Value→List Nat→Prop
 | .lit u,v,F=>v=u∧F=[]∧u.oneCell'=true
 | .sl rows,v,F=>F=[]∧((∃ a c,v=.slice a 0 c∧rows=[])∨∃ b off cap sz,v=.slice (some ⟨b,off,none⟩) rows.length cap∧rows.length≤cap∧K b∧au w K sz b off rows [])
 | .own rows,v,F=>(∃ a,v=.slice a 0 0∧rows=[]∧F=[])∨∃ b off cap c e sz F',rows≠[]∧v=.slice (some ⟨b,off,none⟩) rows.length cap∧rows.length≤cap ∧
  w.heap[b]?=some (.cells c e (0,0))∧off+cap*sz≤c.size∧F=b::F'∧au w K sz b off rows F'
 | _,_,_=>False
def aF (w:World)(K:Nat→Prop)(b:Nat):Nat→List AV→List Nat→Prop
 | _,[],F=>F=[]
 | off,c::cs,F=>∃ v F1 F2,w.cell? ⟨b,off,none⟩=some v∧rep w K c v F1∧aF w K b (off+1) cs F2∧F=F1++F2
def au (w:World)(K:Nat→Prop)(sz b:Nat):Nat→List (List AV)→List Nat→Prop
 | _,[],F=>F=[]
 | off,r::rs,F=>∃ F1 F2,r.length=sz∧aF w K b off r F1∧au w K sz b (off+sz) rs F2∧F=F1++F2
end
theorem CB {w w':World}{b o:Nat}(h:w'.heap[b]?=w.heap[b]?):w'.cell? ⟨b,o,none⟩=w.cell? ⟨b,o,none⟩:=by
 simp[World.cell?,h]
section frame
variable {w w':World} {K K':Nat→Prop}
mutual
theorem il (hK:∀ b,K b→w'.heap[b]?=w.heap[b]?∧K' b):∀ (av:AV) (v:Value) (F:List Nat),(∀ b,b∈F→w'.heap[b]?=w.heap[b]?)→rep w K av v F→rep w' K' av v F
 | .lit u,v,F,_,h=>by simpa [rep] using h
 | .sl rows,v,F,_,h=>by
  simp only[rep]at h ⊢
  obtain⟨rfl,h⟩:=h
  refine⟨rfl,?_⟩
  rcases h with h|⟨b,off,cap,sz,hv,hc,hb,hr⟩
  ·exact .inl h
  exact .inr ⟨b,off,cap,sz,hv,hc,(hK b hb).2,da hK sz b off rows [] (hK b hb).1 (by simp) hr⟩
 | .own rows,v,F,hF,h=>by
  simp only[rep]at h ⊢
  rcases h with h|⟨b,off,cap,c,e,sz,F',hne,hv,hc,hb,hs,hFe,hr⟩
  ·exact .inl h
  subst hFe
  have h1:=hF b (by simp)
  exact .inr ⟨b,off,cap,c,e,sz,F',hne,hv,hc,by rw[h1];exact hb,hs,rfl,da hK sz b off rows F' h1 (fun x hx=>hF x (by simp[hx])) hr⟩
 | .loc _,_,_,_,h=>by simp[rep]at h
 | .ptr ..,_,_,_,h=>by simp[rep]at h
 | .ref ..,_,_,_,h=>by simp[rep]at h
 | .fn ..,_,_,_,h=>by simp[rep]at h
 | .mp ..,_,_,_,h=>by simp[rep]at h
 | .agg ..,_,_,_,h=>by simp[rep]at h
 | .tup ..,_,_,_,h=>by simp[rep]at h
 | .dead,_,_,_,h=>by simp[rep]at h
theorem fQ (hK:∀ b,K b→w'.heap[b]?=w.heap[b]?∧K' b)(b:Nat):∀ (off:Nat) (cs:List AV) (F:List Nat),w'.heap[b]?=w.heap[b]?→(∀ b,b∈F→w'.heap[b]?=w.heap[b]?)→aF w K b off cs F→aF w' K' b off cs F
 | _,[],F,_,_,h=>by simpa [aF] using h
 | off,c::cs,F,hb,hF,h=>by
  simp only[aF]at h ⊢
  obtain⟨v,F1,F2,hc,h1,h2,rfl⟩:=h
  exact⟨v,F1,F2,by rw[CB hb];exact hc,il hK c v F1 (fun x hx=>hF x (by simp[hx])) h1,fQ hK b (off+1) cs F2 hb (fun x hx=>hF x (by simp[hx])) h2,rfl⟩
theorem da (hK:∀ b,K b→w'.heap[b]?=w.heap[b]?∧K' b)(sz b:Nat):∀ (off:Nat) (rs:List (List AV)) (F:List Nat),w'.heap[b]?=w.heap[b]?→(∀ b,b∈F→w'.heap[b]?=w.heap[b]?)→au w K sz b off rs F→au w' K' sz b off rs F
 | _,[],F,_,_,h=>by simpa [au] using h
 | off,r::rs,F,hb,hF,h=>by
  simp only[au]at h ⊢
  obtain⟨F1,F2,hl,h1,h2,rfl⟩:=h
  exact⟨F1,F2,hl,fQ hK b off r F1 hb (fun x hx=>hF x (by simp[hx])) h1,da hK sz b (off+sz) rs F2 hb (fun x hx=>hF x (by simp[hx])) h2,rfl⟩
end
end frame
mutual
def toSl:AV→AV
 | .own rows=>.sl (bc rows)
 | .sl rows=>.sl rows
 | .lit v=>.lit v
 | .loc c=>.loc c
 | .ptr a b c d=>.ptr a b c d
 | .ref a b c d=>.ref a b c d
 | .fn f c=>.fn f c
 | .mp a b=>.mp a b
 | .agg c=>.agg c
 | .tup c=>.tup c
 | .dead=>.dead
def bP:List AV→List AV
 | []=>[]
 | c::cs=>toSl c::bP cs
def bc:List (List AV)→List (List AV)
 | []=>[]
 | r::rs=>bP r::bc rs
end
@[simp] theorem Vs (cs:List AV):bP cs=cs.map toSl:=by induction cs <;> simp_all [bP]
@[simp] theorem Vt (rs:List (List AV)):bc rs=rs.map (fun r=>r.map toSl):=by induction rs <;> simp_all [bc]
@[simp] theorem sq (cs:List AV):(bP cs).length=cs.length:=by simp
@[simp] theorem eA (rs:List (List AV)):(bc rs).length=rs.length:=by simp
section freeze
variable {w:World} {K K':Nat→Prop}
mutual
theorem CS (hK:∀ b,K b→K' b):∀ (av:AV) (v:Value) (F:List Nat),(∀ b,b∈F→K' b)→rep w K av v F→rep w K' (toSl av) v []
 | .lit u,v,F,_,h=>by
  simp only[rep,toSl]at h ⊢
  exact⟨h.1,trivial,h.2.2⟩
 | .sl rows,v,F,_,h=>by
  have:=il (w':=w) (K':=K') (fun b hb=>⟨rfl,hK b hb⟩) (.sl rows) v F (fun _ _=>rfl) h
  simp only[rep,toSl]at this ⊢
  exact⟨trivial,this.2⟩
 | .own rows,v,F,hF,h=>by
  simp only[rep,toSl]at h ⊢
  refine⟨trivial,?_⟩
  obtain⟨ad,hv,rfl,_⟩|⟨b,off,cap,c,e,sz,F',_,hv,hc,hb,hs,hFe,hr⟩:=h
  ·exact .inl ⟨ad,0,hv,rfl⟩
  subst hFe
  exact .inr ⟨b,off,cap,sz,by rw[eA];exact hv,by rw[eA];exact hc,hF b (by simp),fR hK sz b off rows F' (fun x hx=>hF x (by simp[hx])) hr⟩
 | .loc _,_,_,_,h=>by simp[rep]at h
 | .ptr ..,_,_,_,h=>by simp[rep]at h
 | .ref ..,_,_,_,h=>by simp[rep]at h
 | .fn ..,_,_,_,h=>by simp[rep]at h
 | .mp ..,_,_,_,h=>by simp[rep]at h
 | .agg ..,_,_,_,h=>by simp[rep]at h
 | .tup ..,_,_,_,h=>by simp[rep]at h
 | .dead,_,_,_,h=>by simp[rep]at h
theorem kX (hK:∀ b,K b→K' b)(b:Nat):∀ (off:Nat) (cs:List AV) (F:List Nat),(∀ b,b∈F→K' b)→aF w K b off cs F→aF w K' b off (bP cs) []
 | _,[],F,_,h=>by simp[aF,bP]
 | off,c::cs,F,hF,h=>by
  simp only[aF,bP]at h ⊢
  obtain⟨v,F1,F2,hc,h1,h2,rfl⟩:=h
  exact⟨v,[],[],hc,CS hK c v F1 (fun x hx=>hF x (by simp[hx])) h1,kX hK b (off+1) cs F2 (fun x hx=>hF x (by simp[hx])) h2,rfl⟩
theorem fR (hK:∀ b,K b→K' b)(sz b:Nat):∀ (off:Nat) (rs:List (List AV)) (F:List Nat),(∀ b,b∈F→K' b)→au w K sz b off rs F→au w K' sz b off (bc rs) []
 | _,[],F,_,h=>by simp[au,bc]
 | off,r::rs,F,hF,h=>by
  simp only[au,bc]at h ⊢
  obtain⟨F1,F2,hl,h1,h2,rfl⟩:=h
  exact⟨[],[],by rw[sq];exact hl,kX hK b off r F1 (fun x hx=>hF x (by simp[hx])) h1,fR hK sz b (off+sz) rs F2 (fun x hx=>hF x (by simp[hx])) h2,rfl⟩
end
end freeze
section rows
variable {w:World} {K:Nat→Prop} {sz b:Nat}
theorem pO (cs ds:List AV):∀ (off:Nat) (F1 F2:List Nat),aF w K b off cs F1→aF w K b (off+cs.length) ds F2→aF w K b off (cs++ds) (F1++F2):=by
 induction cs with
 | nil=>intro off F1 F2 h1 h2;simp only[aF]at h1;subst h1;simpa using h2
 | cons c cs ih=>
  intro off F1 F2 h1 h2
  simp only[aF,List.cons_append]at h1 ⊢
  obtain⟨v,G1,G2,hc,hr,hrs,rfl⟩:=h1
  exact⟨v,G1,G2++F2,hc,hr,ih (off+1) G2 F2 hrs (by rw[List.length_cons]at h2;rw[show off+1+cs.length=off+(cs.length+1) by omega];exact h2),by simp⟩
theorem eu (rs qs:List (List AV)):∀ (off:Nat) (F1 F2:List Nat),au w K sz b off rs F1→au w K sz b (off+rs.length*sz) qs F2→au w K sz b off (rs++qs) (F1++F2):=by
 induction rs with
 | nil=>intro off F1 F2 h1 h2;simp only[au]at h1;subst h1;simpa using h2
 | cons r rs ih=>
  intro off F1 F2 h1 h2
  simp only[au,List.cons_append]at h1 ⊢
  obtain⟨G1,G2,hl,hr,hrs,rfl⟩:=h1
  refine⟨G1,G2++F2,hl,hr,ih (off+sz) G2 F2 hrs ?_,by simp⟩
  rw[List.length_cons,Nat.succ_mul]at h2
  rw[show off+sz+rs.length*sz=off+(rs.length*sz+sz) by omega];exact h2
theorem fS (cs ds:List AV):∀ (off:Nat) (F:List Nat),aF w K b off (cs++ds) F→∃ F1 F2,F=F1++F2∧aF w K b off cs F1∧aF w K b (off+cs.length) ds F2:=by
 induction cs with
 | nil=>intro off F h;exact⟨[],F,rfl,by simp[aF],by simpa using h⟩
 | cons c cs ih=>
  intro off F h
  simp only[aF,List.cons_append]at h
  obtain⟨v,G1,G2,hc,hr,hrs,rfl⟩:=h
  obtain⟨F1,F2,rfl,h1,h2⟩:=ih (off+1) G2 hrs
  refine⟨G1++F1,F2,by simp,?_,by rw[List.length_cons,show off+(cs.length+1)=off+1+cs.length by omega];exact h2⟩
  simp only[aF]
  exact⟨v,G1,F1,hc,hr,h1,rfl⟩
theorem ce (rs qs:List (List AV)):∀ (off:Nat) (F:List Nat),au w K sz b off (rs++qs) F→∃ F1 F2,F=F1++F2∧au w K sz b off rs F1∧au w K sz b (off+rs.length*sz) qs F2:=by
 induction rs with
 | nil=>intro off F h;exact⟨[],F,rfl,by simp[au],by simpa using h⟩
 | cons r rs ih=>
  intro off F h
  simp only[au,List.cons_append]at h
  obtain⟨G1,G2,hl,hr,hrs,rfl⟩:=h
  obtain⟨F1,F2,rfl,h1,h2⟩:=ih (off+sz) G2 hrs
  refine⟨G1++F1,F2,by simp,?_,by rw[List.length_cons,Nat.succ_mul,show off+(rs.length*sz+sz)=off+sz+rs.length*sz by omega];exact h2⟩
  simp only[au]
  exact⟨G1,F1,hl,hr,h1,rfl⟩
end rows
end Go.Proofs.Qr
set_option linter.all false
namespace Go.Proofs.Qr
inductive Blk where
 | var (cells:List AV)
 | row (z:Bool) (rows:List (List AV))
 | tree (rows:List (List AV))
 | map (es:List (ByteArray × Value))
 | gone
abbrev Env:=List (Nat × AV)
abbrev Hp:=List (Nat × Nat × Blk)
structure St where
 env:Env
 heap:Hp
 clk:Nat
def look:Env→Nat→AV
 | [],_=>.dead
 | (k,v)::r,i=>if k=i then v else look r i
def hget:Hp→Nat→Option (Nat × Blk)
 | [],_=>none
 | (k,ver,b)::r,i=>if k=i then some (ver,b) else hget r i
theorem im (k v r i):look ((k,v)::r) i=if k=i then v else look r i:=rfl
theorem ep (k ver b r i):hget ((k,ver,b)::r) i=if k=i then some (ver,b) else hget r i:=rfl
structure Cb where
 base:Option (Nat × Nat)
 cap:Nat
 sz:Nat
 fp:List Nat
def Cb.Like (c d:Cb):Prop:=c.base=d.base∧c.cap=d.cap∧c.sz=d.sz
theorem Cb.Like.refl (c:Cb):c.Like c:=⟨rfl,rfl,rfl⟩
def an:Blk→Cb→List Nat
 | .var _,cb | .row _ _,cb | .map _,cb=>(match cb.base with|some (b,_)=>b::cb.fp|none=>cb.fp)
 | _,_=>[]
mutual
def erep (w:World)(K:Nat→Prop)(clk:Nat)(H:Hp)(M:Nat→Cb):AV→Value→Prop
 | .lit u,v=>v=u
 | .sl rows,v=>rep w K (.sl rows) v []
 | .own _,_=>False
 | .loc cells,v=>∃ b off,v=.pointer (some ⟨b,off,none⟩)∧K b∧aF w K b off cells []
 | .ptr id ver i o,v=>ver<clk∧∃ ad,v=.pointer (some ad)∧∀ blk,hget H id=some (ver,blk)→∃ b off,(M id).base=some (b,off)∧ad=⟨b,off+i*(M id).sz+o,none⟩
 | .ref id ver i n,v=>ver<clk∧∃ a c,v=.slice a n c∧n≤c∧∀ blk,hget H id=some (ver,blk)→i+c=(M id).cap∧(c=0∨∃ b off,(M id).base=some (b,off)∧a=some ⟨b,off+i*(M id).sz,none⟩)
 | .fn f caps,v=>∃ cs,v=.func (.func f) #[] cs∧al w K clk H M caps cs.toList
 | .mp id ver,v=>ver<clk∧∃ r,v=.map (some r)∧∀ blk,hget H id=some (ver,blk)→(M id).base=some (r,0)
 | .agg cells,v=>∃ cs,v=.agg cs∧al w K clk H M cells cs.toList
 | .tup vs,v=>∃ cs,v=.tuple cs∧al w K clk H M vs cs.toList
 | .dead,_=>True
def al (w:World)(K:Nat→Prop)(clk:Nat)(H:Hp)(M:Nat→Cb):List AV→List Value→Prop
 | [],[]=>True
 | a::as,v::vs=>erep w K clk H M a v∧al w K clk H M as vs
 | _,_=>False
end
def aB (w:World)(K:Nat→Prop)(clk:Nat)(H:Hp)(M:Nat→Cb):Blk→Cb→Prop
 | .var cells,cb=>∃ b c e,cb.base=some (b,0)∧cb.fp=[]∧w.heap[b]?=some (.cells c e (0,0))∧al w K clk H M cells c.toList
 | .row z rows,cb=>(cb.base=none∧rows=[]∧cb.cap=0∧cb.fp=[])∨∃ b off c e,cb.base=some (b,off)∧w.heap[b]?=some (.cells c e (0,0)) ∧
  off+cb.cap*cb.sz≤c.size∧rows.length≤cb.cap∧(z=true→rows=[]→cb.cap=0)∧au w K cb.sz b off rows cb.fp
 | .tree rows,cb=>(cb.base=none∧rows=[]∧cb.cap=0)∨∃ b off,cb.base=some (b,off)∧K b∧rows.length≤cb.cap∧au w K cb.sz b off rows []
 | .map es,cb=>∃ b ents c,cb.base=some (b,0)∧cb.fp=[]∧w.heap[b]?=some (.map ents c)∧ents.toList.map (fun e=>(e.key,e.val))=es.map (fun p=>(Value.string p.1,p.2))∧∀ p,p∈es→p.2.oneCell'=true
 | .gone,_=>True
structure cL (w:World) (K:Nat→Prop) (clk:Nat) (H:Hp) (M:Nat→Cb):Prop where
 blk:∀ id ver b,hget H id=some (ver,b)→ver<clk∧aB w K clk H M b (M id)
 nodup:∀ id ver b,hget H id=some (ver,b)→(an b (M id)).Nodup
 disj:∀ id ver b id' ver' b',hget H id=some (ver,b)→hget H id'=some (ver',b')→id≠id'→∀ x,x∈an b (M id)→x ∉ an b' (M id')
 apart:∀ id ver b,hget H id=some (ver,b)→∀ x,x∈an b (M id)→x<w.heap.size∧¬ K x
 low:∀ b,K b→b<w.heap.size
def Gl (w:World)(K:Nat→Prop):Prop:=∀ p,p∈glob→K p.1∧∃ c e z,w.heap[p.1]?=some (.cells c e z)∧p.2 c.toList
theorem Gl.mono {w w':World}{K K':Nat→Prop}(h:Gl w K)(hK:∀ b,K b→w'.heap[b]?=w.heap[b]?∧K' b):Gl w' K':=by
 intro p hp
 obtain⟨h1,c,e,z,h2,h3⟩:=h p hp
 obtain⟨h4,h5⟩:=hK _ h1
 exact⟨h5,c,e,z,by rw[h4];exact h2,h3⟩
structure Fr where
 w:World
 K:Nat→Prop
 O:Nat→Prop
 M:Nat→Cb
 ids:List Nat
structure Rel (fr:Fr) (nt:Nat) (st:St) (K:Nat→Prop) (M:Nat→Cb) (tmps:Array Value) (w:World):Prop where
 size:tmps.size=nt
 pos:1≤st.clk
 env:∀ k,erep w K st.clk st.heap M (look st.env k) (tmps.getD k undef)
 heap:cL w K st.clk st.heap M
 up:∀ b,fr.K b→K b
 new:∀ b,K b→fr.K b∨fr.O b∨fr.w.heap.size≤b
 own:∀ id ver b,hget st.heap id=some (ver,b)→∀ x,x∈an b (M id)→fr.O x∨fr.w.heap.size≤x
 grown:fr.w.heap.size≤w.heap.size
 same:∀ b,b<fr.w.heap.size→¬ fr.O b→w.heap[b]?=fr.w.heap[b]?
 os:w.os=fr.w.os
 tape:w.tape=fr.w.tape
 output:w.output=fr.w.output
 base:∀ id,id∈fr.ids→∀ b,hget st.heap id=some (0,b)→(M id).Like (fr.M id)
 glob:Gl w K
section mono
variable {w w':World} {K K':Nat→Prop} {clk clk':Nat} {H H':Hp} {M M':Nat→Cb}
def dI (clk:Nat)(H:Hp)(M:Nat→Cb)(H':Hp)(M':Nat→Cb):Prop:=
 ∀ id ver b',ver<clk→hget H' id=some (ver,b')→∃ b,hget H id=some (ver,b)∧(M' id).Like (M id)
theorem dI.refl (clk:Nat)(H:Hp)(M:Nat→Cb):dI clk H M H M:=fun _ _ b _ h=>⟨b,h,.refl _⟩
mutual
theorem cv (hK:∀ b,K b→w'.heap[b]?=w.heap[b]?∧K' b)(hc:clk≤clk')(hk:dI clk H M H' M'):∀ (av:AV) (v:Value),erep w K clk H M av v→erep w' K' clk' H' M' av v
 | .lit u,v,h=>by simpa [erep] using h
 | .sl rows,v,h=>by simp only[erep]at h ⊢;exact il hK _ _ _ (by simp) h
 | .own _,_,h=>by simp[erep]at h
 | .loc cells,v,h=>by
  simp only[erep]at h ⊢
  obtain⟨b,off,hv,hb,hr⟩:=h
  exact⟨b,off,hv,(hK b hb).2,fQ hK b off cells [] (hK b hb).1 (by simp) hr⟩
 | .ptr id ver i o,v,h=>by
  simp only[erep]at h ⊢
  obtain⟨hv,ad,rfl,h⟩:=h
  refine⟨by omega,ad,rfl,fun blk hg=>?_⟩
  obtain⟨b,hb,hl⟩:=hk id ver blk hv hg
  obtain⟨x,off,h1,h2⟩:=h b hb
  exact⟨x,off,by rw[hl.1];exact h1,by rw[hl.2.2];exact h2⟩
 | .ref id ver i n,v,h=>by
  simp only[erep]at h ⊢
  obtain⟨hv,a,c,rfl,hn,h⟩:=h
  refine⟨by omega,a,c,rfl,hn,fun blk hg=>?_⟩
  obtain⟨b,hb,hl⟩:=hk id ver blk hv hg
  obtain⟨h3,h4⟩:=h b hb
  exact⟨by rw[hl.2.1];exact h3,by rw[hl.1,hl.2.2];exact h4⟩
 | .fn f caps,v,h=>by
  simp only[erep]at h ⊢
  obtain⟨cs,hv,hr⟩:=h
  exact⟨cs,hv,bQ hK hc hk caps _ hr⟩
 | .mp id ver,v,h=>by
  simp only[erep]at h ⊢
  obtain⟨hv,r,rfl,h⟩:=h
  refine⟨by omega,r,rfl,fun blk hg=>?_⟩
  obtain⟨b,hb,hl⟩:=hk id ver blk hv hg
  rw[hl.1];exact h b hb
 | .agg cells,v,h=>by
  simp only[erep]at h ⊢
  obtain⟨cs,hv,hr⟩:=h
  exact⟨cs,hv,bQ hK hc hk cells _ hr⟩
 | .tup vs,v,h=>by
  simp only[erep]at h ⊢
  obtain⟨cs,hv,hr⟩:=h
  exact⟨cs,hv,bQ hK hc hk vs _ hr⟩
 | .dead,_,_=>by simp[erep]
theorem bQ (hK:∀ b,K b→w'.heap[b]?=w.heap[b]?∧K' b)(hc:clk≤clk')(hk:dI clk H M H' M'):∀ (as:List AV) (vs:List Value),al w K clk H M as vs→al w' K' clk' H' M' as vs
 | [],[],_=>by simp[al]
 | a::as,v::vs,h=>by
  simp only[al]at h ⊢
  exact⟨cv hK hc hk a v h.1,bQ hK hc hk as vs h.2⟩
 | [],_::_,h=>by simp[al]at h
 | _::_,[],h=>by simp[al]at h
end
theorem gM (hK:∀ b,K b→w'.heap[b]?=w.heap[b]?∧K' b)(hc:clk≤clk')(hk:dI clk H M H' M')(b:Blk)(cb:Cb)(ho:∀ x,x∈an b cb→w'.heap[x]?=w.heap[x]?)
  (h:aB w K clk H M b cb):aB w' K' clk' H' M' b cb:=by
 cases b with
 | var cells=>
  simp only[aB]at h ⊢
  obtain⟨b,c,e,h1,h2,h3,h4⟩:=h
  exact⟨b,c,e,h1,h2,by rw[ho b (by simp[an,h1])];exact h3,bQ hK hc hk _ _ h4⟩
 | row z rows=>
  simp only[aB]at h ⊢
  rcases h with h|⟨b,off,c,e,h1,h2,h3,h4,hz,h5⟩
  ·exact .inl h
  have hb:=ho b (by simp[an,h1])
  exact .inr ⟨b,off,c,e,h1,by rw[hb];exact h2,h3,h4,hz,da hK _ _ _ _ _ hb (fun x hx=>ho x (by simp[an,h1,hx])) h5⟩
 | tree rows=>
  simp only[aB]at h ⊢
  rcases h with h|⟨b,off,h1,h2,h3,h4⟩
  ·exact .inl h
  exact .inr ⟨b,off,h1,(hK b h2).2,h3,da hK _ _ _ _ _ (hK b h2).1 (by simp) h4⟩
 | map es=>
  simp only[aB]at h ⊢
  obtain⟨b,ents,c,h1,h2,h3,h4⟩:=h
  exact⟨b,ents,c,h1,h2,by rw[ho b (by simp[an,h1])];exact h3,h4⟩
 | gone=>simp[aB]
theorem cM:∀ {as:List AV} {vs:List Value},al w K clk H M as vs→as.length=vs.length
 | [],[],_=>rfl
 | a::as,v::vs,h=>by simp only[al]at h;simp[cM h.2]
 | [],_::_,h=>by simp[al]at h
 | _::_,[],h=>by simp[al]at h
theorem gh:∀ {as:List AV} {vs:List Value} {i:Nat} {a:AV},al w K clk H M as vs→as[i]?=some a→∃ v,vs[i]?=some v∧erep w K clk H M a v
 | [],[],i,a,_,h=>by simp at h
 | x::as,v::vs,0,a,h,ha=>by simp only[al]at h;simp at ha;subst ha;exact⟨v,rfl,h.1⟩
 | x::as,v::vs,i+1,a,h,ha=>by simp only[al]at h;simp at ha;obtain⟨u,hu,hr⟩:=gh h.2 ha;exact⟨u,by simpa using hu,hr⟩
 | [],_::_,_,_,h,_=>by simp[al]at h
 | _::_,[],_,_,h,_=>by simp[al]at h
theorem kY:∀ {as:List AV} {vs:List Value} {bs:List AV} {us:List Value},al w K clk H M as vs→al w K clk H M bs us→al w K clk H M (as++bs) (vs++us)
 | [],[],_,_,_,h=>by simpa using h
 | a::as,v::vs,_,_,h,h'=>by simp only[al,List.cons_append]at h ⊢;exact⟨h.1,kY h.2 h'⟩
 | [],_::_,_,_,h,_=>by simp[al]at h
 | _::_,[],_,_,h,_=>by simp[al]at h
theorem ou:∀ {as:List AV} {vs:List Value} (n:Nat),al w K clk H M as vs→al w K clk H M (as.take n) (vs.take n)
 | [],[],_,_=>by simp[al]
 | a::as,v::vs,0,_=>by simp[al]
 | a::as,v::vs,n+1,h=>by simp only[al,List.take_succ_cons]at h ⊢;exact⟨h.1,ou n h.2⟩
 | [],_::_,_,h=>by simp[al]at h
 | _::_,[],_,h=>by simp[al]at h
theorem ov:∀ {as:List AV} {vs:List Value} (n:Nat),al w K clk H M as vs→al w K clk H M (as.drop n) (vs.drop n)
 | [],[],_,_=>by simp[al]
 | a::as,v::vs,0,h=>by simpa using h
 | a::as,v::vs,n+1,h=>by simp only[al,List.drop_succ_cons]at h ⊢;exact ov n h.2
 | [],_::_,_,h=>by simp[al]at h
 | _::_,[],_,h=>by simp[al]at h
theorem io:∀ {as:List AV} {vs:List Value} (i:Nat) {a:AV} {v:Value},al w K clk H M as vs→erep w K clk H M a v→al w K clk H M (as.set i a) (vs.set i v)
 | [],[],_,_,_,_,_=>by simp[al]
 | _::as,_::vs,0,_,_,h,h'=>by simp only[al,List.set_cons_zero]at h ⊢;exact⟨h',h.2⟩
 | _::as,_::vs,i+1,_,_,h,h'=>by simp only[al,List.set_cons_succ]at h ⊢;exact⟨h.1,io i h.2 h'⟩
 | [],_::_,_,_,_,h,_=>by simp[al]at h
 | _::_,[],_,_,_,h,_=>by simp[al]at h
end mono
end Go.Proofs.Qr
