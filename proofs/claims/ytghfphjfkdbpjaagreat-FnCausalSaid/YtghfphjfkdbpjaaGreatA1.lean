/- Abstract values as trees,and what it means that a machine value in a world reads as one. Own work: no statement of the seat is in this text. -/
import Derived.Calls
import Derived.Test.YtghfphjfkdbpjaaGreatA0
import Derived.Laws.World
import Derived.Laws.Sem
import Derived.Laws.Cells
set_option linter.all false
namespace Go.Proofs.QA
inductive AV where
 | lit (v:Value)
 | sl (rows:List (List AV))
 | own (rows:List (List AV))
 | loc (cells:List AV)
 | ptr (id ver i o:Nat)
 | ref (id ver i n:Nat)
 | fn (f:FuncId) (caps:List AV)
 | mp (id ver:Nat)
 | agg (cells:List AV)
 | tup (vs:List AV)
 | dead
instance:Inhabited AV:=⟨.dead⟩
mutual
def rep (w:World)(K:Nat→Prop):AV→Value→List Nat→Prop
 | .lit u,v,F=>v=u∧F=[]∧u.oneCell'=true
 | .sl rows,v,F=>F=[]∧((∃ a c,v=.slice a 0 c∧rows=[])∨∃ b off cap sz,v=.slice (some ⟨b,off,none⟩) rows.length cap∧rows.length≤cap∧K b∧az w K sz b off rows [])
 | .own rows,v,F=>(∃ a,v=.slice a 0 0∧rows=[]∧F=[])∨∃ b off cap c e sz F',rows≠[]∧v=.slice (some ⟨b,off,none⟩) rows.length cap∧rows.length≤cap ∧
  w.heap[b]?=some (.cells c e (0,0))∧off+cap*sz≤c.size∧F=b::F'∧az w K sz b off rows F'
 | _,_,_=>False
def aC (w:World)(K:Nat→Prop)(b:Nat):Nat→List AV→List Nat→Prop
 | _,[],F=>F=[]
 | off,c::cs,F=>∃ v F1 F2,w.cell? ⟨b,off,none⟩=some v∧rep w K c v F1∧aC w K b (off+1) cs F2∧F=F1++F2
def az (w:World)(K:Nat→Prop)(sz b:Nat):Nat→List (List AV)→List Nat→Prop
 | _,[],F=>F=[]
 | off,r::rs,F=>∃ F1 F2,r.length=sz∧aC w K b off r F1∧az w K sz b (off+sz) rs F2∧F=F1++F2
end
theorem AJ {w w':World}{b o:Nat}(h:w'.heap[b]?=w.heap[b]?):w'.cell? ⟨b,o,none⟩=w.cell? ⟨b,o,none⟩:=by
 simp [World.cell?,h]
section frame
variable {w w':World} {K K':Nat→Prop}
mutual
theorem jE (hK:∀ b,K b→w'.heap[b]?=w.heap[b]?∧K' b):∀ (av:AV) (v:Value) (F:List Nat),(∀ b,b∈F→w'.heap[b]?=w.heap[b]?)→rep w K av v F→rep w' K' av v F
 | .lit u,v,F,_,h=>by simpa [rep] using h
 | .sl rows,v,F,_,h=>by
  simp only [rep] at h ⊢
  obtain ⟨rfl,h⟩:=h
  refine ⟨rfl,?_⟩
  rcases h with h | ⟨b,off,cap,sz,hv,hc,hb,hr⟩
  ·exact .inl h
  ·exact .inr ⟨b,off,cap,sz,hv,hc,(hK b hb).2,di hK sz b off rows [] (hK b hb).1 (by simp) hr⟩
 | .own rows,v,F,hF,h=>by
  simp only [rep] at h ⊢
  rcases h with h | ⟨b,off,cap,c,e,sz,F',hne,hv,hc,hb,hs,hFe,hr⟩
  ·exact .inl h
  ·subst hFe
   have h1:=hF b (by simp)
   exact .inr ⟨b,off,cap,c,e,sz,F',hne,hv,hc,by rw [h1];exact hb,hs,rfl,di hK sz b off rows F' h1 (fun x hx=>hF x (by simp [hx])) hr⟩
 | .loc _,_,_,_,h=>by simp [rep] at h
 | .ptr ..,_,_,_,h=>by simp [rep] at h
 | .ref ..,_,_,_,h=>by simp [rep] at h
 | .fn ..,_,_,_,h=>by simp [rep] at h
 | .mp ..,_,_,_,h=>by simp [rep] at h
 | .agg ..,_,_,_,h=>by simp [rep] at h
 | .tup ..,_,_,_,h=>by simp [rep] at h
 | .dead,_,_,_,h=>by simp [rep] at h
theorem eV (hK:∀ b,K b→w'.heap[b]?=w.heap[b]?∧K' b)(b:Nat):∀ (off:Nat) (cs:List AV) (F:List Nat),w'.heap[b]?=w.heap[b]?→(∀ b,b∈F→w'.heap[b]?=w.heap[b]?)→aC w K b off cs F→aC w' K' b off cs F
 | _,[],F,_,_,h=>by simpa [aC] using h
 | off,c::cs,F,hb,hF,h=>by
  simp only [aC] at h ⊢
  obtain ⟨v,F1,F2,hc,h1,h2,rfl⟩:=h
  exact ⟨v,F1,F2,by rw [AJ hb];exact hc,jE hK c v F1 (fun x hx=>hF x (by simp [hx])) h1,eV hK b (off+1) cs F2 hb (fun x hx=>hF x (by simp [hx])) h2,rfl⟩
theorem di (hK:∀ b,K b→w'.heap[b]?=w.heap[b]?∧K' b)(sz b:Nat):∀ (off:Nat) (rs:List (List AV)) (F:List Nat),w'.heap[b]?=w.heap[b]?→(∀ b,b∈F→w'.heap[b]?=w.heap[b]?)→az w K sz b off rs F→az w' K' sz b off rs F
 | _,[],F,_,_,h=>by simpa [az] using h
 | off,r::rs,F,hb,hF,h=>by
  simp only [az] at h ⊢
  obtain ⟨F1,F2,hl,h1,h2,rfl⟩:=h
  exact ⟨F1,F2,hl,eV hK b off r F1 hb (fun x hx=>hF x (by simp [hx])) h1,di hK sz b (off+sz) rs F2 hb (fun x hx=>hF x (by simp [hx])) h2,rfl⟩
end
end frame
mutual
def toSl:AV→AV
 | .own rows=>.sl (cv rows)
 | .sl rows=>.sl rows
 | .lit v=>.lit v
 | .loc c=>.loc c
 | .ptr a b c d=>.ptr a b c d
 | .ref a b c d=>.ref a b c d
 | .fn f c=>.fn f c
 | .mp a b=>.mp a b
 | .agg c=>.agg c
 | .tup c=>.tup c
 | .dead=>.dead
def jN:List AV→List AV
 | []=>[]
 | c::cs=>toSl c::jN cs
def cv:List (List AV)→List (List AV)
 | []=>[]
 | r::rs=>jN r::cv rs
end
@[simp] theorem PI (cs:List AV):jN cs=cs.map toSl:=by induction cs <;> simp_all [jN]
@[simp] theorem PJ (rs:List (List AV)):cv rs=rs.map (fun r=>r.map toSl):=by induction rs <;> simp_all [cv]
@[simp] theorem wq (cs:List AV):(jN cs).length=cs.length:=by simp
@[simp] theorem gR (rs:List (List AV)):(cv rs).length=rs.length:=by simp
section freeze
variable {w:World} {K K':Nat→Prop}
mutual
theorem FZ (hK:∀ b,K b→K' b):∀ (av:AV) (v:Value) (F:List Nat),(∀ b,b∈F→K' b)→rep w K av v F→rep w K' (toSl av) v []
 | .lit u,v,F,_,h=>by
  simp only [rep,toSl] at h ⊢
  exact ⟨h.1,trivial,h.2.2⟩
 | .sl rows,v,F,_,h=>by
  have:=jE (w':=w) (K':=K') (fun b hb=>⟨rfl,hK b hb⟩) (.sl rows) v F (fun _ _=>rfl) h
  simp only [rep,toSl] at this ⊢
  exact ⟨trivial,this.2⟩
 | .own rows,v,F,hF,h=>by
  simp only [rep,toSl] at h ⊢
  refine ⟨trivial,?_⟩
  obtain ⟨ad,hv,rfl,_⟩|⟨b,off,cap,c,e,sz,F',_,hv,hc,hb,hs,hFe,hr⟩:=h
  ·exact .inl ⟨ad,0,hv,rfl⟩
  ·subst hFe
   exact .inr ⟨b,off,cap,sz,by rw [gR];exact hv,by rw [gR];exact hc,hF b (by simp),jg hK sz b off rows F' (fun x hx=>hF x (by simp [hx])) hr⟩
 | .loc _,_,_,_,h=>by simp [rep] at h
 | .ptr ..,_,_,_,h=>by simp [rep] at h
 | .ref ..,_,_,_,h=>by simp [rep] at h
 | .fn ..,_,_,_,h=>by simp [rep] at h
 | .mp ..,_,_,_,h=>by simp [rep] at h
 | .agg ..,_,_,_,h=>by simp [rep] at h
 | .tup ..,_,_,_,h=>by simp [rep] at h
 | .dead,_,_,_,h=>by simp [rep] at h
theorem oh (hK:∀ b,K b→K' b)(b:Nat):∀ (off:Nat) (cs:List AV) (F:List Nat),(∀ b,b∈F→K' b)→aC w K b off cs F→aC w K' b off (jN cs) []
 | _,[],F,_,h=>by simp [aC,jN]
 | off,c::cs,F,hF,h=>by
  simp only [aC,jN] at h ⊢
  obtain ⟨v,F1,F2,hc,h1,h2,rfl⟩:=h
  exact ⟨v,[],[],hc,FZ hK c v F1 (fun x hx=>hF x (by simp [hx])) h1,oh hK b (off+1) cs F2 (fun x hx=>hF x (by simp [hx])) h2,rfl⟩
theorem jg (hK:∀ b,K b→K' b)(sz b:Nat):∀ (off:Nat) (rs:List (List AV)) (F:List Nat),(∀ b,b∈F→K' b)→az w K sz b off rs F→az w K' sz b off (cv rs) []
 | _,[],F,_,h=>by simp [az,cv]
 | off,r::rs,F,hF,h=>by
  simp only [az,cv] at h ⊢
  obtain ⟨F1,F2,hl,h1,h2,rfl⟩:=h
  exact ⟨[],[],by rw [wq];exact hl,oh hK b off r F1 (fun x hx=>hF x (by simp [hx])) h1,jg hK sz b (off+sz) rs F2 (fun x hx=>hF x (by simp [hx])) h2,rfl⟩
end
end freeze
section rows
variable {w:World} {K:Nat→Prop} {sz b:Nat}
theorem tO (cs ds:List AV):∀ (off:Nat) (F1 F2:List Nat),aC w K b off cs F1→aC w K b (off+cs.length) ds F2→aC w K b off (cs++ds) (F1++F2):=by
 induction cs with
 | nil=>intro off F1 F2 h1 h2;simp only [aC] at h1;subst h1;simpa using h2
 | cons c cs ih=>
  intro off F1 F2 h1 h2
  simp only [aC,List.cons_append] at h1 ⊢
  obtain ⟨v,G1,G2,hc,hr,hrs,rfl⟩:=h1
  exact ⟨v,G1,G2++F2,hc,hr,ih (off+1) G2 F2 hrs (by rw [List.length_cons] at h2;rw [show off+1+cs.length=off+(cs.length+1) by omega];exact h2),by simp⟩
theorem gG (rs qs:List (List AV)):∀ (off:Nat) (F1 F2:List Nat),az w K sz b off rs F1→az w K sz b (off+rs.length*sz) qs F2→az w K sz b off (rs++qs) (F1++F2):=by
 induction rs with
 | nil=>intro off F1 F2 h1 h2;simp only [az] at h1;subst h1;simpa using h2
 | cons r rs ih=>
  intro off F1 F2 h1 h2
  simp only [az,List.cons_append] at h1 ⊢
  obtain ⟨G1,G2,hl,hr,hrs,rfl⟩:=h1
  refine ⟨G1,G2++F2,hl,hr,ih (off+sz) G2 F2 hrs ?_,by simp⟩
  rw [List.length_cons,Nat.succ_mul] at h2
  rw [show off+sz+rs.length*sz=off+(rs.length*sz+sz) by omega];exact h2
theorem jh (cs ds:List AV):∀ (off:Nat) (F:List Nat),aC w K b off (cs++ds) F→∃ F1 F2,F=F1++F2∧aC w K b off cs F1∧aC w K b (off+cs.length) ds F2:=by
 induction cs with
 | nil=>intro off F h;exact ⟨[],F,rfl,by simp [aC],by simpa using h⟩
 | cons c cs ih=>
  intro off F h
  simp only [aC,List.cons_append] at h
  obtain ⟨v,G1,G2,hc,hr,hrs,rfl⟩:=h
  obtain ⟨F1,F2,rfl,h1,h2⟩:=ih (off+1) G2 hrs
  refine ⟨G1++F1,F2,by simp,?_,by rw [List.length_cons,show off+(cs.length+1)=off+1+cs.length by omega];exact h2⟩
  simp only [aC]
  exact ⟨v,G1,F1,hc,hr,h1,rfl⟩
theorem cD (rs qs:List (List AV)):∀ (off:Nat) (F:List Nat),az w K sz b off (rs++qs) F→∃ F1 F2,F=F1++F2∧az w K sz b off rs F1∧az w K sz b (off+rs.length*sz) qs F2:=by
 induction rs with
 | nil=>intro off F h;exact ⟨[],F,rfl,by simp [az],by simpa using h⟩
 | cons r rs ih=>
  intro off F h
  simp only [az,List.cons_append] at h
  obtain ⟨G1,G2,hl,hr,hrs,rfl⟩:=h
  obtain ⟨F1,F2,rfl,h1,h2⟩:=ih (off+sz) G2 hrs
  refine ⟨G1++F1,F2,by simp,?_,by rw [List.length_cons,Nat.succ_mul,show off+(rs.length*sz+sz)=off+sz+rs.length*sz by omega];exact h2⟩
  simp only [az]
  exact ⟨G1,F1,hl,hr,h1,rfl⟩
end rows
end Go.Proofs.QA
