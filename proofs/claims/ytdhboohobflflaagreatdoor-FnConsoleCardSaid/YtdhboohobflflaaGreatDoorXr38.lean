/- Contracts from elsewhere,of functions that leave the world as it was but for new blocks. Own work. -/
import Derived.Test.YtdhboohobflflaaGreatDoorXr27
import Derived.Sort.Grow
import Derived.Deep.Draws
import Derived.Below
set_option linter.all false
namespace Go.Proofs.Qr
open Go
structure More (w w':World):Prop where
 size:w.heap.size≤w'.heap.size
 same:∀ b,b<w.heap.size→w'.heap[b]?=w.heap[b]?
 os:w'.os=w.os
 tape:w'.tape=w.tape
 output:w'.output=w.output
theorem More.refl (w:World):More w w:=⟨Nat.le_refl _,fun _ _=>rfl,rfl,rfl,rfl⟩
theorem More.trans {a b c:World}(h:More a b)(k:More b c):More a c:=
 ⟨Nat.le_trans h.size k.size,fun i hi=>(k.same i (Nat.lt_of_lt_of_le hi h.size)).trans (h.same i hi),k.os.trans h.os,k.tape.trans h.tape,k.output.trans h.output⟩
theorem Fa (w:World)(k:Nat)(os:Array Obj):More w (Go.Sort.grow (w.drewN k) os):=by
 refine⟨?_,?_,rfl,rfl,rfl⟩
 ·show w.heap.size≤(w.heap++os).size
  rw[Array.size_append];omega
 intro b hb
 show(w.heap++os)[b]?=_
 rw[Array.getElem?_append_left hb]
theorem Fb (w:World)(k:Nat):More w (w.drewN k):=⟨Nat.le_refl _,fun _ _=>rfl,rfl,rfl,rfl⟩
theorem oC {w w':World}(h:Go.RowKit.Below w.heap.size w w'):More w w':=⟨h.size,h.block,h.os,h.tape,h.output⟩
theorem Gl.more {w w':World}{K:Nat→Prop}(h:Gl w K)(hl:∀ b,K b→b<w.heap.size)(m:More w w'):Gl w' K:=h.mono (fun b hb=>⟨m.same b (hl b hb),hb⟩)
theorem Gg {w w':World}{K:Nat→Prop}{M:Nat→Cb}(hG:Gl w K)(hH:cL w K 1 [] M)(h:More w w'):Rel ⟨w,K,oO [] M,M,[]⟩ 0 ⟨[],[],2⟩ K M #[] w':=by
 refine⟨rfl,by decide,?_,⟨?_,?_,?_,?_,?_⟩,fun _ hb=>hb,fun _ hb=>.inl hb,?_,h.size,fun b hb _=>h.same b hb,h.os,h.tape,h.output,?_,?_⟩
 ·intro k
  simp[look,erep]
 ·intro id ver b hg;simp[hget]at hg
 ·intro id ver b hg;simp[hget]at hg
 ·intro id ver b id' ver' b' hg;simp[hget]at hg
 ·intro id ver b hg;simp[hget]at hg
 ·intro b hb
  exact Nat.lt_of_lt_of_le (hH.low b hb) h.size
 ·intro id ver b hg;simp[hget]at hg
 ·intro id hi;cases hi
 exact hG.mono (fun b hb=>⟨h.same b (hH.low b hb),hb⟩)
theorem oU {P:Program}{f:FuncId}{fn:Func}{args:List AV}{r:AV}{u:Value}(hf:P.funcs[f]?=some fn)(h1:(fn.name == "runtime.NumGoroutine")=false) (h2:fn.body.isNone=false)
  (hr:∀ (w:World) (K:Nat→Prop) (M:Nat→Cb),erep w K 2 [] M r u)
  (h:∀ (w:World) (K:Nat→Prop) (M:Nat→Cb) (vs:Array Value),Gl w K→cL w K 1 [] M→al w K 1 [] M args vs.toList→Calls P f vs w (fun e w'=>e=.returned u∧More w w')):ai P f args [] r []:=by
 refine⟨⟨fn,hf,h1,h2⟩,?_⟩
 intro w K M vs hG hH ha
 refine(h w K M vs hG hH ha).mono ?_
 rintro e w' ⟨he,hm⟩
 exact⟨u,K,M,he,Gg hG hH hm,hr _ _ _⟩
theorem jO {P:Program}{f:FuncId}{fn:Func}{args:List AV}{u:Value}(hf:P.funcs[f]?=some fn)(h1:(fn.name == "runtime.NumGoroutine")=false) (h2:fn.body.isNone=false)
  (h:∀ (w:World) (K:Nat→Prop) (M:Nat→Cb) (vs:Array Value),Gl w K→cL w K 1 [] M→al w K 1 [] M args vs.toList→Calls P f vs w (fun e w'=>e=.returned u∧More w w')):ai P f args [] (.lit u) []:=
 oU hf h1 h2 (fun _ _ _=>rfl) h
theorem vE {P:Program}{f:FuncId}{args:List AV}{u:Value}(h:ai P f args [] (.lit u) []){w:World}{K:Nat→Prop}{M:Nat→Cb}{vs:Array Value}(hG:Gl w K)(hK:∀ b,K b→b<w.heap.size)(ha:al w K 1 [] M args vs.toList) :
  Calls P f vs w (fun e w'=>e=.returned u∧More w w'):=by
 refine(h.2 w K M vs hG ⟨?_,?_,?_,?_,hK⟩ ha).mono ?_
 ·intro id ver b hg;simp[hget]at hg
 ·intro id ver b hg;simp[hget]at hg
 ·intro id ver b id' ver' b' hg;simp[hget]at hg
 ·intro id ver b hg;simp[hget]at hg
 rintro e w' ⟨v,K',M',he,hR,hv⟩
 simp only[erep]at hv
 subst hv
 exact⟨he,hR.grown,fun b hb=>hR.same b hb (by rintro⟨id,ver,blk,hg,_⟩;simp[hget]at hg),hR.os,hR.tape,hR.output⟩
theorem CC {w:World}{K:Nat→Prop}{M:Nat→Cb}{u:Value}{vs:Array Value}(h:al w K 1 [] M [.lit u] vs.toList):vs=#[u]:=by
 obtain⟨l⟩:=vs
 match l,h with
 | [v],h=>simp only[al,erep]at h;rw[h.1]
 | [],h=>simp[al]at h
 | _::_::_,h=>simp[al]at h
theorem CD {w:World}{K:Nat→Prop}{M:Nat→Cb}{u u2:Value}{vs:Array Value}(h:al w K 1 [] M [.lit u,.lit u2] vs.toList):vs=#[u,u2]:=by
 obtain⟨l⟩:=vs
 match l,h with
 | [v,v2],h=>simp only[al,erep]at h;rw[h.1,h.2.1]
 | [],h=>simp[al]at h
 | [_],h=>simp[al]at h
 | _::_::_::_,h=>simp[al]at h
theorem JH {w:World}{K:Nat→Prop}{M:Nat→Cb}{rows:List (List AV)}{u2:Value}{vs:Array Value}(h:al w K 1 [] M [.sl rows,.lit u2] vs.toList) :
  (rows=[]∧∃ a c,vs=#[.slice a 0 c,u2])∨∃ b off cap sz,vs=#[.slice (some ⟨b,off,none⟩) rows.length cap,u2]∧rows.length≤cap∧K b∧au w K sz b off rows []:=by
 obtain⟨l⟩:=vs
 match l,h with
 | [v,v2],h=>
  simp only[al,erep,rep]at h
  obtain⟨⟨_,h1⟩,rfl,_⟩:=h
  obtain⟨a,c,rfl,h2⟩|⟨b,off,cap,sz,rfl,h3,h4,h5⟩:=h1
  ·exact .inl ⟨h2,a,c,rfl⟩
  exact .inr ⟨b,off,cap,sz,rfl,h3,h4,h5⟩
 | [],h=>simp[al]at h
 | [_],h=>simp[al]at h
 | _::_::_::_,h=>simp[al]at h
theorem Fc {w:World}{K:Nat→Prop}{sz b:Nat}:∀ (xs:List ByteArray) (off:Nat),au w K sz b off (xs.map (fun x=>[AV.lit (.string x)])) []→∀ (j:Nat) x,xs[j]?=some x→w.cell? ⟨b,off+j,none⟩=some (.string x):=by
 intro xs
 induction xs with
 | nil=>intro off _ j x hx;simp at hx
 | cons y ys ih=>
  intro off h j x hx
  simp only[List.map_cons,au]at h
  obtain⟨F1,F2,hl,h1,h2,hF⟩:=h
  obtain⟨rfl,rfl⟩:=List.append_eq_nil_iff.1 hF.symm
  simp only[List.length_cons,List.length_nil]at hl
  subst hl
  cases j with
  | zero=>
   simp only[List.getElem?_cons_zero,Option.some.injEq]at hx
   subst hx
   simp only[aF,rep]at h1
   obtain⟨v,G1,G2,hc,⟨rfl,_⟩,_⟩:=h1
   exact hc
  | succ j=>
   have:=ih (off+1) h2 j x (by simpa using hx)
   rw[show off+(j+1)=off+1+j by omega];exact this
end Go.Proofs.Qr
