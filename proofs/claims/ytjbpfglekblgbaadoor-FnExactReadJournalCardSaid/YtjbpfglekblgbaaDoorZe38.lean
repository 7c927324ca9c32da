/- Contracts from elsewhere,of functions that leave the world as it was but for new blocks. Own work. -/
import Derived.Test.YtjbpfglekblgbaaDoorZe27
import Derived.Sort.Grow
import Derived.Deep.Draws
import Derived.Below
set_option linter.all false
namespace Go.Proofs.Qe
open Go
structure More (w w':World):Prop where
 size:w.heap.size≤w'.heap.size
 same:∀ b,b<w.heap.size→w'.heap[b]?=w.heap[b]?
 os:w'.os=w.os
 tape:w'.tape=w.tape
 output:w'.output=w.output
theorem More.refl (w:World):More w w:=⟨Nat.le_refl _,fun _ _=>rfl,rfl,rfl,rfl⟩
theorem More.trans {a b c:World}(h:More a b)(k:More b c):More a c:=
 ⟨Nat.le_trans h.size k.size,fun i hi=>(k.same i (Nat.lt_of_lt_of_le hi h.size)).trans (h.same i hi),k.os.trans h.os,k.tape.trans h.tape,k.output.trans h.output⟩
theorem sE (w:World)(k:Nat)(os:Array Obj):More w (Go.Sort.grow (w.drewN k) os):=by
 refine ⟨?_,?_,rfl,rfl,rfl⟩
 ·show w.heap.size≤(w.heap++os).size
  rw [Array.size_append];omega
 ·intro b hb
  show (w.heap++os)[b]?=_
  rw [Array.getElem?_append_left hb]
theorem sF (w:World)(k:Nat):More w (w.drewN k):=⟨Nat.le_refl _,fun _ _=>rfl,rfl,rfl,rfl⟩
theorem iD {w w':World}(h:Go.RowKit.Below w.heap.size w w'):More w w':=⟨h.size,h.block,h.os,h.tape,h.output⟩
theorem Gl.more {w w':World}{K:Nat→Prop}(h:Gl w K)(hl:∀ b,K b→b<w.heap.size)(m:More w w'):Gl w' K:=h.mono (fun b hb=>⟨m.same b (hl b hb),hb⟩)
theorem tP {w w':World}{K:Nat→Prop}{M:Nat→Cb}(hG:Gl w K)(hH:bA w K 1 [] M)(h:More w w'):Rel ⟨w,K,fH [] M,M,[]⟩ 0 ⟨[],[],2⟩ K M #[] w':=by
 refine ⟨rfl,by decide,?_,⟨?_,?_,?_,?_,?_⟩,fun _ hb=>hb,fun _ hb=>.inl hb,?_,h.size,fun b hb _=>h.same b hb,h.os,h.tape,h.output,?_,?_⟩
 ·intro k
  simp [look,erep]
 ·intro id ver b hg;simp [hget] at hg
 ·intro id ver b hg;simp [hget] at hg
 ·intro id ver b id' ver' b' hg;simp [hget] at hg
 ·intro id ver b hg;simp [hget] at hg
 ·intro b hb
  exact Nat.lt_of_lt_of_le (hH.low b hb) h.size
 ·intro id ver b hg;simp [hget] at hg
 ·intro id hi;cases hi
 ·exact hG.mono (fun b hb=>⟨h.same b (hH.low b hb),hb⟩)
theorem gC {P:Program}{f:FuncId}{fn:Func}{args:List AV}{r:AV}{u:Value}(hf:P.funcs[f]?=some fn)(h1:(fn.name == "runtime.NumGoroutine")=false) (h2:fn.body.isNone=false)
  (hr:∀ (w:World) (K:Nat→Prop) (M:Nat→Cb),erep w K 2 [] M r u)
  (h:∀ (w:World) (K:Nat→Prop) (M:Nat→Cb) (vs:Array Value),Gl w K→bA w K 1 [] M→af w K 1 [] M args vs.toList→Calls P f vs w (fun e w'=>e=.returned u∧More w w')):aI P f args [] r []:=by
 refine ⟨⟨fn,hf,h1,h2⟩,?_⟩
 intro w K M vs hG hH ha
 refine (h w K M vs hG hH ha).mono ?_
 rintro e w' ⟨he,hm⟩
 exact ⟨u,K,M,he,tP hG hH hm,hr _ _ _⟩
theorem qt {P:Program}{f:FuncId}{fn:Func}{args:List AV}{u:Value}(hf:P.funcs[f]?=some fn)(h1:(fn.name == "runtime.NumGoroutine")=false) (h2:fn.body.isNone=false)
  (h:∀ (w:World) (K:Nat→Prop) (M:Nat→Cb) (vs:Array Value),Gl w K→bA w K 1 [] M→af w K 1 [] M args vs.toList→Calls P f vs w (fun e w'=>e=.returned u∧More w w')):aI P f args [] (.lit u) []:=
 gC hf h1 h2 (fun _ _ _=>rfl) h
theorem vc {w:World}{K:Nat→Prop}{M:Nat→Cb}{u:Value}{vs:Array Value}(h:af w K 1 [] M [.lit u] vs.toList):vs=#[u]:=by
 obtain ⟨l⟩:=vs
 match l,h with
 | [v],h=>simp only [af,erep] at h;rw [h.1]
 | [],h=>simp [af] at h
 | _::_::_,h=>simp [af] at h
theorem qF {w:World}{K:Nat→Prop}{M:Nat→Cb}{u u2:Value}{vs:Array Value}(h:af w K 1 [] M [.lit u,.lit u2] vs.toList):vs=#[u,u2]:=by
 obtain ⟨l⟩:=vs
 match l,h with
 | [v,v2],h=>simp only [af,erep] at h;rw [h.1,h.2.1]
 | [],h=>simp [af] at h
 | [_],h=>simp [af] at h
 | _::_::_::_,h=>simp [af] at h
end Go.Proofs.Qe
