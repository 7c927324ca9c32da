/- From trees that fit to the things they are. Own work. -/
import Derived.Test.YtjbpfglekblgbaaDoorZc27
import Derived.Test.YtjbpfglekblgbaaDoorZcP9
import Derived.Test.YtjbpfglekblgbaaDoorRows
import Derived.KernelRfl
set_option linter.all false
set_option maxRecDepth 100000
namespace Go.Proofs.Qc
open Go
theorem uv {av:AV}(h:Fit .str av):∃ s:ByteArray,av=.lit (.string s)∧s.size≤maxLen:=by simpa only [Fit] using h
theorem oU {T:Nat→Ty}{t:Nat}{ts:List Nat}{aa:List AV}(h:cG T (t::ts) aa):∃ a r,aa=a::r∧lE T t a∧cG T ts r:=by
 cases aa with
 | nil=>simp [cG] at h
 | cons a r=>simp only [cG] at h;exact ⟨a,r,rfl,h.1,h.2⟩
theorem pP {T:Nat→Ty}{aa:List AV}(h:cG T [] aa):aa=[]:=by
 cases aa with
 | nil=>rfl
 | cons a r=>simp [cG] at h
theorem qO {T:Nat→Ty}{t:Nat}{a:AV}{s:Sh}(h:lE T t a)(hs:bR T 20 t=some [s])(hk:∀ fs,(T t).kind≠.struct fs):Fit s a:=by
 obtain ⟨s',h1,h2⟩:=h
 rw [hs] at h1
 cases h1
 revert h2
 split
 ·rename_i fs hf;exact absurd hf (hk fs)
 ·intro h;simp only [FitL] at h;exact h.1
end Go.Proofs.Qc
namespace Go.Proofs.Qc
open Go
def tm (ts:List Int)(i:Int):Int:=(ts[i.toNat]?).getD 0
end Go.Proofs.Qc
namespace Go.Proofs.Qc
open Go
theorem gb {α:Type}{l:List α}{i:Nat}(h:i<l.length):l.take (i+1)=l.take i++[l[i]]:=by
 rw [List.take_add_one,List.getElem?_eq_getElem h];rfl
end Go.Proofs.Qc
set_option maxRecDepth 100000
namespace Go.Proofs.Qc
open Go
end Go.Proofs.Qc
namespace Go.Proofs.Qc
open Go
end Go.Proofs.Qc
namespace Go.Proofs.Qc
open Go
end Go.Proofs.Qc
namespace Go.Proofs.Qc
open Go
end Go.Proofs.Qc
namespace Go.Proofs.Qc
open Go
end Go.Proofs.Qc
namespace Go.Proofs.Qc
open Go
end Go.Proofs.Qc
namespace Go.Proofs.Qc
open Go
section
variable {α:Type} [DecidableEq α] {σ ρ:Type} {body:σ→Option (Step σ ρ)}
end
structure FitE (e:GEntry):Prop where
 ties:e.ties.length≤1048576
 nodes:e.nodes.length≤1048576
 values:e.values.length≤1048576
end Go.Proofs.Qc
namespace Go.Proofs.Qc
open Go
end Go.Proofs.Qc
set_option maxRecDepth 100000
namespace Go.Proofs.Qc
open Go
end Go.Proofs.Qc
namespace Go.Proofs.Qc
open Go
end Go.Proofs.Qc
set_option maxRecDepth 100000
namespace Go.Proofs.Qc
open Go
end Go.Proofs.Qc
set_option maxRecDepth 100000
namespace Go.Proofs.Qc
open Go
end Go.Proofs.Qc
