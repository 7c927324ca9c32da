/- From trees that fit to the things they are. Own work. -/
import Derived.Test.YtjbpfglekblgbaaDoorZe27
import Derived.Test.YtjbpfglekblgbaaDoorZeP9
import Derived.Test.YtjbpfglekblgbaaDoorRows
import Derived.KernelRfl
set_option linter.all false
set_option maxRecDepth 100000
namespace Go.Proofs.Qe
open Go
theorem ve {av:AV}(h:Fit .str av):∃ s:ByteArray,av=.lit (.string s)∧s.size≤maxLen:=by simpa only [Fit] using h
theorem pL {T:Nat→Ty}{t:Nat}{ts:List Nat}{aa:List AV}(h:cP T (t::ts) aa):∃ a r,aa=a::r∧mj T t a∧cP T ts r:=by
 cases aa with
 | nil=>simp [cP] at h
 | cons a r=>simp only [cP] at h;exact ⟨a,r,rfl,h.1,h.2⟩
theorem qu {T:Nat→Ty}{aa:List AV}(h:cP T [] aa):aa=[]:=by
 cases aa with
 | nil=>rfl
 | cons a r=>simp [cP] at h
theorem rD {T:Nat→Ty}{t:Nat}{a:AV}{s:Sh}(h:mj T t a)(hs:bZ T 20 t=some [s])(hk:∀ fs,(T t).kind≠.struct fs):Fit s a:=by
 obtain ⟨s',h1,h2⟩:=h
 rw [hs] at h1
 cases h1
 revert h2
 split
 ·rename_i fs hf;exact absurd hf (hk fs)
 ·intro h;simp only [FitL] at h;exact h.1
end Go.Proofs.Qe
namespace Go.Proofs.Qe
open Go
def tm (ts:List Int)(i:Int):Int:=(ts[i.toNat]?).getD 0
end Go.Proofs.Qe
namespace Go.Proofs.Qe
open Go
theorem gG {α:Type}{l:List α}{i:Nat}(h:i<l.length):l.take (i+1)=l.take i++[l[i]]:=by
 rw [List.take_add_one,List.getElem?_eq_getElem h];rfl
end Go.Proofs.Qe
set_option maxRecDepth 100000
namespace Go.Proofs.Qe
open Go
end Go.Proofs.Qe
namespace Go.Proofs.Qe
open Go
end Go.Proofs.Qe
namespace Go.Proofs.Qe
open Go
end Go.Proofs.Qe
namespace Go.Proofs.Qe
open Go
end Go.Proofs.Qe
namespace Go.Proofs.Qe
open Go
end Go.Proofs.Qe
namespace Go.Proofs.Qe
open Go
end Go.Proofs.Qe
namespace Go.Proofs.Qe
open Go
section
variable {α:Type} [DecidableEq α] {σ ρ:Type} {body:σ→Option (Step σ ρ)}
end
structure FitE (e:GEntry):Prop where
 ties:e.ties.length≤1048576
 nodes:e.nodes.length≤1048576
 values:e.values.length≤1048576
theorem oG (a:List GEntry)(ha:a.length≤1048576)(hn:∀ n,n∈a→FitE n):cz a a=some true:=by
 unfold cz
 rw [if_pos rfl]
 have key:aA (ct a a) ((0:Nat):Int)=some (.inl ()):=by
  refine dq a.length (fun i=>(i:Int)) ?_ ?_
  ·intro i hi
   have hf:=hn _ (List.getElem_mem hi)
   have h3:dg a[i] a[i]=some true:=by
    unfold dg
    rw [if_pos rfl,jA _ _ (by have:=hf.ties;unfold Cnt;omega),jA _ _ (by have:=hf.nodes;unfold Cnt;omega),jA _ _ (by have:=hf.values;unfold Cnt;omega)]
    simp [obnd]
   unfold ct
   rw [if_pos (by omega),dN hi,wr (x:=(i:Int)+1) (by omega) (by omega)]
   simp only [obnd,h3,if_true];rfl
  ·unfold ct
   rw [if_neg (by omega)]
 rw [show (0:Int)=((0:Nat):Int) from rfl,key];rfl
end Go.Proofs.Qe
namespace Go.Proofs.Qe
open Go
end Go.Proofs.Qe
set_option maxRecDepth 100000
namespace Go.Proofs.Qe
open Go
end Go.Proofs.Qe
namespace Go.Proofs.Qe
open Go
end Go.Proofs.Qe
set_option maxRecDepth 100000
namespace Go.Proofs.Qe
open Go
end Go.Proofs.Qe
set_option maxRecDepth 100000
namespace Go.Proofs.Qe
open Go
end Go.Proofs.Qe
