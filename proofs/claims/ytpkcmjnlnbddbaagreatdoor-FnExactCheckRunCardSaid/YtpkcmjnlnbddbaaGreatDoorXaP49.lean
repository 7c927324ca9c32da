/- The reference's game reckons winning too. Own work. -/
import Derived.Test.YtpkcmjnlnbddbaaGreatDoorXaP33
import Derived.Test.YtpkcmjnlnbddbaaGreatDoorXaP24
import Derived.Lib.AtoiAllCases
import Derived.Lib.IndexBytes
set_option linter.all false
set_option maxRecDepth 100000
namespace Go.Proofs.Qa
open Go
end Go.Proofs.Qa
set_option maxRecDepth 100000
namespace Go.Proofs.Qa
open Go
theorem CY {α:Type}{xs:List α}{q:α→Bool}(h:¬ 0≤aQ xs q):aQ xs q=-1∧xs.any q=false:=by
 constructor
 ·unfold aQ at h ⊢
  cases hf:xs.findIdx? q with
  | none=>rfl
  | some j=>rw [hf] at h;simp at h
 ·rw [← ll];exact decide_eq_false h
section
variable {s:GShow} {y:ai}
end
end Go.Proofs.Qa
set_option maxRecDepth 100000
namespace Go.Proofs.Qa
open Go
end Go.Proofs.Qa
set_option maxRecDepth 100000
namespace Go.Proofs.Qa
open Go
end Go.Proofs.Qa
set_option maxRecDepth 100000
namespace Go.Proofs.Qa
open Go
end Go.Proofs.Qa
set_option maxRecDepth 100000
namespace Go.Proofs.Qa
open Go
theorem zY (a:List Int)(h:a.length≤1048576):cA a a=some true:=by
 rw [my a a (by unfold Cnt;omega),decide_eq_true rfl]
end Go.Proofs.Qa
set_option maxRecDepth 100000
set_option maxHeartbeats 1000000
namespace Go.Proofs.Qa
open Go
end Go.Proofs.Qa
set_option maxRecDepth 100000
set_option maxHeartbeats 1000000
namespace Go.Proofs.Qa
open Go
end Go.Proofs.Qa
set_option maxRecDepth 100000
set_option maxHeartbeats 1000000
namespace Go.Proofs.Qa
open Go
end Go.Proofs.Qa
set_option maxRecDepth 100000
set_option maxHeartbeats 1000000
namespace Go.Proofs.Qa
open Go
structure BrT (t:GTie):Prop where
 f0:0≤t.from_
 f1:t.from_<4
 t0:0≤t.to
 t1:t.to<4
 ne:t.from_≠t.to
 lo:-20≤t.low
 hi:t.high≤20
 lh:t.low≤t.high
 fr:t.free=false
theorem BrT.b {t:GTie}(h:BrT t){ns:List GNode}{ts:List GTie}{z:Int}(hn:4≤ns.length):tieB ⟨ns,ts,z⟩ t=true:=by
 have h1:=h.f1
 have h2:=h.t1
 unfold tieB
 rw [decide_eq_true_eq]
 exact ⟨⟨h.f0,by show t.from_<(ns.length:Int);omega⟩,⟨h.t0,by show t.to<(ns.length:Int);omega⟩,h.ne,h.lo,h.hi,h.lh⟩
theorem BrT.f {t:GTie}(h:BrT t){s:GShow}{i:Nat}:lC s i t=true:=by
 unfold lC
 rw [h.fr];rfl
end Go.Proofs.Qa
set_option maxRecDepth 100000
set_option maxHeartbeats 1000000
namespace Go.Proofs.Qa
open Go
end Go.Proofs.Qa
set_option maxRecDepth 100000
set_option maxHeartbeats 1000000
namespace Go.Proofs.Qa
open Go
end Go.Proofs.Qa
set_option maxRecDepth 100000
set_option maxHeartbeats 1000000
namespace Go.Proofs.Qa
open Go
end Go.Proofs.Qa
set_option maxRecDepth 100000
set_option maxHeartbeats 1000000
namespace Go.Proofs.Qa
open Go
end Go.Proofs.Qa
set_option maxRecDepth 100000
set_option maxHeartbeats 1000000
namespace Go.Proofs.Qa
open Go Go.Lib
theorem CZ (l:List UInt8):bs (ofL l)=l:=by simp [bs,ofL]
theorem wX (a b:ByteArray):bs (a++b)=bs a++bs b:=by
 unfold bs;rw [ByteArray.data_append,Array.toList_append]
theorem nJ (s:ByteArray):s.size=(bs s).length:=by unfold bs;rw [Array.length_toList];rfl
def i64 (n:Int):Prop:=-9223372036854775808≤n∧n≤9223372036854775807
theorem xk {u:Nat}(h:¬ u<10):decDigits u=decDigits (u / 10)++[UInt8.ofNat (48+u % 10)]:=by rw [decDigits,dif_neg h]
theorem mu {u:Nat}(h:u<10):decDigits u=[UInt8.ofNat (48+u)]:=by rw [decDigits,dif_pos h]
theorem kY:∀ (k u:Nat),u<10^(k+1)→(decDigits u).length≤k+1
 | 0,u,h=>by rw [mu (by omega)];simp
 | k+1,u,h=>by
  by_cases h1:u<10
  ·rw [mu h1];simp
  ·rw [xk h1,List.length_append,List.length_singleton]
   have:=kY k (u / 10) (by rw [Nat.pow_succ] at h;omega)
   omega
theorem sU {n:Int}(h:i64 n):(itoa n).length≤20:=by
 have h1:=h.1
 have h2:=h.2
 unfold itoa;split
 ·have:=kY 18 n.natAbs (by omega)
  simp only [List.length_cons];omega
 ·have:=kY 18 n.toNat (by omega)
  omega
theorem nK {n:Int}(h:i64 n):bS n=some (ofL (itoa n)):=by
 unfold bS ii Bh
 rw [if_pos (show -9223372036854775808≤n∧n≤9223372036854775807 from h)];rfl
end Go.Proofs.Qa
set_option maxRecDepth 100000
set_option maxHeartbeats 1000000
namespace Go.Proofs.Qa
open Go Go.Lib
theorem yU {B:Nat}(sep:List UInt8)(xs:List (List UInt8))(h:∀ x,x∈xs→x.length≤B):(Lib.join xs sep).length≤xs.length*(B+sep.length):=by
 have key:∀ xs:List (List UInt8),(∀ x,x∈xs→x.length≤B)→(joinTail sep xs).length≤xs.length*(B+sep.length):=by
  intro xs
  induction xs with
  | nil=>intro _;simp [joinTail]
  | cons x r ih=>
   intro h
   have h1:=ih (fun y hy=>h y (by simp [hy]))
   have h2:=h x (by simp)
   simp only [joinTail,List.map_cons,List.flatten_cons,List.length_append,List.length_cons] at h1 ⊢
   rw [Nat.succ_mul];omega
 cases xs with
 | nil=>simp [Lib.join_nil]
 | cons x r=>
  rw [Lib.join_cons,List.length_append,List.length_cons,Nat.succ_mul]
  have h1:=key r (fun y hy=>h y (by simp [hy]))
  have h2:=h x (by simp)
  omega
def KS (l:List ByteArray)(sep:ByteArray):ByteArray:=ofL (Lib.join (l.map bs) (bs sep))
theorem Da (l:List ByteArray)(sep:ByteArray)(h1:l.length≤1073741824)(h2:(Lib.join (l.map bs) (bs sep)).length≤1099511627776):fF l sep=some (KS l sep):=by
 unfold fF ij Bi
 rw [if_pos ⟨by omega,by omega⟩];rfl
end Go.Proofs.Qa
