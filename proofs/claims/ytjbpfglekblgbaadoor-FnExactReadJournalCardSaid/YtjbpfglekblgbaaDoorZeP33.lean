/- Sort,Concat,members: what they come to. Own work. -/
import Derived.Test.YtjbpfglekblgbaaDoorZeP24
set_option linter.all false
set_option maxRecDepth 100000
namespace Go.Proofs.Qe
open Go
end Go.Proofs.Qe
set_option maxRecDepth 100000
namespace Go.Proofs.Qe
open Go
end Go.Proofs.Qe
set_option maxRecDepth 100000
namespace Go.Proofs.Qe
open Go
end Go.Proofs.Qe
set_option maxRecDepth 100000
namespace Go.Proofs.Qe
open Go
end Go.Proofs.Qe
set_option maxRecDepth 100000
namespace Go.Proofs.Qe
open Go
end Go.Proofs.Qe
set_option maxRecDepth 100000
namespace Go.Proofs.Qe
open Go
end Go.Proofs.Qe
set_option maxRecDepth 100000
namespace Go.Proofs.Qe
open Go
theorem wr8 {x:Int}(h1:0≤x)(h2:x≤255):IntKind.wrap .u8 x=x:=by
 unfold IntKind.wrap
 simp [IntKind.bits,IntKind.signed]
 omega
theorem rE (ns:List Int):(ce ns).data.toList=ns.map (fun n=>UInt8.ofNat n.toNat):=by
 unfold ce
 have key:∀ (ns:List Int) (a:ByteArray),(ns.foldl (fun r n=>r.push (UInt8.ofNat n.toNat)) a).data.toList=a.data.toList++ns.map (fun n=>UInt8.ofNat n.toNat):=by
  intro ns
  induction ns with
  | nil=>intro a;simp
  | cons n ns ih=>
   intro a
   simp only [List.foldl_cons,ih,List.map_cons]
   simp [ByteArray.push]
 rw [key]
 rfl
end Go.Proofs.Qe
set_option maxRecDepth 100000
namespace Go.Proofs.Qe
open Go
end Go.Proofs.Qe
set_option maxRecDepth 100000
namespace Go.Proofs.Qe
open Go
end Go.Proofs.Qe
