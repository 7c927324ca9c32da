/- What the package variables that are read hold: block,and what its cells are. Own work. -/
import GoSem.Core.World
import Derived.Lib.ItoaNum
set_option linter.all false
namespace Go.Proofs.Qm
open Go
def glob:List (Nat × (List Value→Prop)):=
 [(0,fun l=>l=Lib.pow10Tab.map (fun z=>Value.int .u64 z))]
end Go.Proofs.Qm
