/- What the package variables that are read hold: block,and what its cells are. Own work. -/
import GoSem.Core.World
import Derived.Lib.ItoaNum
set_option linter.all false
namespace Go.Proofs.Qr
open Go
def glob:List (Nat × (List Value→Prop)):=
 [(0,fun l=>l=Lib.pow10Tab.map (fun z=>Value.int .u64 z)),
  (3,fun l=>∃ tp p,l=[.iface tp p]),
  (2,fun l=>∃ tp p,l=[.iface tp p]),
  (1,fun l=>∃ m,l=[.int .i64 m])]
end Go.Proofs.Qr
