/- What the package variables that are read hold (none here): block,and what its cells are. Own work. -/
import GoSem.Core.World
set_option linter.all false
namespace Go.Proofs.QA
def glob:List (Nat × (List Value→Prop)):=[]
end Go.Proofs.QA
