/- Sort,Concat,members: what they come to. Own work. -/
import Derived.Test.YtjbpfglekblgbaaDoorZfP24
set_option linter.all false
set_option maxRecDepth 100000
namespace Go.Proofs.Qf
open Go
end Go.Proofs.Qf
set_option maxRecDepth 100000
namespace Go.Proofs.Qf
open Go
end Go.Proofs.Qf
set_option maxRecDepth 100000
namespace Go.Proofs.Qf
open Go
end Go.Proofs.Qf
set_option maxRecDepth 100000
namespace Go.Proofs.Qf
open Go
end Go.Proofs.Qf
set_option maxRecDepth 100000
namespace Go.Proofs.Qf
open Go
end Go.Proofs.Qf
set_option maxRecDepth 100000
namespace Go.Proofs.Qf
open Go
end Go.Proofs.Qf
set_option maxRecDepth 100000
namespace Go.Proofs.Qf
open Go
end Go.Proofs.Qf
set_option maxRecDepth 100000
namespace Go.Proofs.Qf
open Go
end Go.Proofs.Qf
set_option maxRecDepth 100000
namespace Go.Proofs.Qf
open Go
end Go.Proofs.Qf
