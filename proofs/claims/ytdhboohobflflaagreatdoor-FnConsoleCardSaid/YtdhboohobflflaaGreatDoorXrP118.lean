/- Lines of FnConsole,reckoned. Printed by genreach.py. -/
import Derived.Test.YtdhboohobflflaaGreatDoorXrP99
import Derived.KernelRfl
set_option linter.all false
set_option maxRecDepth 100000
set_option maxHeartbeats 4000000
namespace Go.Proofs.Qr
open Go
theorem uD43:RowT 43:=fun _ _=>by kernel_rfl
theorem uD44:RowT 44:=fun _ _=>by kernel_rfl
theorem uD45:RowT 45:=fun _ _=>by kernel_rfl
theorem uD46:RowT 46:=fun _ _=>by kernel_rfl
theorem uD47:RowT 47:=fun _ _=>by kernel_rfl
theorem uD48:RowT 48:=fun _ _=>by kernel_rfl
theorem uD49:RowT 49:=fun _ _=>by kernel_rfl
theorem uD50:RowT 50:=fun _ _=>by kernel_rfl
theorem uD51:RowT 51:=fun _ _=>by kernel_rfl
theorem uD52:RowT 52:=fun _ _=>by kernel_rfl
theorem uD53:RowT 53:=fun _ _=>by kernel_rfl
theorem uD54:RowT 54:=fun _ _=>by kernel_rfl
theorem uD55:RowT 55:=fun _ _=>by kernel_rfl
theorem uD56:RowT 56:=fun _ _=>by kernel_rfl
theorem uD57:RowT 57:=fun _ _=>by kernel_rfl
theorem uD58:RowT 58:=fun _ _=>by kernel_rfl
theorem uD59:RowT 59:=fun _ _=>by kernel_rfl
theorem uD60:RowT 60:=fun _ _=>by kernel_rfl
theorem uD61:RowT 61:=fun _ _=>by kernel_rfl
theorem uD62:RowT 62:=fun _ _=>by kernel_rfl
theorem uD63:RowT 63:=fun _ _=>by kernel_rfl
theorem uD64:RowT 64:=fun _ _=>by kernel_rfl
theorem uD65:RowT 65:=fun _ _=>by kernel_rfl
theorem uD66:RowT 66:=fun _ _=>by kernel_rfl
theorem uD67:RowT 67:=fun _ _=>by kernel_rfl
theorem uD68:RowT 68:=fun _ _=>by kernel_rfl
theorem uD69:RowT 69:=fun _ _=>by kernel_rfl
theorem uD70:RowT 70:=fun _ _=>by kernel_rfl
theorem uD71:RowT 71:=fun _ _=>by kernel_rfl
theorem uD72:RowT 72:=fun _ _=>by kernel_rfl
theorem uD73:RowT 73:=fun _ _=>by kernel_rfl
theorem uD74:RowT 74:=fun _ _=>by kernel_rfl
theorem uD75:RowT 75:=fun _ _=>by kernel_rfl
theorem uD76:RowT 76:=fun _ _=>by kernel_rfl
theorem uD77:RowT 77:=fun _ _=>by kernel_rfl
theorem uD78:RowT 78:=fun _ _=>by kernel_rfl
theorem uD79:RowT 79:=fun _ _=>by kernel_rfl
theorem uD80:RowT 80:=fun _ _=>by kernel_rfl
theorem uD81:RowT 81:=fun _ _=>by kernel_rfl
theorem uD82:RowT 82:=fun _ _=>by kernel_rfl
theorem uD83:RowT 83:=fun _ _=>by kernel_rfl
theorem uD84:RowT 84:=fun _ _=>by kernel_rfl
theorem uD85:RowT 85:=fun _ _=>by kernel_rfl
theorem uD86:RowT 86:=fun _ _=>by kernel_rfl
theorem uD87:RowT 87:=fun _ _=>by kernel_rfl
theorem uD88:RowT 88:=fun _ _=>by kernel_rfl
theorem uD89:RowT 89:=fun _ _=>by kernel_rfl
theorem uD90:RowT 90:=fun _ _=>by kernel_rfl
theorem uD91:RowT 91:=fun _ _=>by kernel_rfl
theorem uD92:RowT 92:=fun _ _=>by kernel_rfl
theorem uD93:RowT 93:=fun _ _=>by kernel_rfl
theorem uD94:RowT 94:=fun _ _=>by kernel_rfl
theorem uD95:RowT 95:=fun _ _=>by kernel_rfl
theorem uD96:RowT 96:=fun _ _=>by kernel_rfl
theorem uD97:RowT 97:=fun _ _=>by kernel_rfl
theorem uD98:RowT 98:=fun _ _=>by kernel_rfl
theorem uD99:RowT 99:=fun _ _=>by kernel_rfl
theorem Mi:RowT 100:=fun _ _=>by kernel_rfl
theorem Mj:RowT 101:=fun _ _=>by kernel_rfl
theorem Ml:RowT 102:=fun _ _=>by kernel_rfl
theorem Mm:RowT 103:=fun _ _=>by kernel_rfl
theorem Mn:RowT 104:=fun _ _=>by kernel_rfl
theorem Mo:RowT 105:=fun _ _=>by kernel_rfl
theorem Mp:RowT 106:=fun _ _=>by kernel_rfl
theorem Mq:RowT 107:=fun _ _=>by kernel_rfl
theorem Mr:AllP RowT 43 65:=⟨uD43,uD44,uD45,uD46,uD47,uD48,uD49,uD50,uD51,uD52,uD53,uD54,uD55,uD56,uD57,uD58,uD59,uD60,uD61,uD62,uD63,uD64,uD65,uD66,uD67,uD68,uD69,uD70,uD71,uD72,uD73,uD74,uD75,uD76,uD77,uD78,uD79,uD80,uD81,uD82,uD83,uD84,uD85,uD86,uD87,uD88,uD89,uD90,uD91,uD92,uD93,uD94,uD95,uD96,uD97,uD98,uD99,Mi,Mj,Ml,Mm,Mn,Mo,Mp,Mq,trivial⟩
end Go.Proofs.Qr
