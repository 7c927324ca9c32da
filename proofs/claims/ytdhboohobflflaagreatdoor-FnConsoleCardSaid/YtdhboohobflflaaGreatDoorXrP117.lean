/- Lines of FnConsole,reckoned. Printed by genreach.py. -/
import Derived.Test.YtdhboohobflflaaGreatDoorXrP99
import Derived.KernelRfl
set_option linter.all false
set_option maxRecDepth 100000
set_option maxHeartbeats 4000000
namespace Go.Proofs.Qr
open Go
theorem uD0:RowT 0:=fun _ _=>by kernel_rfl
theorem uD1:RowT 1:=fun _ _=>by kernel_rfl
theorem uD2:RowT 2:=fun _ _=>by kernel_rfl
theorem uD3:RowT 3:=fun _ _=>by kernel_rfl
theorem uD4:RowT 4:=fun _ _=>by kernel_rfl
theorem uD5:RowT 5:=fun _ _=>by kernel_rfl
theorem uD6:RowT 6:=fun _ _=>by kernel_rfl
theorem uD7:RowT 7:=fun _ _=>by kernel_rfl
theorem uD8:RowT 8:=fun _ _=>by kernel_rfl
theorem uD9:RowT 9:=fun _ _=>by kernel_rfl
theorem uD10:RowT 10:=fun _ _=>by kernel_rfl
theorem uD11:RowT 11:=fun _ _=>by kernel_rfl
theorem uD12:RowT 12:=fun _ _=>by kernel_rfl
theorem uD13:RowT 13:=fun _ _=>by kernel_rfl
theorem uD14:RowT 14:=fun _ _=>by kernel_rfl
theorem uD15:RowT 15:=fun _ _=>by kernel_rfl
theorem uD16:RowT 16:=fun _ _=>by kernel_rfl
theorem uD17:RowT 17:=fun _ _=>by kernel_rfl
theorem uD18:RowT 18:=fun _ _=>by kernel_rfl
theorem uD19:RowT 19:=fun _ _=>by kernel_rfl
theorem uD20:RowT 20:=fun _ _=>by kernel_rfl
theorem uD21:RowT 21:=fun _ _=>by kernel_rfl
theorem uD22:RowT 22:=fun _ _=>by kernel_rfl
theorem uD23:RowT 23:=fun _ _=>by kernel_rfl
theorem uD24:RowT 24:=fun _ _=>by kernel_rfl
theorem uD25:RowT 25:=fun _ _=>by kernel_rfl
theorem uD26:RowT 26:=fun _ _=>by kernel_rfl
theorem uD27:RowT 27:=fun _ _=>by kernel_rfl
theorem uD28:RowT 28:=fun _ _=>by kernel_rfl
theorem uD29:RowT 29:=fun _ _=>by kernel_rfl
theorem uD30:RowT 30:=fun _ _=>by kernel_rfl
theorem uD31:RowT 31:=fun _ _=>by kernel_rfl
theorem uD32:RowT 32:=fun _ _=>by kernel_rfl
theorem uD33:RowT 33:=fun _ _=>by kernel_rfl
theorem uD34:RowT 34:=fun _ _=>by kernel_rfl
theorem uD35:RowT 35:=fun _ _=>by kernel_rfl
theorem uD36:RowT 36:=fun _ _=>by kernel_rfl
theorem uD37:RowT 37:=fun _ _=>by kernel_rfl
theorem uD38:RowT 38:=fun _ _=>by kernel_rfl
theorem uD39:RowT 39:=fun _ _=>by kernel_rfl
theorem uD40:RowT 40:=fun _ _=>by kernel_rfl
theorem uD41:RowT 41:=fun _ _=>by kernel_rfl
theorem uD42:RowT 42:=fun _ _=>by kernel_rfl
theorem Mh:AllP RowT 0 43:=⟨uD0,uD1,uD2,uD3,uD4,uD5,uD6,uD7,uD8,uD9,uD10,uD11,uD12,uD13,uD14,uD15,uD16,uD17,uD18,uD19,uD20,uD21,uD22,uD23,uD24,uD25,uD26,uD27,uD28,uD29,uD30,uD31,uD32,uD33,uD34,uD35,uD36,uD37,uD38,uD39,uD40,uD41,uD42,trivial⟩
end Go.Proofs.Qr
