/- The row of FnExactNewDesk: every call of it that is read as data returns true. Own work. -/
import Derived.Test.YtgmiaokdnpaglaaXP20
import Derived.Test.YtgmiaokdnpaglaaXP19
import Derived.Test.YtgmiaokdnpaglaaXF17x0
import Derived.Test.YtgmiaokdnpaglaaCells17
set_option linter.all false
set_option linter.unusedVariables false
set_option maxRecDepth 100000
namespace Go.Proofs.Ytgmiaokdnpaglaa.fnExactNewDesk
open Go.ChangeShapes Go.WideShapes Go.ChangeAt Go.RowKit
open Go.Proofs Go.Proofs.YtgmiaokdnpaglaaX
theorem own : ownKnob Try.prog.godebug = none := by kernel_rfl
theorem laidOut : laidOutB Try.prog = true := cell.k1
theorem main (aa : List AV) (h : ArgsFit T [25, 4] aa) : CallOk Try.prog 17 aa [] (.lit (.bool true)) [] := by
  obtain ⟨a1, r, rfl, h1, h⟩ := argsFit_cons h
  obtain ⟨a2, r, rfl, h2, h⟩ := argsFit_cons h
  obtain rfl := argsFit_nil h
  obtain ⟨as1, rfl, g1⟩ := argFit_struct h1 (s := shShow) (by kernel_rfl) (fs := [(0, 22), (1, 23), (2, 3)]) (by kernel_rfl)
  obtain ⟨x1, rfl, b1⟩ := fit_show _ g1
  obtain ⟨x2, rfl⟩ := fit_bool (argFit_one h2 (s := .bool) (by kernel_rfl) (by intro fs; rw [show (T 4).kind = .bool from by kernel_rfl]; simp))
  exact c_laws_FnExactNewDesk (NewDesk_law x1 x2 b1)
theorem lifted (os : Os) (started : os.Started) (H : Type) (enc : TypeId × Value → H) :
    ReturnsInHanded {} Try.checked os 17 .any (Rows.fnExactNewDeskSpec.pre6 enc Try.prog Try.f17 Rows.fnExactNewDeskRow.domain false) (Rows.fnExactNewDeskSpec.post enc Try.prog Try.f17 false true false false) := by
  refine returnsInHanded_of_change_sized (C := Try.checked) own started (by kernel_rfl) Try.func17
    (ChangeSpec.witness6 (enc := enc) (C := Try.checked) false ⟨#[], #[.agg #[.slice none 0 0, .slice none 0 0, .int .i64 0], .bool false], []⟩ 8 (by kernel_rfl) (by kernel_rfl) (by kernel_rfl) (by kernel_rfl)) ?_
  intro W base args ds gs before hval0 hW hcnd hsz0 _
  refine law_contract (T := T) (ts := [25, 4]) (bt := 4) hT laidOut (by kernel_rfl) (by kernel_rfl) Try.underlying4 (by kernel_rfl) (by kernel_rfl) rfl ?_ main W base args ds gs before hval0 hW
  intro ds hl
  match ds, hl with
  | [d1, d2], _ => rfl
theorem over : Rows.fnExactNewDeskRow.holds Try.pinned (OpenSpec.ofChange Rows.fnExactNewDeskSpec) :=
  OpenClaim.holds_of_wide 17 Try.f17 rfl rfl rfl rfl rfl rfl rfl ⟨rfl, rfl, rfl, rfl, rfl⟩ rfl rfl rfl rfl rfl (by kernel_rfl) Try.func17 cell.closed
    (of_decide_eq_true (by kernel_rfl)) (by unfold Func.isWrapper; first | (rw [if_pos (by decide +kernel)]; kernel_rfl) | (rw [if_neg (by decide +kernel)]; exact ⟨rfl, rfl⟩))
    (fun os started H enc _ => lifted os started H enc)
theorem proved : Rows.FnExactNewDeskSaid := over
end Go.Proofs.Ytgmiaokdnpaglaa.fnExactNewDesk
namespace Go.Proofs.Ytgmiaokdnpaglaa
/-- The row, under a short name, for the claim. -/
theorem fnExactNewDesk_holds : Rows.FnExactNewDeskSaid := fnExactNewDesk.proved
end Go.Proofs.Ytgmiaokdnpaglaa
