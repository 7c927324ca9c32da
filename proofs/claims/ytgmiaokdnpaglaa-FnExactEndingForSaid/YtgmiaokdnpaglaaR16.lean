/- The row of FnExactEndingFor: every call of it that is read as data returns true. Own work. -/
import Derived.Test.YtgmiaokdnpaglaaXP23
import Derived.Test.YtgmiaokdnpaglaaXP23
import Derived.Test.YtgmiaokdnpaglaaXF16x0
import Derived.Test.YtgmiaokdnpaglaaCells16
set_option linter.all false
set_option linter.unusedVariables false
set_option maxRecDepth 100000
namespace Go.Proofs.Ytgmiaokdnpaglaa.fnExactEndingFor
open Go.ChangeShapes Go.WideShapes Go.ChangeAt Go.RowKit
open Go.Proofs Go.Proofs.YtgmiaokdnpaglaaX
theorem own : ownKnob Try.prog.godebug = none := by kernel_rfl
theorem laidOut : laidOutB Try.prog = true := cell.k1
theorem main (aa : List AV) (h : ArgsFit T [25, 54, 100] aa) : CallOk Try.prog 16 aa [] (.lit (.bool true)) [] := by
  obtain ⟨a1, r, rfl, h1, h⟩ := argsFit_cons h
  obtain ⟨a2, r, rfl, h2, h⟩ := argsFit_cons h
  obtain ⟨a3, r, rfl, h3, h⟩ := argsFit_cons h
  obtain rfl := argsFit_nil h
  obtain ⟨as1, rfl, g1⟩ := argFit_struct h1 (s := shShow) (by kernel_rfl) (fs := [(0, 22), (1, 23), (2, 3)]) (by kernel_rfl)
  obtain ⟨x1, rfl, b1⟩ := fit_show _ g1
  obtain ⟨as2, rfl, g2⟩ := argFit_struct h2 (s := shState) (by kernel_rfl) (fs := [(0, 3), (1, 26), (2, 26)]) (by kernel_rfl)
  obtain ⟨x2, rfl, b2⟩ := fit_state _ g2
  obtain ⟨as3, rfl, g3⟩ := argFit_struct h3 (s := shChoice) (by kernel_rfl) (fs := [(0, 26), (1, 26)]) (by kernel_rfl)
  obtain ⟨x3, rfl, b3⟩ := fit_choice _ g3
  exact c_laws_FnExactEndingFor (EndingFor_law x1 x2 x3 b1 b2 b3)
theorem lifted (os : Os) (started : os.Started) (H : Type) (enc : TypeId × Value → H) :
    ReturnsInHanded {} Try.checked os 16 .any (Rows.fnExactEndingForSpec.pre6 enc Try.prog Try.f16 Rows.fnExactEndingForRow.domain false) (Rows.fnExactEndingForSpec.post enc Try.prog Try.f16 false true false false) := by
  refine returnsInHanded_of_change_sized (C := Try.checked) own started (by kernel_rfl) Try.func16
    (ChangeSpec.witness6 (enc := enc) (C := Try.checked) false ⟨#[], #[.agg #[.slice none 0 0, .slice none 0 0, .int .i64 0], .agg #[.int .i64 0, .slice none 0 0, .slice none 0 0], .agg #[.slice none 0 0, .slice none 0 0]], []⟩ 8 (by kernel_rfl) (by kernel_rfl) (by kernel_rfl) (by kernel_rfl)) ?_
  intro W base args ds gs before hval0 hW hcnd hsz0 _
  refine law_contract (T := T) (ts := [25, 54, 100]) (bt := 4) hT laidOut (by kernel_rfl) (by kernel_rfl) Try.underlying4 (by kernel_rfl) (by kernel_rfl) rfl ?_ main W base args ds gs before hval0 hW
  intro ds hl
  match ds, hl with
  | [d1, d2, d3], _ => rfl
theorem over : Rows.fnExactEndingForRow.holds Try.pinned (OpenSpec.ofChange Rows.fnExactEndingForSpec) :=
  OpenClaim.holds_of_wide 16 Try.f16 rfl rfl rfl rfl rfl rfl rfl ⟨rfl, rfl, rfl, rfl, rfl⟩ rfl rfl rfl rfl rfl (by kernel_rfl) Try.func16 cell.closed
    (of_decide_eq_true (by kernel_rfl)) (by unfold Func.isWrapper; first | (rw [if_pos (by decide +kernel)]; kernel_rfl) | (rw [if_neg (by decide +kernel)]; exact ⟨rfl, rfl⟩))
    (fun os started H enc _ => lifted os started H enc)
theorem proved : Rows.FnExactEndingForSaid := over
end Go.Proofs.Ytgmiaokdnpaglaa.fnExactEndingFor
namespace Go.Proofs.Ytgmiaokdnpaglaa
/-- The row, under a short name, for the claim. -/
theorem fnExactEndingFor_holds : Rows.FnExactEndingForSaid := fnExactEndingFor.proved
end Go.Proofs.Ytgmiaokdnpaglaa
