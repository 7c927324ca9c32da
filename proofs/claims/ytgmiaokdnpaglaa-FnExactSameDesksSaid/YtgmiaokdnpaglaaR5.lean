/- The row of FnExactSameDesks: every call of it that is read as data returns true. Own work. -/
import Derived.Test.YtgmiaokdnpaglaaWP21
import Derived.Test.YtgmiaokdnpaglaaWP18
import Derived.Test.YtgmiaokdnpaglaaWF5x0
import Derived.Test.YtgmiaokdnpaglaaCells5
set_option linter.all false
set_option linter.unusedVariables false
set_option maxRecDepth 100000
namespace Go.Proofs.Ytgmiaokdnpaglaa.fnExactSameDesks
open Go.ChangeShapes Go.WideShapes Go.ChangeAt Go.RowKit
open Go.Proofs Go.Proofs.YtgmiaokdnpaglaaW
theorem own : ownKnob Try.prog.godebug = none := by kernel_rfl
theorem laidOut : laidOutB Try.prog = true := cell.k1
theorem main (aa : List AV) (h : ArgsFit T [57, 57] aa) : CallOk Try.prog 5 aa [] (.lit (.bool true)) [] := by
  obtain ⟨a1, r, rfl, h1, h⟩ := argsFit_cons h
  obtain ⟨a2, r, rfl, h2, h⟩ := argsFit_cons h
  obtain rfl := argsFit_nil h
  obtain ⟨as1, rfl, g1⟩ := argFit_struct h1 (s := shDesk) (by kernel_rfl) (fs := [(0, 25), (3, 54), (6, 4), (7, 55)]) (by kernel_rfl)
  obtain ⟨x1, rfl, b1⟩ := fit_desk _ g1
  obtain ⟨as2, rfl, g2⟩ := argFit_struct h2 (s := shDesk) (by kernel_rfl) (fs := [(0, 25), (3, 54), (6, 4), (7, 55)]) (by kernel_rfl)
  obtain ⟨x2, rfl, b2⟩ := fit_desk _ g2
  exact c_laws_FnExactSameDesks (SameDesks_law x1 x2 b1 b2)
theorem lifted (os : Os) (started : os.Started) (H : Type) (enc : TypeId × Value → H) :
    ReturnsInHanded {} Try.checked os 5 .any (Rows.fnExactSameDesksSpec.pre6 enc Try.prog Try.f5 Rows.fnExactSameDesksRow.domain false) (Rows.fnExactSameDesksSpec.post enc Try.prog Try.f5 false true false false) := by
  refine returnsInHanded_of_change_sized (C := Try.checked) own started (by kernel_rfl) Try.func5
    (ChangeSpec.witness6 (enc := enc) (C := Try.checked) false ⟨#[], #[.agg #[.slice none 0 0, .slice none 0 0, .int .i64 0, .int .i64 0, .slice none 0 0, .slice none 0 0, .bool false, .slice none 0 0], .agg #[.slice none 0 0, .slice none 0 0, .int .i64 0, .int .i64 0, .slice none 0 0, .slice none 0 0, .bool false, .slice none 0 0]], []⟩ 8 (by kernel_rfl) (by kernel_rfl) (by kernel_rfl) (by kernel_rfl)) ?_
  intro W base args ds gs before hval0 hW hcnd hsz0 _
  refine law_contract (T := T) (ts := [57, 57]) (bt := 4) hT laidOut (by kernel_rfl) (by kernel_rfl) Try.underlying4 (by kernel_rfl) (by kernel_rfl) rfl ?_ main W base args ds gs before hval0 hW
  intro ds hl
  match ds, hl with
  | [d1, d2], _ => rfl
theorem over : Rows.fnExactSameDesksRow.holds Try.pinned (OpenSpec.ofChange Rows.fnExactSameDesksSpec) :=
  OpenClaim.holds_of_wide 5 Try.f5 rfl rfl rfl rfl rfl rfl rfl ⟨rfl, rfl, rfl, rfl, rfl⟩ rfl rfl rfl rfl rfl (by kernel_rfl) Try.func5 cell.closed
    (of_decide_eq_true (by kernel_rfl)) (by unfold Func.isWrapper; first | (rw [if_pos (by decide +kernel)]; kernel_rfl) | (rw [if_neg (by decide +kernel)]; exact ⟨rfl, rfl⟩))
    (fun os started H enc _ => lifted os started H enc)
theorem proved : Rows.FnExactSameDesksSaid := over
end Go.Proofs.Ytgmiaokdnpaglaa.fnExactSameDesks
namespace Go.Proofs.Ytgmiaokdnpaglaa
/-- The row, under a short name, for the claim. -/
theorem fnExactSameDesks_holds : Rows.FnExactSameDesksSaid := fnExactSameDesks.proved
end Go.Proofs.Ytgmiaokdnpaglaa
