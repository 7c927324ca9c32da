/- The row of FnExactShiftTimes. Own work. -/
import Derived.Test.YtgmiaokdnpaglaaP10
import Derived.Test.YtgmiaokdnpaglaaVF3
import Derived.Test.YtgmiaokdnpaglaaCells3
set_option linter.all false
set_option linter.unusedVariables false
set_option maxRecDepth 100000
namespace Go.Proofs.Ytgmiaokdnpaglaa.fnExactShiftTimes
open Go.ChangeShapes Go.WideShapes Go.ChangeAt Go.RowKit
open Go.Proofs Go.Proofs.YtgmiaokdnpaglaaV
theorem own : ownKnob Try.prog.godebug = none := by kernel_rfl
theorem laidOut : laidOutB Try.prog = true := by kernel_rfl
theorem main (aa : List AV) (h : ArgsFit T [25, 26, 26, 3] aa) : CallOk Try.prog 3 aa [] (.lit (.bool true)) [] := by
  obtain ⟨a1, r, rfl, h1, h⟩ := argsFit_cons h
  obtain ⟨a2, r, rfl, h2, h⟩ := argsFit_cons h
  obtain ⟨a3, r, rfl, h3, h⟩ := argsFit_cons h
  obtain ⟨a4, r, rfl, h4, h⟩ := argsFit_cons h
  obtain rfl := argsFit_nil h
  obtain ⟨as1, rfl, h1'⟩ := argFit_struct h1 (s := shShow) (by kernel_rfl) (fs := [(0, 22), (1, 23), (2, 3)]) (by kernel_rfl)
  obtain ⟨s, rfl, hb⟩ := fit_show _ h1'
  obtain ⟨ts, rfl, _⟩ := fit_ints (argFit_one h2 (by kernel_rfl) (by intro fs; rw [show (T 26).kind = .slice 3 from by kernel_rfl]; simp))
  obtain ⟨sc, rfl, _⟩ := fit_ints (argFit_one h3 (by kernel_rfl) (by intro fs; rw [show (T 26).kind = .slice 3 from by kernel_rfl]; simp))
  obtain ⟨d, rfl⟩ := fit_int (argFit_one h4 (s := .int .i64) (by kernel_rfl) (by intro fs; rw [show (T 3).kind = .int .i64 from by kernel_rfl]; simp))
  exact c_laws_FnExactShiftTimes (ShiftTimes_law s ts sc d hb)
theorem lifted (os : Os) (started : os.Started) (H : Type) (enc : TypeId × Value → H) :
    ReturnsInHanded {} Try.checked os 3 .any (Rows.fnExactShiftTimesSpec.pre6 enc Try.prog Try.f3 Rows.fnExactShiftTimesRow.domain false) (Rows.fnExactShiftTimesSpec.post enc Try.prog Try.f3 false true false false) := by
  refine returnsInHanded_of_change_sized (C := Try.checked) own started (by kernel_rfl) Try.func3
    (ChangeSpec.witness6 (enc := enc) (C := Try.checked) false ⟨#[], #[.agg #[.slice none 0 0, .slice none 0 0, .int .i64 0], .slice none 0 0, .slice none 0 0, .int .i64 0], []⟩ 8 (by kernel_rfl) (by kernel_rfl) (by kernel_rfl) (by kernel_rfl)) ?_
  intro W base args ds gs before hval0 hW hcnd hsz0 _
  refine law_contract (T := T) (ts := [25, 26, 26, 3]) (bt := 4) hT laidOut (by kernel_rfl) (by kernel_rfl) Try.underlying4 (by kernel_rfl) (by kernel_rfl) rfl ?_ main W base args ds gs before hval0 hW
  intro ds hl
  match ds, hl with
  | [d1, d2, d3, d4], _ => rfl
theorem over : Rows.fnExactShiftTimesRow.holds Try.pinned (OpenSpec.ofChange Rows.fnExactShiftTimesSpec) :=
  OpenClaim.holds_of_wide 3 Try.f3 rfl rfl rfl rfl rfl rfl rfl ⟨rfl, rfl, rfl, rfl, rfl⟩ rfl rfl rfl rfl rfl (by kernel_rfl) Try.func3 cell.closed
    (of_decide_eq_true (by kernel_rfl)) (by unfold Func.isWrapper; first | (rw [if_pos (by decide +kernel)]; kernel_rfl) | (rw [if_neg (by decide +kernel)]; exact ⟨rfl, rfl⟩))
    (fun os started H enc _ => lifted os started H enc)
theorem proved : Rows.FnExactShiftTimesSaid := over
end Go.Proofs.Ytgmiaokdnpaglaa.fnExactShiftTimes
namespace Go.Proofs.Ytgmiaokdnpaglaa
/-- The row, under a short name, for the claim. -/
theorem fnExactShiftTimes_holds : Rows.FnExactShiftTimesSaid := fnExactShiftTimes.proved
end Go.Proofs.Ytgmiaokdnpaglaa
