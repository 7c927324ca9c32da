/- The row of FnSkewed: every call of it that is read as data returns true. Own work. -/
import Derived.Test.YtgmiaokdnpaglaaYP20
import Derived.Test.YtgmiaokdnpaglaaYP24
import Derived.Test.YtgmiaokdnpaglaaYF4x0
import Derived.Test.YtgmiaokdnpaglaaCells4
set_option linter.all false
set_option linter.unusedVariables false
set_option maxRecDepth 100000
namespace Go.Proofs.YtgmiaokdnpaglaaY
open Go
theorem fit_u8 (r : List AV) (h : FitL [.int .u8] r) : ∃ x, r = eK .u8 x ∧ True := by
  obtain ⟨a, r, rfl, ha, hr⟩ := fitL_cons h
  obtain rfl := fitL_nil hr
  obtain ⟨n, rfl⟩ := fit_int ha
  exact ⟨n, rfl, trivial⟩
end Go.Proofs.YtgmiaokdnpaglaaY
namespace Go.Proofs.Ytgmiaokdnpaglaa.fnSkewed
open Go.ChangeShapes Go.WideShapes Go.ChangeAt Go.RowKit
open Go.Proofs Go.Proofs.YtgmiaokdnpaglaaY
theorem own : ownKnob Try.prog.godebug = none := by kernel_rfl
theorem laidOut : laidOutB Try.prog = true := cell.k1
theorem main (aa : List AV) (h : ArgsFit T [40] aa) : CallOk Try.prog 4 aa [] (.lit (.bool true)) [] := by
  obtain ⟨a1, r, rfl, h1, h⟩ := argsFit_cons h
  obtain rfl := argsFit_nil h
  obtain ⟨x1, rfl, b1, _⟩ := fit_sl fit_u8 (argFit_one h1 (by kernel_rfl) (by intro fs; rw [show (T 40).kind = .slice 5 from by kernel_rfl]; simp))
  exact c_laws_FnSkewed (Skewed_law x1 )
theorem lifted (os : Os) (started : os.Started) (H : Type) (enc : TypeId × Value → H) :
    ReturnsInHanded {} Try.checked os 4 .any (Rows.fnSkewedSpec.pre6 enc Try.prog Try.f4 Rows.fnSkewedRow.domain false) (Rows.fnSkewedSpec.post enc Try.prog Try.f4 false true false false) := by
  refine returnsInHanded_of_change_sized (C := Try.checked) own started (by kernel_rfl) Try.func4
    (ChangeSpec.witness6 (enc := enc) (C := Try.checked) false ⟨#[], #[.slice none 0 0], []⟩ 8 (by kernel_rfl) (by kernel_rfl) (by kernel_rfl) (by kernel_rfl)) ?_
  intro W base args ds gs before hval0 hW hcnd hsz0 _
  refine law_contract (T := T) (ts := [40]) (bt := 4) hT laidOut (by kernel_rfl) (by kernel_rfl) Try.underlying4 (by kernel_rfl) (by kernel_rfl) rfl ?_ main W base args ds gs before hval0 hW
  intro ds hl
  match ds, hl with
  | [d1], _ => rfl
theorem over : Rows.fnSkewedRow.holds Try.pinned (OpenSpec.ofChange Rows.fnSkewedSpec) :=
  OpenClaim.holds_of_wide 4 Try.f4 rfl rfl rfl rfl rfl rfl rfl ⟨rfl, rfl, rfl, rfl, rfl⟩ rfl rfl rfl rfl rfl (by kernel_rfl) Try.func4 cell.closed
    (of_decide_eq_true (by kernel_rfl)) (by unfold Func.isWrapper; first | (rw [if_pos (by decide +kernel)]; kernel_rfl) | (rw [if_neg (by decide +kernel)]; exact ⟨rfl, rfl⟩))
    (fun os started H enc _ => lifted os started H enc)
theorem proved : Rows.FnSkewedSaid := over
end Go.Proofs.Ytgmiaokdnpaglaa.fnSkewed
namespace Go.Proofs.Ytgmiaokdnpaglaa
/-- The row, under a short name, for the claim. -/
theorem fnSkewed_holds : Rows.FnSkewedSaid := fnSkewed.proved
end Go.Proofs.Ytgmiaokdnpaglaa
