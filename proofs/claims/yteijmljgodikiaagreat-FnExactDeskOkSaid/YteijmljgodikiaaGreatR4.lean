/- The row of FnExactDeskOk: every call of it that is read as data returns true. Own work. -/
import Derived.Test.YteijmljgodikiaaGreatZP24
import Derived.Test.YteijmljgodikiaaGreatZP29
import Derived.Test.YteijmljgodikiaaGreatZFK1
import Derived.Test.YteijmljgodikiaaGreatCells4
set_option linter.all false
set_option linter.unusedVariables false
set_option maxRecDepth 100000
namespace Go.Proofs.YteijmljgodikiaaGreat.fnExactDeskOk
open Go.ChangeShapes Go.WideShapes Go.ChangeAt Go.RowKit
open Go.Proofs Go.Proofs.YteijmljgodikiaaGreatZ
theorem own : ownKnob Tryz.prog.godebug = none := by kernel_rfl
theorem laidOut : laidOutB Tryz.prog = true := cell.k1
theorem main (aa : List AV) (h : ArgsFit T [50] aa) : CallOk Tryz.prog 4 aa [] (.lit (.bool true)) [] := by
  obtain ⟨a1, r, rfl, h1, h⟩ := argsFit_cons h
  obtain rfl := argsFit_nil h
  obtain ⟨as1, rfl, g1⟩ := argFit_struct h1 (s := shDesk) (by kernel_rfl) (fs := [(0, 25), (3, 48), (6, 4), (7, 26)]) (by kernel_rfl)
  obtain ⟨x1, rfl, b1⟩ := fit_desk _ g1
  exact c_laws_FnExactDeskOk (DeskOk_law x1 b1)
theorem lifted (os : Os) (started : os.Started) (H : Type) (enc : TypeId × Value → H) :
    ReturnsInHanded {} Tryz.checked os 4 .any (Rows.fnExactDeskOkSpec.pre6 enc Tryz.prog Tryz.f4 Rows.fnExactDeskOkRow.domain false) (Rows.fnExactDeskOkSpec.post enc Tryz.prog Tryz.f4 false true false false) := by
  refine returnsInHanded_of_change_sized (C := Tryz.checked) own started (by kernel_rfl) Tryz.func4
    (ChangeSpec.witness6 (enc := enc) (C := Tryz.checked) false ⟨#[], #[.agg #[.slice none 0 0, .slice none 0 0, .int .i64 0, .int .i64 0, .slice none 0 0, .slice none 0 0, .bool false, .slice none 0 0]], []⟩ 8 (by kernel_rfl) (by kernel_rfl) (by kernel_rfl) (by kernel_rfl)) ?_
  intro W base args ds gs before hval0 hW hcnd hsz0 _
  refine law_contract (T := T) (ts := [50]) (bt := 4) hT laidOut (by kernel_rfl) (by kernel_rfl) Tryz.underlying4 (by kernel_rfl) (by kernel_rfl) rfl ?_ main W base args ds gs before hval0 hW
  intro ds hl
  match ds, hl with
  | [d1], _ => rfl
theorem over : Rows.fnExactDeskOkRow.holds Tryz.pinned (OpenSpec.ofChange Rows.fnExactDeskOkSpec) :=
  OpenClaim.holds_of_wide 4 Tryz.f4 rfl rfl rfl rfl rfl rfl rfl ⟨rfl, rfl, rfl, rfl, rfl⟩ rfl rfl rfl rfl rfl (by kernel_rfl) Tryz.func4 cell.closed
    (of_decide_eq_true (by kernel_rfl)) (by unfold Func.isWrapper; first | (rw [if_pos (by decide +kernel)]; kernel_rfl) | (rw [if_neg (by decide +kernel)]; exact ⟨rfl, rfl⟩))
    (fun os started H enc _ => lifted os started H enc)
theorem proved : Rows.FnExactDeskOkSaid := over
end Go.Proofs.YteijmljgodikiaaGreat.fnExactDeskOk
namespace Go.Proofs.YteijmljgodikiaaGreat
/-- The row, under a short name, for the claim. -/
theorem fnExactDeskOk_holds : Rows.FnExactDeskOkSaid := fnExactDeskOk.proved
end Go.Proofs.YteijmljgodikiaaGreat
