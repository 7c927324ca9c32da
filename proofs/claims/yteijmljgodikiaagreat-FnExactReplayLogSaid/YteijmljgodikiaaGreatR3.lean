/- The row of FnExactReplayLog: every call of it that is read as data returns true. Own work. -/
import Derived.Test.YteijmljgodikiaaGreatZP24
import Derived.Test.YteijmljgodikiaaGreatZP29
import Derived.Test.YteijmljgodikiaaGreatZF3x0
import Derived.Test.YteijmljgodikiaaGreatCells3
set_option linter.all false
set_option linter.unusedVariables false
set_option maxRecDepth 100000
namespace Go.Proofs.YteijmljgodikiaaGreat.fnExactReplayLog
open Go.ChangeShapes Go.WideShapes Go.ChangeAt Go.RowKit
open Go.Proofs Go.Proofs.YteijmljgodikiaaGreatZ
theorem own : ownKnob Tryz.prog.godebug = none := by kernel_rfl
theorem laidOut : laidOutB Tryz.prog = true := cell.k1
theorem main (aa : List AV) (h : ArgsFit T [25, 26] aa) : CallOk Tryz.prog 3 aa [] (.lit (.bool true)) [] := by
  obtain ⟨a1, r, rfl, h1, h⟩ := argsFit_cons h
  obtain ⟨a2, r, rfl, h2, h⟩ := argsFit_cons h
  obtain rfl := argsFit_nil h
  obtain ⟨as1, rfl, g1⟩ := argFit_struct h1 (s := shShow) (by kernel_rfl) (fs := [(0, 22), (1, 23), (2, 3)]) (by kernel_rfl)
  obtain ⟨x1, rfl, b1⟩ := fit_show _ g1
  obtain ⟨x2, rfl, b2, c2⟩ := fit_sl fit_entry (argFit_one h2 (s := .sl shEntry) (by kernel_rfl) (by intro fs; rw [show (T 26).kind = .slice 62 from by kernel_rfl]; simp))
  exact c_laws_FnExactReplayLog (ReplayLog_law x1 x2 b1 b2 c2)
theorem lifted (os : Os) (started : os.Started) (H : Type) (enc : TypeId × Value → H) :
    ReturnsInHanded {} Tryz.checked os 3 .any (Rows.fnExactReplayLogSpec.pre6 enc Tryz.prog Tryz.f3 Rows.fnExactReplayLogRow.domain false) (Rows.fnExactReplayLogSpec.post enc Tryz.prog Tryz.f3 false true false false) := by
  refine returnsInHanded_of_change_sized (C := Tryz.checked) own started (by kernel_rfl) Tryz.func3
    (ChangeSpec.witness6 (enc := enc) (C := Tryz.checked) false ⟨#[], #[.agg #[.slice none 0 0, .slice none 0 0, .int .i64 0], .slice none 0 0], []⟩ 8 (by kernel_rfl) (by kernel_rfl) (by kernel_rfl) (by kernel_rfl)) ?_
  intro W base args ds gs before hval0 hW hcnd hsz0 _
  refine law_contract (T := T) (ts := [25, 26]) (bt := 4) hT laidOut (by kernel_rfl) (by kernel_rfl) Tryz.underlying4 (by kernel_rfl) (by kernel_rfl) rfl ?_ main W base args ds gs before hval0 hW
  intro ds hl
  match ds, hl with
  | [d1, d2], _ => rfl
theorem over : Rows.fnExactReplayLogRow.holds Tryz.pinned (OpenSpec.ofChange Rows.fnExactReplayLogSpec) :=
  OpenClaim.holds_of_wide 3 Tryz.f3 rfl rfl rfl rfl rfl rfl rfl ⟨rfl, rfl, rfl, rfl, rfl⟩ rfl rfl rfl rfl rfl (by kernel_rfl) Tryz.func3 cell.closed
    (of_decide_eq_true (by kernel_rfl)) (by unfold Func.isWrapper; first | (rw [if_pos (by decide +kernel)]; kernel_rfl) | (rw [if_neg (by decide +kernel)]; exact ⟨rfl, rfl⟩))
    (fun os started H enc _ => lifted os started H enc)
theorem proved : Rows.FnExactReplayLogSaid := over
end Go.Proofs.YteijmljgodikiaaGreat.fnExactReplayLog
namespace Go.Proofs.YteijmljgodikiaaGreat
/-- The row, under a short name, for the claim. -/
theorem fnExactReplayLog_holds : Rows.FnExactReplayLogSaid := fnExactReplayLog.proved
end Go.Proofs.YteijmljgodikiaaGreat
