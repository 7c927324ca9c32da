/- The closed cells of one row. Own work. -/
import Derived.Test.YtgmiaokdnpaglaaCells
set_option linter.unusedVariables false
set_option maxRecDepth 100000
namespace Go.Proofs.Ytgmiaokdnpaglaa.fnExactSkewShow.cell
open Go.ChangeShapes Go.WideShapes Go.RowKit
open Go.Proofs
theorem k0 : (Rows.fnExactSkewShowRow.wf (OpenSpec.ofChange Rows.fnExactSkewShowSpec)) = true := by kernel_rfl
theorem k1 : (laidOutB Try.prog) = true := by kernel_rfl
theorem k2 : (mapsRowed Try.prog) = true := by kernel_rfl
theorem k3 : (Try.f13.params.all (Try.prog.readableRec ·)) = true := by kernel_rfl
theorem k4 : (namedTie Try.prog Rows.fnExactSkewShowRow.named Rows.fnExactSkewShowSpec.vars) = true := by kernel_rfl
theorem k5 : ((Rows.fnExactSkewShowRow.stops == [])) = true := by kernel_rfl
theorem k6 : ((Try.prog.stops == [])) = true := by kernel_rfl
theorem k7 : ((Rows.fnExactSkewShowRow.knobs == [])) = true := by kernel_rfl
theorem k8 : ((Try.prog.stopKnobs == [])) = true := by kernel_rfl
theorem k9 : ((Rows.fnExactSkewShowRow.inPlace == Try.prog.inPlace 13)) = true := by kernel_rfl
theorem k10 : ((Rows.fnExactSkewShowRow.unfollowed == Try.prog.unfollowed 13)) = true := by kernel_rfl
theorem k11 : ((Rows.fnExactSkewShowRow.recurses == Try.prog.recurses 13)) = true := by kernel_rfl
theorem k12 : ((Rows.fnExactSkewShowRow.named == Try.prog.varsNamed 13)) = true := by kernel_rfl
theorem k13 : ((Rows.fnExactSkewShowRow.maps == (Try.f13.params.toList ++ Rows.fnExactSkewShowSpec.plain.varTypes Try.prog).any (Try.prog.mapsRec ·))) = true := by kernel_rfl
theorem k14 : ((Rows.fnExactSkewShowRow.ifaces == (Try.f13.params.toList ++ Rows.fnExactSkewShowSpec.plain.varTypes Try.prog).any (Try.prog.ifacesRec ·))) = true := by kernel_rfl
theorem k15 : ((Rows.fnExactSkewShowRow.mapsOut == Try.prog.mapsAmong Try.f13.resultTypes.toList)) = true := by kernel_rfl
theorem k16 : ((Rows.fnExactSkewShowRow.loops == (Try.f13.params.toList ++ Rows.fnExactSkewShowSpec.plain.varTypes Try.prog).any (Try.prog.loopsFrom ·))) = true := by kernel_rfl
theorem k17 : ((Rows.fnExactSkewShowRow.wideKeys == (Try.f13.params.toList ++ Rows.fnExactSkewShowSpec.plain.varTypes Try.prog ++ Try.f13.resultTypes.toList).any (Try.prog.wideKeysFrom ·))) = true := by kernel_rfl
theorem k18 : (Rows.fnExactSkewShowSpec.vars.all (Try.prog.varReadable ·)) = true := by kernel_rfl
theorem k19 : (Try.f13.resultTypes.all (fun t => Try.prog.readableRec t && decide (t < Try.prog.types.size))) = true := by kernel_rfl
theorem k20 : ((Rows.fnExactSkewShowRow.ifacesOut == Try.f13.resultTypes.toList.any (Try.prog.ifacesRec ·))) = true := by kernel_rfl
theorem k21 : ((Rows.fnExactSkewShowRow.loopsOut == Try.f13.resultTypes.toList.any (Try.prog.loopsFrom ·))) = true := by kernel_rfl
theorem k22 : ((Rows.fnExactSkewShowRow.plainKeys == Try.prog.plainKeys)) = true := by kernel_rfl
theorem k23 : (Rows.fnExactSkewShowRow.shortTexts.isNone) = true := by kernel_rfl
theorem k24 : (Try.prog.stopsHeard) = true := by kernel_rfl
theorem k26 : ((Rows.fnExactSkewShowRow.lifted == Try.prog.liftsFinal)) = true := by rw [cells.lifts]; kernel_rfl
theorem k27 : ((Try.prog.make == some Rows.fnExactSkewShowRow.make)) = true := by rw [cells.made]; kernel_rfl
theorem k28 : ((Rows.fnExactSkewShowRow.kinds == (if Rows.fnExactSkewShowRow.domain.isEmpty then [] else Try.f13.params.toList.map fun t => match Try.prog.underlying t with | some (.int k) => some k | _ => none))) = true := by kernel_rfl
theorem k29 : ((Rows.fnExactSkewShowRow.pinned == Rows.fnExactSkewShowRow.pinnedBy)) = true := by kernel_rfl
theorem k30 : ((Rows.fnExactSkewShowRow.veiled == (Try.f13.params.toList ++ Rows.fnExactSkewShowSpec.plain.varTypes Try.prog ++ Try.f13.resultTypes.toList).any (Try.prog.veiledRec ·))) = true := by kernel_rfl
theorem k31 : (Rows.fnExactSkewShowRow.veiledFits Try.prog Try.f13.params.toList (Try.f13.params.toList ++ Rows.fnExactSkewShowSpec.plain.varTypes Try.prog ++ Try.f13.resultTypes.toList)) = true := by kernel_rfl
theorem closed : joinedFacts Try.prog 13 Try.f13 Rows.fnExactSkewShowSpec Rows.fnExactSkewShowRow = true := by
  unfold joinedFacts
  exact Bool.and_eq_true_iff.2 ⟨Bool.and_eq_true_iff.2 ⟨Bool.and_eq_true_iff.2 ⟨Bool.and_eq_true_iff.2 ⟨Bool.and_eq_true_iff.2 ⟨Bool.and_eq_true_iff.2 ⟨Bool.and_eq_true_iff.2 ⟨Bool.and_eq_true_iff.2 ⟨Bool.and_eq_true_iff.2 ⟨Bool.and_eq_true_iff.2 ⟨Bool.and_eq_true_iff.2 ⟨Bool.and_eq_true_iff.2 ⟨Bool.and_eq_true_iff.2 ⟨Bool.and_eq_true_iff.2 ⟨Bool.and_eq_true_iff.2 ⟨Bool.and_eq_true_iff.2 ⟨Bool.and_eq_true_iff.2 ⟨Bool.and_eq_true_iff.2 ⟨Bool.and_eq_true_iff.2 ⟨Bool.and_eq_true_iff.2 ⟨Bool.and_eq_true_iff.2 ⟨Bool.and_eq_true_iff.2 ⟨Bool.and_eq_true_iff.2 ⟨Bool.and_eq_true_iff.2 ⟨Bool.and_eq_true_iff.2 ⟨Bool.and_eq_true_iff.2 ⟨Bool.and_eq_true_iff.2 ⟨Bool.and_eq_true_iff.2 ⟨Bool.and_eq_true_iff.2 ⟨Bool.and_eq_true_iff.2 ⟨Bool.and_eq_true_iff.2 ⟨k0, k1⟩, k2⟩, k3⟩, k4⟩, k5⟩, k6⟩, k7⟩, k8⟩, k9⟩, k10⟩, k11⟩, k12⟩, k13⟩, k14⟩, k15⟩, k16⟩, k17⟩, k18⟩, k19⟩, k20⟩, k21⟩, k22⟩, k23⟩, k24⟩, cells.enters⟩, k26⟩, k27⟩, k28⟩, k29⟩, k30⟩, k31⟩
end Go.Proofs.Ytgmiaokdnpaglaa.fnExactSkewShow.cell
