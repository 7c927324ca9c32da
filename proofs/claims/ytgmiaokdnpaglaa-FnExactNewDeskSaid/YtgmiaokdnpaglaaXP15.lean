/- NewConsole. Own work. -/
import Derived.Test.YtgmiaokdnpaglaaXP14
set_option linter.all false
set_option linter.unusedVariables false
set_option linter.unusedSimpArgs false
namespace Go.Proofs.YtgmiaokdnpaglaaX
open Go

theorem eqCueS_nil : m_laws_eqCueS [] [] = some true := by
  unfold m_laws_eqCueS; rw [if_pos rfl, loopO_eq]; rfl
theorem eqNodeS_nil : m_laws_eqNodeS [] [] = some true := by
  unfold m_laws_eqNodeS; rw [if_pos rfl, loopO_eq]; rfl
theorem eqTieS_nil : m_laws_eqTieS [] [] = some true := by
  unfold m_laws_eqTieS; rw [if_pos rfl, loopO_eq]; rfl
theorem eqEntryS_nil : m_laws_eqEntryS [] [] = some true := by
  unfold m_laws_eqEntryS; rw [if_pos rfl, loopO_eq]; rfl
theorem eqTakeS_nil : m_laws_eqTakeS [] [] = some true := by
  unfold m_laws_eqTakeS; rw [if_pos rfl, loopO_eq]; rfl
theorem eqIntS_of (a : List Int) (h : a.length ≤ 10) : m_laws_eqIntS a a = some true := by
  rw [eqIntS_eq _ _ (by unfold Cnt; omega)]; simp
theorem markCueS_nil (k : Int) : m_laws_markCueS [] k = some (k, []) := by
  unfold m_laws_markCueS; rw [loopO_eq]; rfl
theorem markNodeS_nil (k : Int) : m_laws_markNodeS [] k = some (k, []) := by
  unfold m_laws_markNodeS; rw [loopO_eq]; rfl
theorem markTieS_nil (k : Int) : m_laws_markTieS [] k = some (k, []) := by
  unfold m_laws_markTieS; rw [loopO_eq]; rfl
theorem markEntryS_nil (k : Int) : m_laws_markEntryS [] k = some (k, []) := by
  unfold m_laws_markEntryS; rw [loopO_eq]; rfl
theorem markTakeS_nil (k : Int) : m_laws_markTakeS [] k = some (k, []) := by
  unfold m_laws_markTakeS; rw [loopO_eq]; rfl
theorem markIntS_nil (k : Int) : m_laws_markIntS [] k = some (k, []) := by
  unfold m_laws_markIntS; rw [loopO_eq]; rfl
theorem heldCueS_nil (k : Int) : m_laws_heldCueS [] k = some k := by
  unfold m_laws_heldCueS; rw [loopO_eq]; rfl
theorem heldNodeS_nil (k : Int) : m_laws_heldNodeS [] k = some k := by
  unfold m_laws_heldNodeS; rw [loopO_eq]; rfl
theorem heldTieS_nil (k : Int) : m_laws_heldTieS [] k = some k := by
  unfold m_laws_heldTieS; rw [loopO_eq]; rfl
theorem heldEntryS_nil (k : Int) : m_laws_heldEntryS [] k = some k := by
  unfold m_laws_heldEntryS; rw [loopO_eq]; rfl
theorem heldTakeS_nil (k : Int) : m_laws_heldTakeS [] k = some k := by
  unfold m_laws_heldTakeS; rw [loopO_eq]; rfl
theorem heldIntS_nil (k : Int) : m_laws_heldIntS [] k = some k := by
  unfold m_laws_heldIntS; rw [loopO_eq]; rfl
theorem markIntS_three : m_laws_markIntS [0, 0, 0] 1 = some (4, [1, 2, 3]) := by
  rw [markIntS_eq _ _ (by decide) (by decide) (by decide)]; rfl
theorem heldIntS_three : m_laws_heldIntS [1, 2, 3] 1 = some 4 := heldIntS_eq 1 3 (by decide) (by decide) (by decide)

theorem eqConsole_new : m_laws_eqConsole (GConsole.mk (GSheet.mk [] [0, 0, 0] 6) (GDesk.mk (GShow.mk [] [] 0) (GState.mk 0 [] []) false []) []) (GConsole.mk (GSheet.mk [] [0, 0, 0] 6) (GDesk.mk (GShow.mk [] [] 0) (GState.mk 0 [] []) false []) []) = some true := by
  unfold m_laws_eqConsole m_laws_eqSheet m_laws_eqDesk m_laws_eqShow m_laws_eqState
  simp only [eqCueS_nil, eqNodeS_nil, eqTieS_nil, eqEntryS_nil, eqTakeS_nil, eqIntS_of [] (by decide), eqIntS_of [0, 0, 0] (by decide), obnd, if_true]
theorem NewConsole_law : m_laws_FnExactNewConsole = some true := by
  unfold m_laws_FnExactNewConsole m_spec_NewConsole m_impl_NewConsole
  rw [show List.replicate 3 (0 : Int) = [0, 0, 0] from rfl]
  simp only [obnd, eqConsole_new, if_true]
  unfold m_laws_markConsole m_laws_markSheet m_laws_markDesk m_laws_markShow m_laws_markState
  simp only [obnd, markCueS_nil, markNodeS_nil, markTieS_nil, markEntryS_nil, markTakeS_nil, markIntS_nil, markIntS_three, List.length_nil, List.length_cons, List.take_nil, Nat.le_refl, chk_pos]
  unfold m_laws_heldConsole m_laws_heldSheet m_laws_heldDesk m_laws_heldShow m_laws_heldState
  simp only [show ([1, 2, 3] : List Int).take (0 + 1 + 1 + 1) = [1, 2, 3] from rfl]
  simp only [obnd, heldCueS_nil, heldNodeS_nil, heldTieS_nil, heldEntryS_nil, heldTakeS_nil, heldIntS_nil, heldIntS_three]
  rfl
end Go.Proofs.YtgmiaokdnpaglaaX
