/- ShiftTimes and BrokenTies: the laws. Own work. -/
import Derived.Test.YtgmiaokdnpaglaaP8
set_option linter.all false
set_option linter.unusedVariables false
set_option linter.unusedSimpArgs false
namespace Go.Proofs.YtgmiaokdnpaglaaV
open Go

theorem Clone_int_eq (a : List Int) (ha : a.length ≤ 1048576) : m_slices_Clone_int a = some a := by
  unfold m_slices_Clone_int nilQ
  rw [chk_pos (by omega), chk_pos (by omega)]
  by_cases h : a = []
  · subst h; rw [if_pos rfl, if_pos rfl]
  · rw [if_neg h]

def shF (second : List Int) (d : Int) (t : Int) (i : Nat) : Int := if t ≠ -1 ∧ (i : Int) ∈ second then IntKind.wrap .i64 (t + d) else t
def shiftL (second : List Int) (d : Int) (ts : List Int) : List Int := ts.mapIdx (fun i t => shF second d t i)

theorem set_same {α : Type} {l : List α} {i : Nat} {x : α} (h : l[i]? = some x) : l.set i x = l := by
  obtain ⟨h1, rfl⟩ := List.getElem?_eq_some_iff.1 h
  simp

theorem ShiftTimes_impl (s : GShow) (ts second : List Int) (d : Int) (ht : ts.length ≤ 1048576) (hs : second.length ≤ 1048576) :
    m_impl_ShiftTimes s ts second d = some (if ts.length = s.nodes.length then shiftL second d ts else []) := by
  unfold m_impl_ShiftTimes
  by_cases hl : ts.length = s.nodes.length
  · rw [if_pos (by omega), if_pos hl, Clone_int_eq _ ht]
    simp only [obnd]
    have key : loopO (m_impl_ShiftTimes_L1 second d ts ((ts.length : Nat) : Int)) (((0 : Nat) : Int), half2 (shF second d) ts 0) = some (shiftL second d ts) := by
      refine loopO_to ts.length (fun i => ((i : Int), half2 (shF second d) ts i)) ?_ ?_
      · intro i hi
        have hg := half2_get (shF second d) ts i hi
        have st := half2_step (shF second d) ts i hi
        unfold m_impl_ShiftTimes_L1
        simp only
        rw [if_pos (by omega), getI_lt hi, wr (x := (i : Int) + 1) (by omega) (by omega)]
        simp only [obnd]
        by_cases h1 : ts[i] = -1
        · rw [if_pos h1, ← st, show shF second d ts[i] i = ts[i] by simp [shF, h1], set_same hg]; rfl
        · rw [if_neg h1, Contains_eq _ _ (by unfold Cnt; omega)]
          simp only
          by_cases h2 : (i : Int) ∈ second
          · rw [if_pos (decide_eq_true h2)]
            have : getI (half2 (shF second d) ts i) (i : Int) = some ts[i] := by unfold getI; rw [if_pos (by omega), Int.toNat_natCast, hg]
            rw [this]
            simp only [Int.toNat_natCast]
            rw [← st, show shF second d ts[i] i = IntKind.wrap .i64 (ts[i] + d) by simp [shF, h1, h2]]; rfl
          · rw [if_neg (by rw [decide_eq_false h2]; simp), ← st, show shF second d ts[i] i = ts[i] by simp [shF, h2], set_same hg]; rfl
      · unfold m_impl_ShiftTimes_L1
        simp only
        rw [if_neg (by omega), half2_all]; rfl
    rw [half2_zero] at key
    rw [show (0 : Int) = ((0 : Nat) : Int) from rfl, key]
  · rw [if_neg (by omega), if_neg hl]

theorem ShiftTimes_spec (s : GShow) (ts second : List Int) (d : Int) (ht : ts.length ≤ 1048576) (hs : second.length ≤ 1048576) :
    m_spec_ShiftTimes s ts second d = some (if ts.length = s.nodes.length then shiftL second d ts else []) := by
  unfold m_spec_ShiftTimes
  by_cases hl : ts.length = s.nodes.length
  · rw [if_pos (by omega), if_pos hl, chk_pos (by omega), chk_pos (by omega)]
    have key : loopO (m_spec_ShiftTimes_L1 second d ((ts.length : Nat) : Int)) (((0 : Nat) : Int), half2 (shF second d) ts 0) = some (shiftL second d ts) := by
      refine loopO_to ts.length (fun i => ((i : Int), half2 (shF second d) ts i)) ?_ ?_
      · intro i hi
        have hg := half2_get (shF second d) ts i hi
        have st := half2_step (shF second d) ts i hi
        have hgI : getI (half2 (shF second d) ts i) (i : Int) = some ts[i] := by unfold getI; rw [if_pos (by omega), Int.toNat_natCast, hg]
        unfold m_spec_ShiftTimes_L1
        simp only
        rw [if_pos (by omega), hgI, wr (x := (i : Int) + 1) (by omega) (by omega)]
        simp only [obnd]
        by_cases h1 : ts[i] = -1
        · rw [if_pos h1, ← st, show shF second d ts[i] i = ts[i] by simp [shF, h1], set_same hg]; rfl
        · rw [if_neg h1, l07Has_eq _ _ (by unfold Cnt; omega)]
          simp only
          by_cases h2 : (i : Int) ∈ second
          · rw [if_pos (decide_eq_true h2)]
            try rw [hgI]
            simp only [Int.toNat_natCast]
            rw [← st, show shF second d ts[i] i = IntKind.wrap .i64 (ts[i] + d) by simp [shF, h1, h2]]; rfl
          · rw [if_neg (by rw [decide_eq_false h2]; simp), ← st, show shF second d ts[i] i = ts[i] by simp [shF, h2], set_same hg]; rfl
      · unfold m_spec_ShiftTimes_L1
        simp only
        rw [if_neg (by omega), half2_all]; rfl
    rw [half2_zero] at key
    rw [show (0 : Int) = ((0 : Nat) : Int) from rfl, key]
    rfl
  · rw [if_neg (by omega), if_neg hl]

/-- What a law asks of a result that is a list. -/
theorem mkI_length (k : Int) (n : Nat) : (mkI k n).length = n := by simp [mkI]
theorem mkI_take (k : Int) (n : Nat) : (mkI k n).take n = mkI k n := by
  have := mkI_length k n
  rw [List.take_of_length_le (by omega)]

theorem ShiftTimes_law (s : GShow) (ts second : List Int) (d : Int) (hb : BdS s) : m_laws_FnExactShiftTimes s ts second d = some true := by
  unfold m_laws_FnExactShiftTimes
  by_cases h1 : ts.length ≤ 1048576
  · rw [if_neg (by omega)]
    by_cases h2 : second.length ≤ 1048576
    · rw [if_neg (by omega)]
      obtain ⟨r, hr, hp⟩ := szShow_ok hb
      rw [hr]
      simp only [obnd]
      by_cases h3 : r < 0
      · rw [if_pos h3]
      · rw [if_neg h3]
        have hf : FitS s := by
          rcases hp with hp | hp
          · exact absurd hp h3
          · exact hp
        have hlen : (if ts.length = s.nodes.length then shiftL second d ts else []).length ≤ 1048576 := by
          split
          · simp only [shiftL, List.length_mapIdx]; exact h1
          · simp
        simp only [toShow_eq s hf, toIntS_eq _ h1, toIntS_eq _ h2, ShiftTimes_impl s ts second d h1 h2, ShiftTimes_spec s ts second d h1 h2]
        generalize (if ts.length = s.nodes.length then shiftL second d ts else []) = g at hlen ⊢
        obtain ⟨q, hq, hq1, hq2⟩ := markShow_ok s 1 hf (by omega) (by omega)
        have e1 : m_laws_eqIntS g g = some true := by rw [eqIntS_eq _ _ (by unfold Cnt; omega)]; simp
        have e2 : m_laws_eqIntS ts ts = some true := by rw [eqIntS_eq _ _ (by unfold Cnt; omega)]; simp
        have e3 : m_laws_eqIntS second second = some true := by rw [eqIntS_eq _ _ (by unfold Cnt; omega)]; simp
        simp only [e1, e2, e3, eqShow_self s hf, hq, if_true]
        rw [markIntS_eq ts q.1 h1 (by omega) (by omega)]
        simp only
        rw [markIntS_eq second _ h2 (by omega) (by omega)]
        simp only
        rw [if_neg (by omega), markIntS_eq g 1 hlen (by omega) (by omega)]
        simp only
        rw [chk_pos (by rw [mkI_length]; omega), mkI_take, heldIntS_eq 1 _ hlen (by omega) (by omega)]
        simp only
        rw [if_neg (by omega)]
        simp
        omega
    · rw [if_pos (by omega)]
  · rw [if_pos (by omega)]
end Go.Proofs.YtgmiaokdnpaglaaV
