/- TightenShow. Own work. -/
import Derived.Test.YtgmiaokdnpaglaaWP16
import Derived.Test.YtgmiaokdnpaglaaWP14
set_option linter.all false
set_option linter.unusedVariables false
set_option linter.unusedSimpArgs false
namespace Go.Proofs.YtgmiaokdnpaglaaW
open Go

def tgF (l : List GTake) (d : Int) (t : GTie) (j : Nat) : GTie :=
  if lenOf (j : Int) l = [] then t else
  ⟨t.from_, t.to, if t.low < IntKind.wrap .i64 (minL (lenOf (j : Int) l) - d) then IntKind.wrap .i64 (minL (lenOf (j : Int) l) - d) else t.low,
    if IntKind.wrap .i64 (maxL (lenOf (j : Int) l) + d) < t.high then IntKind.wrap .i64 (maxL (lenOf (j : Int) l) + d) else t.high, t.free⟩
def tight (s : GShow) (l : List GTake) (d : Int) : GShow := ⟨s.nodes, half2 (tgF l d) s.ties s.ties.length, s.horizon⟩
def tightOf (s : GShow) (l : List GTake) (d : Int) : GShow × Bool :=
  if takesOk s l = true ∧ (0 ≤ d ∧ d ≤ 20) then (tight s l d, true) else (noShow, false)
theorem tightOf_fit (s : GShow) (l : List GTake) (d : Int) (h : FitS s) : FitS (tightOf s l d).1 := by
  unfold tightOf
  split
  · exact ⟨h.nodes, by show (half2 _ _ _).length ≤ _; rw [half2_length _ _ _ (by omega)]; exact h.ties, h.node⟩
  · exact noShow_fit

theorem TightenShow_impl (s : GShow) (l : List GTake) (d : Int) (h : FitS s) (hl : l.length ≤ 1048576) : m_impl_TightenShow s l d = some (tightOf s l d) := by
  have hs := h.small
  have h2 := h.ties
  unfold m_impl_TightenShow tightOf
  rw [TakesOk_impl s l hs (by unfold Cnt; omega)]
  simp only [obnd]
  cases hA : takesOk s l
  · rw [if_neg (by simp), if_neg (by simp)]; rfl
  · rw [if_pos rfl]
    unfold m_impl_isUpTo
    by_cases h0 : 0 ≤ d
    · rw [if_pos h0]
      simp only
      by_cases hd : d ≤ 20
      · rw [if_pos (decide_eq_true hd), if_pos ⟨trivial, h0, hd⟩, copyShow_eq s h]
        simp only
        have key : loopO (m_impl_TightenShow_L1 l d ((s.ties.length : Nat) : Int) s.nodes s.ties s.horizon s.horizon s.nodes) (((0 : Nat) : Int), half2 (tgF l d) s.ties 0) = some (half2 (tgF l d) s.ties s.ties.length) := by
          refine loopO_to s.ties.length (fun i => ((i : Int), half2 (tgF l d) s.ties i)) ?_ ?_
          · intro i hi
            have st := half2_step (tgF l d) s.ties i hi
            have hlen := half2_length (tgF l d) s.ties i (by omega)
            unfold m_impl_TightenShow_L1
            simp only
            rw [if_pos (by omega), show (GShow.mk s.nodes s.ties s.horizon) = s from rfl, ObservedRange_impl s l _ hs hl, wr (x := (i : Int) + 1) (by omega) (by omega)]
            simp only [obnd, rangeOf, hA, if_true, Int.toNat_natCast]
            by_cases hn : lenOf (i : Int) l = []
            · rw [if_pos hn]
              rw [if_neg (by simp), ← st, tgF, if_pos hn, set_same (half2_get (tgF l d) s.ties i hi)]; rfl
            · rw [if_neg hn]
              simp only [if_true]
              rw [getI_half _ _ _ hi]
              simp only
              rw [getI_lt (by simp; omega)]
              simp only [List.getElem_set_self, List.set_set]
              rw [← st, tgF, if_neg hn]; rfl
          · unfold m_impl_TightenShow_L1
            simp only
            rw [if_neg (by omega)]
        rw [half2_zero] at key
        rw [show (0 : Int) = ((0 : Nat) : Int) from rfl, key]; rfl
      · rw [if_neg (by rw [decide_eq_false hd]; simp), if_neg (fun hh => hd hh.2.2)]; rfl
    · rw [if_neg h0]
      simp only
      rw [if_neg (by simp), if_neg (fun hh => h0 hh.2.1)]; rfl

theorem TightenShow_spec (s : GShow) (l : List GTake) (d : Int) (h : FitS s) (hl : l.length ≤ 1048576) : m_spec_TightenShow s l d = some (tightOf s l d) := by
  have hs := h.small
  have h2 := h.ties
  unfold m_spec_TightenShow tightOf
  rw [TakesOk_spec s l hs (by unfold Cnt; omega)]
  simp only [obnd]
  cases hA : takesOk s l
  · rw [if_neg (by simp), if_neg (by simp)]; rfl
  · rw [if_pos rfl, l01In_eq]
    simp only
    by_cases hd : 0 ≤ d ∧ d ≤ 20
    · rw [if_pos (decide_eq_true hd), if_pos ⟨trivial, hd⟩, l08Copy_eq s h]
      simp only
      have key : loopO (m_spec_TightenShow_L1 l d ((s.ties.length : Nat) : Int) s.horizon s.nodes) (((0 : Nat) : Int), half2 (tgF l d) s.ties 0) = some (half2 (tgF l d) s.ties s.ties.length) := by
        refine loopO_to s.ties.length (fun i => ((i : Int), half2 (tgF l d) s.ties i)) ?_ ?_
        · intro i hi
          have st := half2_step (tgF l d) s.ties i hi
          have hlen := half2_length (tgF l d) s.ties i (by omega)
          unfold m_spec_TightenShow_L1
          simp only
          rw [if_pos (by omega), l24Range_eq l _ hl, wr (x := (i : Int) + 1) (by omega) (by omega)]
          simp only [obnd, Int.toNat_natCast]
          by_cases hn : lenOf (i : Int) l = []
          · rw [if_pos hn]
            rw [if_neg (by simp), ← st, tgF, if_pos hn, set_same (half2_get (tgF l d) s.ties i hi)]; rfl
          · rw [if_neg hn]
            simp only [if_true]
            rw [getI_half _ _ _ hi]
            simp only
            rw [getI_lt (by simp; omega)]
            simp only [List.getElem_set_self, List.set_set]
            rw [← st, tgF, if_neg hn]; rfl
        · unfold m_spec_TightenShow_L1
          simp only
          rw [if_neg (by omega)]
      rw [half2_zero] at key
      rw [show (0 : Int) = ((0 : Nat) : Int) from rfl, key]; rfl
    · rw [if_neg (by rw [decide_eq_false hd]; simp), if_neg (fun hh => hd hh.2)]; rfl

theorem TightenShow_law (s : GShow) (l : List GTake) (d : Int) (hb : BdS s) (hl : l.length ≤ maxLen) : m_laws_FnExactTightenShow s l d = some true := by
  unfold m_laws_FnExactTightenShow
  obtain ⟨r, hr, hp⟩ := takes_fit hb hl
  rw [hr]
  simp only [obnd]
  rcases hp with hp | ⟨h0, hf, q, hq, hp⟩
  · rw [if_pos hp]
  · rw [if_neg (by omega), hq]
    simp only
    rcases hp with hp | ⟨h1, h2⟩
    · rw [if_pos hp]
    · rw [if_neg (by omega)]
      have hg := tightOf_fit s l d hf
      simp only [toShow_eq s hf, toTakeS_eq _ h2, TightenShow_impl s l d hf h2, TightenShow_spec s l d hf h2]
      generalize tightOf s l d = p at hg ⊢
      obtain ⟨g, b⟩ := p
      simp only at hg ⊢
      obtain ⟨q, hq, hq1, hq2⟩ := markShow_ok s 1 hf (by omega) (by omega)
      obtain ⟨q', m1, m2, m3, m4, m5, m6⟩ := markShow_held g 1 hg (by omega) (by omega)
      simp only [eqShow_self s hf, eqShow_self g hg, eqTakeS_self l h2, hq, if_true]
      rw [markTakeS_eq l q.1 h2 (by omega) (by omega)]
      simp only
      rw [if_neg (by omega), m1]
      simp only
      rw [chk_pos (by omega), chk_pos (by omega), List.take_of_length_le (by omega), List.take_of_length_le (by omega), m6]
      simp only
      rw [if_neg (by omega)]
      simp
      omega
end Go.Proofs.YtgmiaokdnpaglaaW
