/- What the small functions come to. Own work. -/
import Derived.Test.YtgmiaokdnpaglaaVM
import Derived.Test.YtgmiaokdnpaglaaV34
set_option linter.all false
set_option linter.unusedVariables false
set_option linter.unusedSimpArgs false
namespace Go.Proofs.YtgmiaokdnpaglaaV
open Go

theorem wrap_lo (x : Int) : -9223372036854775808 ≤ IntKind.wrap .i64 x ∧ IntKind.wrap .i64 x ≤ 9223372036854775807 := by
  rw [IntKind.wrap_i64]; omega

def pr (x : Int) : Int := if x < 0 then IntKind.wrap .i64 (0 - x) else x

theorem propOf_eq (x : Int) : m_impl_propOf x = some (pr x) := by
  unfold m_impl_propOf pr
  have h := wrap_lo (0 - x)
  by_cases h0 : x < 0
  · rw [if_pos h0]
    by_cases h1 : x < -9223372036854775808
    · rw [if_pos (by omega)]
    · by_cases h2 : x = -9223372036854775808
      · subst h2; rfl
      · rw [wr (by omega) (by omega), if_pos (by omega)]
  · rw [if_neg h0]
    by_cases h1 : x ≤ 9223372036854775807
    · rw [wr (x := 0 - x) (by omega) (by omega), if_neg (by omega)]
    · rw [if_neg (by omega)]

theorem l07Prop_eq (x : Int) : m_spec_l07Prop x = some (pr x) := by
  unfold m_spec_l07Prop pr
  split <;> rfl

theorem l01In_eq (n lo hi : Int) : m_spec_l01In n lo hi = some (decide (lo ≤ n ∧ n ≤ hi)) := by
  unfold m_spec_l01In
  split <;> simp [*]

theorem isNode_eq (n x : Int) : m_impl_isNode n x = some (decide (0 ≤ x ∧ x < n)) := by
  unfold m_impl_isNode
  split <;> simp [*]

theorem isSpan_eq (n : Int) : m_impl_isSpan n = some (decide (-20 ≤ n ∧ n ≤ 20)) := by
  unfold m_impl_isSpan
  split <;> simp [*]

/-- A list's length that a loop can count. -/
abbrev Cnt (n : Nat) : Prop := n < 4611686018427387904

def labP (l : List Int) (i : Nat) : Bool := decide (l.getD i 0 ≠ 0 ∧ -3 ≤ l.getD i 0 ∧ l.getD i 0 ≤ 3 ∧ (0 < i → pr (l.getD (i - 1) 0) < pr (l.getD i 0)))
def labelOk (l : List Int) : Bool := decide (∀ i, i < l.length → labP l i = true)

theorem getI_D {xs : List Int} {i : Nat} (h : i < xs.length) : getI xs (i : Int) = some (xs.getD i 0) := by
  rw [getI_lt h]; simp [h]

theorem LabelOk_impl (l : List Int) (hl : Cnt l.length) : m_impl_LabelOk l = some (labelOk l) := by
  unfold m_impl_LabelOk
  have key : loopO (m_impl_LabelOk_L1 l ((l.length : Nat) : Int)) 0 = some (if ∀ i, i < l.length → labP l i = true then .inl () else .inr false) := by
    refine loopO_all l.length (fun i => (i : Int)) (labP l) ?_ ?_ ?_
    · intro i hi hp
      simp only [labP, decide_eq_true_eq] at hp
      unfold m_impl_LabelOk_L1
      rw [if_pos (by omega), getI_D hi]
      simp only [obnd]
      rw [if_neg hp.1, if_neg (by omega), if_neg (by omega), wr (x := (i : Int) + 1) (by omega) (by omega)]
      by_cases h0 : 0 < i
      · rw [if_pos (by omega), wr (by omega) (by omega), show ((i : Int) - 1) = ((i - 1 : Nat) : Int) by omega, getI_D (by omega)]
        simp only [propOf_eq]
        rw [if_neg (by have := hp.2.2.2 h0; omega)]
        rfl
      · rw [if_neg (by omega)]; rfl
    · intro i hi hp
      simp only [labP, decide_eq_false_iff_not] at hp
      unfold m_impl_LabelOk_L1
      rw [if_pos (by omega), getI_D hi]
      simp only [obnd]
      split
      · rfl
      · split
        · rfl
        · split
          · rfl
          · by_cases h0 : 0 < i
            · rw [if_pos (by omega), wr (x := (i : Int) - 1) (by omega) (by omega), show ((i : Int) - 1) = ((i - 1 : Nat) : Int) by omega, getI_D (by omega)]
              simp only [propOf_eq]
              rw [if_pos (by omega)]
            · exact absurd ⟨by omega, by omega, by omega, fun h => absurd h h0⟩ hp
    · unfold m_impl_LabelOk_L1
      rw [if_neg (by omega)]
  rw [key]
  by_cases hall : ∀ i, i < l.length → labP l i = true
  · rw [if_pos hall, labelOk, decide_eq_true hall]; rfl
  · rw [if_neg hall, labelOk, decide_eq_false hall]; rfl

/-- A loop over all, told as a Bool. -/
theorem ifB {p : Prop} [Decidable p] : (if p then true else false) = decide p := by by_cases h : p <;> simp [h]

theorem LabelOk_spec (l : List Int) (hl : Cnt l.length) : m_spec_LabelOk l = some (labelOk l) := by
  unfold m_spec_LabelOk
  have key : loopO (m_spec_LabelOk_L1 l ((l.length : Nat) : Int)) 0 = some (if ∀ i, i < l.length → labP l i = true then .inl () else .inr false) := by
    refine loopO_all l.length (fun i => (i : Int)) (labP l) ?_ ?_ ?_
    · intro i hi hp
      simp only [labP, decide_eq_true_eq] at hp
      unfold m_spec_LabelOk_L1
      rw [if_pos (by omega), getI_D hi]
      simp only [obnd, l01In_eq]
      rw [if_neg hp.1, if_pos (decide_eq_true ⟨hp.2.1, hp.2.2.1⟩), wr (x := (i : Int) + 1) (by omega) (by omega)]
      by_cases h0 : 0 < i
      · rw [if_pos (by omega), wr (by omega) (by omega), show ((i : Int) - 1) = ((i - 1 : Nat) : Int) by omega, getI_D (by omega)]
        simp only [l07Prop_eq]
        rw [if_neg (by have := hp.2.2.2 h0; omega)]
        rfl
      · rw [if_neg (by omega)]; rfl
    · intro i hi hp
      simp only [labP, decide_eq_false_iff_not] at hp
      unfold m_spec_LabelOk_L1
      rw [if_pos (by omega), getI_D hi]
      simp only [obnd, l01In_eq]
      split
      · rfl
      · split
        · rename_i h1 h2
          simp only [decide_eq_true_eq] at h2
          by_cases h0 : 0 < i
          · rw [if_pos (by omega), wr (x := (i : Int) - 1) (by omega) (by omega), show ((i : Int) - 1) = ((i - 1 : Nat) : Int) by omega, getI_D (by omega)]
            simp only [l07Prop_eq]
            rw [if_pos (by omega)]
          · exact absurd ⟨by omega, by omega, by omega, fun h => absurd h h0⟩ hp
        · rfl
    · unfold m_spec_LabelOk_L1
      rw [if_neg (by omega)]
  rw [key]
  by_cases hall : ∀ i, i < l.length → labP l i = true
  · rw [if_pos hall, labelOk, decide_eq_true hall]; rfl
  · rw [if_neg hall, labelOk, decide_eq_false hall]; rfl

/-! ### Whether an element is there -/
theorem range_any {n : Nat} {p : Nat → Bool} : ((List.range n).find? p).isSome = decide (∃ i, i < n ∧ p i = true) := by
  rw [Bool.eq_iff_iff, decide_eq_true_eq, List.find?_isSome]
  simp

theorem mem_D {xs : List Int} {x : Int} : x ∈ xs ↔ ∃ i, i < xs.length ∧ xs.getD i 0 = x := by
  constructor
  · intro h
    obtain ⟨i, hi, rfl⟩ := List.getElem_of_mem h
    exact ⟨i, hi, by simp [hi]⟩
  · rintro ⟨i, hi, rfl⟩
    simp [hi]

theorem l07Has_eq (l : List Int) (n : Int) (hl : Cnt l.length) : m_spec_l07Has l n = some (decide (n ∈ l)) := by
  unfold m_spec_l07Has
  have key := loopO_find (body := m_spec_l07Has_L1 n l ((l.length : Nat) : Int)) l.length (fun i => (i : Int)) (fun i => decide (l.getD i 0 = n)) (rT := .inl ()) (fun _ => .inr true) ?_ ?_ ?_
  · rw [show (0 : Int) = ((0 : Nat) : Int) from rfl, key]
    have h := range_any (n := l.length) (p := fun i => decide (l.getD i 0 = n))
    cases hf : (List.range l.length).find? (fun i => decide (l.getD i 0 = n)) with
    | none => 
      rw [hf] at h
      have : ¬ n ∈ l := by rw [mem_D]; simpa using h
      simp [obnd, this]
    | some j =>
      rw [hf] at h
      have : n ∈ l := by rw [mem_D]; simpa using h
      simp [obnd, this]
  · intro i hi hp
    unfold m_spec_l07Has_L1
    rw [if_pos (by omega), getI_D hi]
    simp only [obnd]
    rw [if_neg (by simpa using hp), wr (by omega) (by omega)]; rfl
  · intro i hi hp
    unfold m_spec_l07Has_L1
    rw [if_pos (by omega), getI_D hi]
    simp only [obnd]
    rw [if_pos (by simpa using hp)]
  · unfold m_spec_l07Has_L1
    rw [if_neg (by omega)]

def idxOf (l : List Int) (n : Int) : Int := match (List.range l.length).find? (fun i => decide (n = l.getD i 0)) with | none => -1 | some i => i
theorem Index_eq (l : List Int) (n : Int) (hl : Cnt l.length) : m_slices_Index_int l n = some (idxOf l n) := by
  unfold m_slices_Index_int idxOf
  have key := loopO_find (body := m_slices_Index_int_L1 l n ((l.length : Nat) : Int)) l.length (fun i => (i : Int)) (fun i => decide (n = l.getD i 0)) (rT := .inl ()) (fun i => .inr (i : Int)) ?_ ?_ ?_
  · rw [show (0 : Int) = ((0 : Nat) : Int) from rfl, key]
    cases hf : (List.range l.length).find? (fun i => decide (n = l.getD i 0)) <;> rfl
  · intro i hi hp
    unfold m_slices_Index_int_L1
    rw [if_pos (by omega), getI_D hi]
    simp only [obnd]
    rw [if_neg (by simpa using hp), wr (by omega) (by omega)]; rfl
  · intro i hi hp
    unfold m_slices_Index_int_L1
    rw [if_pos (by omega), getI_D hi]
    simp only [obnd]
    rw [if_pos (by simpa using hp)]
  · unfold m_slices_Index_int_L1
    rw [if_neg (by omega)]
theorem idxOf_nonneg (l : List Int) (n : Int) : (0 ≤ idxOf l n) ↔ n ∈ l := by
  have h := range_any (n := l.length) (p := fun i => decide (n = l.getD i 0))
  unfold idxOf
  rw [mem_D]
  cases hf : (List.range l.length).find? (fun i => decide (n = l.getD i 0)) with
  | none =>
    rw [hf] at h
    simp at h
    simp
    intro x hx he
    exact h x hx (by rw [he])
  | some j =>
    rw [hf] at h
    simp at h
    obtain ⟨i, hi, he⟩ := h
    simp
    exact ⟨i, hi, by simp [hi] at he ⊢; exact he.symm⟩
theorem Contains_eq (l : List Int) (n : Int) (hl : Cnt l.length) : m_slices_Contains_int l n = some (decide (n ∈ l)) := by
  unfold m_slices_Contains_int
  rw [Index_eq l n hl]
  simp only [obnd, idxOf_nonneg]
end Go.Proofs.YtgmiaokdnpaglaaV
