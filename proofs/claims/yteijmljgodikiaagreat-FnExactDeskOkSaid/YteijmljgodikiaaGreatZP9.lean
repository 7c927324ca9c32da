/- What the small functions come to. Own work. -/
import Derived.Test.YteijmljgodikiaaGreatZM
import Derived.Test.YteijmljgodikiaaGreatZ34
set_option linter.all false
set_option linter.unusedVariables false
set_option linter.unusedSimpArgs false
namespace Go.Proofs.YteijmljgodikiaaGreatZ
open Go

theorem wrap_lo (x : Int) : -9223372036854775808 ≤ IntKind.wrap .i64 x ∧ IntKind.wrap .i64 x ≤ 9223372036854775807 := by
  rw [IntKind.wrap_i64]; omega

def pr (x : Int) : Int := if x < 0 then IntKind.wrap .i64 (0 - x) else x

theorem propOf_eq (x : Int) : m_impl_propOf x = some (pr x) := by
  unfold m_impl_propOf pr
  have h := wrap_lo (0 - x)
  by_cases h0 : x < 0
  · rw [if_pos h0]
    by_cases h1 : x < -9223372036854775808
    · rw [if_pos (by omega)]
    · by_cases h2 : x = -9223372036854775808
      · subst h2; rfl
      · rw [wr (by omega) (by omega), if_pos (by omega)]
  · rw [if_neg h0]
    by_cases h1 : x ≤ 9223372036854775807
    · rw [wr (x := 0 - x) (by omega) (by omega), if_neg (by omega)]
    · rw [if_neg (by omega)]

theorem l07Prop_eq (x : Int) : m_spec_l07Prop x = some (pr x) := by
  unfold m_spec_l07Prop pr
  split <;> rfl

theorem l01In_eq (n lo hi : Int) : m_spec_l01In n lo hi = some (decide (lo ≤ n ∧ n ≤ hi)) := by
  unfold m_spec_l01In
  split <;> simp [*]

theorem isNode_eq (n x : Int) : m_impl_isNode n x = some (decide (0 ≤ x ∧ x < n)) := by
  unfold m_impl_isNode
  split <;> simp [*]

theorem isSpan_eq (n : Int) : m_impl_isSpan n = some (decide (-20 ≤ n ∧ n ≤ 20)) := by
  unfold m_impl_isSpan
  split <;> simp [*]

/-- A list's length that a loop can count. -/
abbrev Cnt (n : Nat) : Prop := n < 4611686018427387904

def labP (l : List Int) (i : Nat) : Bool := decide (l.getD i 0 ≠ 0 ∧ -3 ≤ l.getD i 0 ∧ l.getD i 0 ≤ 3 ∧ (0 < i → pr (l.getD (i - 1) 0) < pr (l.getD i 0)))
def labelOk (l : List Int) : Bool := decide (∀ i, i < l.length → labP l i = true)

theorem getI_D {xs : List Int} {i : Nat} (h : i < xs.length) : getI xs (i : Int) = some (xs.getD i 0) := by
  rw [getI_lt h]; simp [h]

theorem LabelOk_impl (l : List Int) (hl : Cnt l.length) : m_impl_LabelOk l = some (labelOk l) := by
  unfold m_impl_LabelOk
  have key : loopO (m_impl_LabelOk_L1 l ((l.length : Nat) : Int)) 0 = some (if ∀ i, i < l.length → labP l i = true then .inl () else .inr false) := by
    refine loopO_all l.length (fun i => (i : Int)) (labP l) ?_ ?_ ?_
    · intro i hi hp
      simp only [labP, decide_eq_true_eq] at hp
      unfold m_impl_LabelOk_L1
      rw [if_pos (by omega), getI_D hi]
      simp only [obnd]
      rw [if_neg hp.1, if_neg (by omega), if_neg (by omega), wr (x := (i : Int) + 1) (by omega) (by omega)]
      by_cases h0 : 0 < i
      · rw [if_pos (by omega), wr (by omega) (by omega), show ((i : Int) - 1) = ((i - 1 : Nat) : Int) by omega, getI_D (by omega)]
        simp only [propOf_eq]
        rw [if_neg (by have := hp.2.2.2 h0; omega)]
        rfl
      · rw [if_neg (by omega)]; rfl
    · intro i hi hp
      simp only [labP, decide_eq_false_iff_not] at hp
      unfold m_impl_LabelOk_L1
      rw [if_pos (by omega), getI_D hi]
      simp only [obnd]
      split
      · rfl
      · split
        · rfl
        · split
          · rfl
          · by_cases h0 : 0 < i
            · rw [if_pos (by omega), wr (x := (i : Int) - 1) (by omega) (by omega), show ((i : Int) - 1) = ((i - 1 : Nat) : Int) by omega, getI_D (by omega)]
              simp only [propOf_eq]
              rw [if_pos (by omega)]
            · exact absurd ⟨by omega, by omega, by omega, fun h => absurd h h0⟩ hp
    · unfold m_impl_LabelOk_L1
      rw [if_neg (by omega)]
  rw [key]
  by_cases hall : ∀ i, i < l.length → labP l i = true
  · rw [if_pos hall, labelOk, decide_eq_true hall]; rfl
  · rw [if_neg hall, labelOk, decide_eq_false hall]; rfl

theorem LabelOk_spec (l : List Int) (hl : Cnt l.length) : m_spec_LabelOk l = some (labelOk l) := by
  unfold m_spec_LabelOk
  have key : loopO (m_spec_LabelOk_L1 l ((l.length : Nat) : Int)) 0 = some (if ∀ i, i < l.length → labP l i = true then .inl () else .inr false) := by
    refine loopO_all l.length (fun i => (i : Int)) (labP l) ?_ ?_ ?_
    · intro i hi hp
      simp only [labP, decide_eq_true_eq] at hp
      unfold m_spec_LabelOk_L1
      rw [if_pos (by omega), getI_D hi]
      simp only [obnd, l01In_eq]
      rw [if_neg hp.1, if_pos (decide_eq_true ⟨hp.2.1, hp.2.2.1⟩), wr (x := (i : Int) + 1) (by omega) (by omega)]
      by_cases h0 : 0 < i
      · rw [if_pos (by omega), wr (by omega) (by omega), show ((i : Int) - 1) = ((i - 1 : Nat) : Int) by omega, getI_D (by omega)]
        simp only [l07Prop_eq]
        rw [if_neg (by have := hp.2.2.2 h0; omega)]
        rfl
      · rw [if_neg (by omega)]; rfl
    · intro i hi hp
      simp only [labP, decide_eq_false_iff_not] at hp
      unfold m_spec_LabelOk_L1
      rw [if_pos (by omega), getI_D hi]
      simp only [obnd, l01In_eq]
      split
      · rfl
      · split
        · rename_i h1 h2
          simp only [decide_eq_true_eq] at h2
          by_cases h0 : 0 < i
          · rw [if_pos (by omega), wr (x := (i : Int) - 1) (by omega) (by omega), show ((i : Int) - 1) = ((i - 1 : Nat) : Int) by omega, getI_D (by omega)]
            simp only [l07Prop_eq]
            rw [if_pos (by omega)]
          · exact absurd ⟨by omega, by omega, by omega, fun h => absurd h h0⟩ hp
        · rfl
    · unfold m_spec_LabelOk_L1
      rw [if_neg (by omega)]
  rw [key]
  by_cases hall : ∀ i, i < l.length → labP l i = true
  · rw [if_pos hall, labelOk, decide_eq_true hall]; rfl
  · rw [if_neg hall, labelOk, decide_eq_false hall]; rfl

/-! ### Whether an element is there -/
theorem range_any {n : Nat} {p : Nat → Bool} : ((List.range n).find? p).isSome = decide (∃ i, i < n ∧ p i = true) := by
  rw [Bool.eq_iff_iff, decide_eq_true_eq, List.find?_isSome]
  simp

theorem mem_D {xs : List Int} {x : Int} : x ∈ xs ↔ ∃ i, i < xs.length ∧ xs.getD i 0 = x := by
  constructor
  · intro h
    obtain ⟨i, hi, rfl⟩ := List.getElem_of_mem h
    exact ⟨i, hi, by simp [hi]⟩
  · rintro ⟨i, hi, rfl⟩
    simp [hi]

theorem l07Has_eq (l : List Int) (n : Int) (hl : Cnt l.length) : m_spec_l07Has l n = some (decide (n ∈ l)) := by
  unfold m_spec_l07Has
  have key := loopO_find (body := m_spec_l07Has_L1 n l ((l.length : Nat) : Int)) l.length (fun i => (i : Int)) (fun i => decide (l.getD i 0 = n)) (rT := .inl ()) (fun _ => .inr true) ?_ ?_ ?_
  · rw [show (0 : Int) = ((0 : Nat) : Int) from rfl, key]
    have h := range_any (n := l.length) (p := fun i => decide (l.getD i 0 = n))
    cases hf : (List.range l.length).find? (fun i => decide (l.getD i 0 = n)) with
    | none => 
      rw [hf] at h
      have : ¬ n ∈ l := by rw [mem_D]; simpa using h
      simp [obnd, this]
    | some j =>
      rw [hf] at h
      have : n ∈ l := by rw [mem_D]; simpa using h
      simp [obnd, this]
  · intro i hi hp
    unfold m_spec_l07Has_L1
    rw [if_pos (by omega), getI_D hi]
    simp only [obnd]
    rw [if_neg (by simpa using hp), wr (by omega) (by omega)]; rfl
  · intro i hi hp
    unfold m_spec_l07Has_L1
    rw [if_pos (by omega), getI_D hi]
    simp only [obnd]
    rw [if_pos (by simpa using hp)]
  · unfold m_spec_l07Has_L1
    rw [if_neg (by omega)]

def idxOf (l : List Int) (n : Int) : Int := match (List.range l.length).find? (fun i => decide (n = l.getD i 0)) with | none => -1 | some i => i
theorem Index_eq (l : List Int) (n : Int) (hl : Cnt l.length) : m_slices_Index_int l n = some (idxOf l n) := by
  unfold m_slices_Index_int idxOf
  have key := loopO_find (body := m_slices_Index_int_L1 l n ((l.length : Nat) : Int)) l.length (fun i => (i : Int)) (fun i => decide (n = l.getD i 0)) (rT := .inl ()) (fun i => .inr (i : Int)) ?_ ?_ ?_
  · rw [show (0 : Int) = ((0 : Nat) : Int) from rfl, key]
    cases hf : (List.range l.length).find? (fun i => decide (n = l.getD i 0)) <;> rfl
  · intro i hi hp
    unfold m_slices_Index_int_L1
    rw [if_pos (by omega), getI_D hi]
    simp only [obnd]
    rw [if_neg (by simpa using hp), wr (by omega) (by omega)]; rfl
  · intro i hi hp
    unfold m_slices_Index_int_L1
    rw [if_pos (by omega), getI_D hi]
    simp only [obnd]
    rw [if_pos (by simpa using hp)]
  · unfold m_slices_Index_int_L1
    rw [if_neg (by omega)]
theorem idxOf_nonneg (l : List Int) (n : Int) : (0 ≤ idxOf l n) ↔ n ∈ l := by
  have h := range_any (n := l.length) (p := fun i => decide (n = l.getD i 0))
  unfold idxOf
  rw [mem_D]
  cases hf : (List.range l.length).find? (fun i => decide (n = l.getD i 0)) with
  | none =>
    rw [hf] at h
    simp at h
    simp
    intro x hx he
    exact h x hx (by rw [he])
  | some j =>
    rw [hf] at h
    simp at h
    obtain ⟨i, hi, he⟩ := h
    simp
    exact ⟨i, hi, by simp [hi] at he ⊢; exact he.symm⟩
theorem Contains_eq (l : List Int) (n : Int) (hl : Cnt l.length) : m_slices_Contains_int l n = some (decide (n ∈ l)) := by
  unfold m_slices_Contains_int
  rw [Index_eq l n hl]
  simp only [obnd, idxOf_nonneg]
end Go.Proofs.YteijmljgodikiaaGreatZ

/- Names, nodes, places: what the functions come to. Own work. -/
set_option linter.unusedVariables false
set_option linter.unusedSimpArgs false
namespace Go.Proofs.YteijmljgodikiaaGreatZ
open Go

theorem getS_lt {s : ByteArray} {i : Nat} (h : i < s.size) : getS s (i : Int) = some s[i] := by
  unfold getS
  rw [if_pos (by omega), Int.toNat_natCast, getElem?_pos s i h]

/-- A letter, or a digit that does not come first. -/
def nameC (i : Nat) (c : UInt8) : Bool := decide ((97 ≤ c.toNat ∧ c.toNat ≤ 122) ∨ (48 ≤ c.toNat ∧ c.toNat ≤ 57 ∧ 0 < i))
def nameAt (s : ByteArray) (i : Nat) : Bool := nameC i (s[i]?.getD 0)
def nameOk (s : ByteArray) : Bool := decide ((∀ i, i < s.size → nameAt s i = true) ∧ 1 ≤ s.size ∧ s.size ≤ 8)

theorem nameAt_lt {s : ByteArray} {i : Nat} (h : i < s.size) : nameAt s i = nameC i s[i] := by
  unfold nameAt
  rw [getElem?_pos s i h]; rfl

theorem nameOk_of {s : ByteArray} (hall : ∀ i, i < s.size → nameAt s i = true) : nameOk s = decide (1 ≤ s.size ∧ s.size ≤ 8) := by
  unfold nameOk
  exact decide_eq_decide.2 (and_iff_right hall)
theorem nameOk_no {s : ByteArray} (hall : ¬ ∀ i, i < s.size → nameAt s i = true) : nameOk s = false := decide_eq_false (fun h => hall h.1)

theorem IsName_impl (s : ByteArray) (hs : Cnt s.size) : m_impl_IsName s = some (nameOk s) := by
  unfold m_impl_IsName
  have key : loopO (m_impl_IsName_L1 s) 0 = some (if ∀ i, i < s.size → nameAt s i = true then .inl () else .inr false) := by
    refine loopO_all s.size (fun i => (i : Int)) (nameAt s) ?_ ?_ ?_
    · intro i hi hp
      rw [nameAt_lt hi, nameC, decide_eq_true_eq] at hp
      unfold m_impl_IsName_L1
      rw [if_pos (by omega), getS_lt hi]
      simp only [obnd]
      rw [wr (x := (i : Int) + 1) (by omega) (by omega)]
      repeat' split
      all_goals first | rfl | (exfalso; omega)
    · intro i hi hp
      rw [nameAt_lt hi, nameC, decide_eq_false_iff_not] at hp
      unfold m_impl_IsName_L1
      rw [if_pos (by omega), getS_lt hi]
      simp only [obnd]
      repeat' split
      all_goals first | rfl | (exfalso; omega)
    · unfold m_impl_IsName_L1
      rw [if_neg (by omega)]
  rw [key]
  by_cases hall : ∀ i, i < s.size → nameAt s i = true
  · rw [if_pos hall, nameOk_of hall]
    simp only [obnd]
    split
    · congr 1; exact decide_eq_decide.2 (by omega)
    · congr 1; exact (decide_eq_false (by omega)).symm
  · rw [if_neg hall, nameOk_no hall]; rfl

theorem IsName_spec (s : ByteArray) (hs : Cnt s.size) : m_spec_IsName s = some (nameOk s) := by
  unfold m_spec_IsName
  have key : loopO (m_spec_IsName_L1 s) 0 = some (if ∀ i, i < s.size → nameAt s i = true then .inl () else .inr false) := by
    refine loopO_all s.size (fun i => (i : Int)) (nameAt s) ?_ ?_ ?_
    · intro i hi hp
      rw [nameAt_lt hi, nameC, decide_eq_true_eq] at hp
      unfold m_spec_IsName_L1
      rw [if_pos (by omega), getS_lt hi]
      simp only [obnd]
      rw [wr (x := (i : Int) + 1) (by omega) (by omega)]
      repeat' split
      all_goals first | rfl | (exfalso; omega)
    · intro i hi hp
      rw [nameAt_lt hi, nameC, decide_eq_false_iff_not] at hp
      unfold m_spec_IsName_L1
      rw [if_pos (by omega), getS_lt hi]
      simp only [obnd]
      repeat' split
      all_goals first | rfl | (exfalso; omega)
    · unfold m_spec_IsName_L1
      rw [if_neg (by omega)]
  rw [key]
  by_cases hall : ∀ i, i < s.size → nameAt s i = true
  · rw [if_pos hall, nameOk_of hall]
    simp only [obnd, l01In_eq]
    congr 1
    exact decide_eq_decide.2 (by omega)
  · rw [if_neg hall, nameOk_no hall]; rfl

def nodeOk (n : GNode) : Bool := nameOk n.name && labelOk n.label && decide (0 ≤ n.watch ∧ n.watch ≤ 3)
def SmallN (n : GNode) : Prop := Cnt n.name.size ∧ Cnt n.label.length

theorem NodeOk_impl (n : GNode) (h : SmallN n) : m_impl_NodeOk n = some (nodeOk n) := by
  unfold m_impl_NodeOk nodeOk
  rw [IsName_impl _ h.1]; simp only [obnd]
  cases nameOk n.name
  · rfl
  · rw [LabelOk_impl _ h.2]; simp only
    cases labelOk n.label
    · rfl
    · simp only [if_true]
      split <;> simp [*]
theorem NodeOk_spec (n : GNode) (h : SmallN n) : m_spec_NodeOk n = some (nodeOk n) := by
  unfold m_spec_NodeOk nodeOk
  rw [IsName_spec _ h.1]; simp only [obnd]
  cases nameOk n.name
  · rfl
  · rw [LabelOk_spec _ h.2]; simp only
    cases labelOk n.label
    · rfl
    · simp only [if_true, l01In_eq, Bool.true_and]

/-! ### Equal lists -/
theorem eqLoop {a b : List Int} (hl : a.length = b.length) : (∀ i, i < a.length → decide (a.getD i 0 = b.getD i 0) = true) ↔ a = b := by
  constructor
  · intro h
    apply List.ext_getElem hl
    intro i h1 h2
    have := h i h1
    simpa [h1, h2] using this
  · rintro rfl i _; simp
theorem Equal_int (a b : List Int) (ha : Cnt a.length) : m_slices_Equal_int a b = some (decide (a = b)) := by
  unfold m_slices_Equal_int
  by_cases hl : a.length = b.length
  · rw [if_pos (by omega)]
    have key : loopO (m_slices_Equal_int_L1 a b ((a.length : Nat) : Int)) 0 = some (if ∀ i, i < a.length → decide (a.getD i 0 = b.getD i 0) = true then .inl () else .inr false) := by
      refine loopO_all a.length (fun i => (i : Int)) (fun i => decide (a.getD i 0 = b.getD i 0)) ?_ ?_ ?_
      · intro i hi hp
        unfold m_slices_Equal_int_L1
        rw [if_pos (by omega), getI_D hi, getI_D (xs := b) (by omega), wr (x := (i : Int) + 1) (by omega) (by omega)]
        simp only [obnd]
        rw [if_pos (of_decide_eq_true hp)]; rfl
      · intro i hi hp
        unfold m_slices_Equal_int_L1
        rw [if_pos (by omega), getI_D hi, getI_D (xs := b) (by omega)]
        simp only [obnd]
        rw [if_neg (of_decide_eq_false hp)]
      · unfold m_slices_Equal_int_L1
        rw [if_neg (by omega)]
    rw [key]
    by_cases he : a = b
    · rw [if_pos ((eqLoop hl).2 he), decide_eq_true he]; rfl
    · rw [if_neg (fun h => he ((eqLoop hl).1 h)), decide_eq_false he]; rfl
  · rw [if_neg (by omega), decide_eq_false (fun h => hl (by rw [h]))]
theorem l08Same_eq (a b : List Int) (ha : Cnt a.length) : m_spec_l08Same a b = some (decide (a = b)) := by
  unfold m_spec_l08Same
  by_cases hl : a.length = b.length
  · rw [if_pos (by omega)]
    have key : loopO (m_spec_l08Same_L1 b a ((a.length : Nat) : Int)) 0 = some (if ∀ i, i < a.length → decide (a.getD i 0 = b.getD i 0) = true then .inl () else .inr false) := by
      refine loopO_all a.length (fun i => (i : Int)) (fun i => decide (a.getD i 0 = b.getD i 0)) ?_ ?_ ?_
      · intro i hi hp
        unfold m_spec_l08Same_L1
        rw [if_pos (by omega), getI_D hi, getI_D (xs := b) (by omega), wr (x := (i : Int) + 1) (by omega) (by omega)]
        simp only [obnd]
        rw [if_pos (of_decide_eq_true hp)]; rfl
      · intro i hi hp
        unfold m_spec_l08Same_L1
        rw [if_pos (by omega), getI_D hi, getI_D (xs := b) (by omega)]
        simp only [obnd]
        rw [if_neg (of_decide_eq_false hp)]
      · unfold m_spec_l08Same_L1
        rw [if_neg (by omega)]
    rw [key]
    by_cases he : a = b
    · rw [if_pos ((eqLoop hl).2 he), decide_eq_true he]; rfl
    · rw [if_neg (fun h => he ((eqLoop hl).1 h)), decide_eq_false he]; rfl
  · rw [if_neg (by omega), decide_eq_false (fun h => hl (by rw [h]))]
end Go.Proofs.YteijmljgodikiaaGreatZ

/- Places and searches: what the functions come to. Own work. -/
set_option linter.unusedVariables false
set_option linter.unusedSimpArgs false
namespace Go.Proofs.YteijmljgodikiaaGreatZ
open Go

theorem IndexFunc_Node (xs : List GNode) (p : GNode → Option Bool) (q : GNode → Bool) (hx : Cnt xs.length) (hp : ∀ x, x ∈ xs → p x = some (q x)) : m_slices_IndexFunc_Node xs p = some (firstI xs q) := by
  unfold m_slices_IndexFunc_Node firstI
  have key := loopO_idx (body := m_slices_IndexFunc_Node_L1 xs p ((xs.length : Nat) : Int)) xs q (fun i => (i : Int)) (rT := .inl ()) (fun i => .inr (i : Int)) ?_ ?_ ?_
  · rw [show (0 : Int) = ((0 : Nat) : Int) from rfl, key]
    cases xs.findIdx? q <;> rfl
  · intro i hi hq
    unfold m_slices_IndexFunc_Node_L1
    rw [if_pos (by omega), getI_lt hi, wr (x := (i : Int) + 1) (by omega) (by omega)]
    simp only [obnd, hp _ (List.getElem_mem hi), hq]
    rfl
  · intro i hi hq
    unfold m_slices_IndexFunc_Node_L1
    rw [if_pos (by omega), getI_lt hi]
    simp only [obnd, hp _ (List.getElem_mem hi), hq, if_true]
  · unfold m_slices_IndexFunc_Node_L1
    rw [if_neg (by omega)]

theorem IndexFunc_Tie (xs : List GTie) (p : GTie → Option Bool) (q : GTie → Bool) (hx : Cnt xs.length) (hp : ∀ x, x ∈ xs → p x = some (q x)) : m_slices_IndexFunc_Tie xs p = some (firstI xs q) := by
  unfold m_slices_IndexFunc_Tie firstI
  have key := loopO_idx (body := m_slices_IndexFunc_Tie_L1 xs p ((xs.length : Nat) : Int)) xs q (fun i => (i : Int)) (rT := .inl ()) (fun i => .inr (i : Int)) ?_ ?_ ?_
  · rw [show (0 : Int) = ((0 : Nat) : Int) from rfl, key]
    cases xs.findIdx? q <;> rfl
  · intro i hi hq
    unfold m_slices_IndexFunc_Tie_L1
    rw [if_pos (by omega), getI_lt hi, wr (x := (i : Int) + 1) (by omega) (by omega)]
    simp only [obnd, hp _ (List.getElem_mem hi), hq]
    rfl
  · intro i hi hq
    unfold m_slices_IndexFunc_Tie_L1
    rw [if_pos (by omega), getI_lt hi]
    simp only [obnd, hp _ (List.getElem_mem hi), hq, if_true]
  · unfold m_slices_IndexFunc_Tie_L1
    rw [if_neg (by omega)]
theorem ContainsFunc_Tie (xs : List GTie) (p : GTie → Option Bool) (q : GTie → Bool) (hx : Cnt xs.length) (hp : ∀ x, x ∈ xs → p x = some (q x)) : m_slices_ContainsFunc_Tie xs p = some (xs.any q) := by
  unfold m_slices_ContainsFunc_Tie
  rw [IndexFunc_Tie xs p q hx hp]
  simp only [obnd, firstI_any]

theorem IndexFunc_int (xs : List Int) (p : Int → Option Bool) (q : Int → Bool) (hx : Cnt xs.length) (hp : ∀ x, x ∈ xs → p x = some (q x)) : m_slices_IndexFunc_int xs p = some (firstI xs q) := by
  unfold m_slices_IndexFunc_int firstI
  have key := loopO_idx (body := m_slices_IndexFunc_int_L1 xs p ((xs.length : Nat) : Int)) xs q (fun i => (i : Int)) (rT := .inl ()) (fun i => .inr (i : Int)) ?_ ?_ ?_
  · rw [show (0 : Int) = ((0 : Nat) : Int) from rfl, key]
    cases xs.findIdx? q <;> rfl
  · intro i hi hq
    unfold m_slices_IndexFunc_int_L1
    rw [if_pos (by omega), getI_lt hi, wr (x := (i : Int) + 1) (by omega) (by omega)]
    simp only [obnd, hp _ (List.getElem_mem hi), hq]
    rfl
  · intro i hi hq
    unfold m_slices_IndexFunc_int_L1
    rw [if_pos (by omega), getI_lt hi]
    simp only [obnd, hp _ (List.getElem_mem hi), hq, if_true]
  · unfold m_slices_IndexFunc_int_L1
    rw [if_neg (by omega)]
theorem ContainsFunc_int (xs : List Int) (p : Int → Option Bool) (q : Int → Bool) (hx : Cnt xs.length) (hp : ∀ x, x ∈ xs → p x = some (q x)) : m_slices_ContainsFunc_int xs p = some (xs.any q) := by
  unfold m_slices_ContainsFunc_int
  rw [IndexFunc_int xs p q hx hp]
  simp only [obnd, firstI_any]

theorem l08Watcher_eq (s : GShow) (p : Int) (hx : Cnt s.nodes.length) : m_spec_l08Watcher s p = some (firstI s.nodes (fun n => decide (n.watch = p))) := by
  unfold m_spec_l08Watcher firstI
  have key := loopO_idx (body := m_spec_l08Watcher_L1 p s.nodes ((s.nodes.length : Nat) : Int)) s.nodes (fun n => decide (n.watch = p)) (fun i => (i : Int)) (rT := .inl ()) (fun i => .inr (i : Int)) ?_ ?_ ?_
  · rw [show (0 : Int) = ((0 : Nat) : Int) from rfl, key]
    cases s.nodes.findIdx? (fun n => decide (n.watch = p)) <;> rfl
  · intro i hi hq
    unfold m_spec_l08Watcher_L1
    rw [if_pos (by omega), getI_lt hi, wr (x := (i : Int) + 1) (by omega) (by omega)]
    simp only [obnd]
    revert hq
    simp only [Bool.and_eq_false_iff, decide_eq_false_iff_not]
    intro hq
    repeat' split
    all_goals first | rfl | simp_all
  · intro i hi hq
    unfold m_spec_l08Watcher_L1
    rw [if_pos (by omega), getI_lt hi]
    simp only [obnd]
    revert hq
    simp only [Bool.and_eq_true, decide_eq_true_eq]
    intro hq
    repeat' split
    all_goals first | rfl | simp_all
  · unfold m_spec_l08Watcher_L1
    rw [if_neg (by omega)]

theorem NodeNamed_eq (s : GShow) (name : ByteArray) (hx : Cnt s.nodes.length) : m_spec_NodeNamed s name = some (firstI s.nodes (fun n => decide (n.name = name))) := by
  unfold m_spec_NodeNamed firstI
  have key := loopO_idx (body := m_spec_NodeNamed_L1 name s.nodes ((s.nodes.length : Nat) : Int)) s.nodes (fun n => decide (n.name = name)) (fun i => (i : Int)) (rT := .inl ()) (fun i => .inr (i : Int)) ?_ ?_ ?_
  · rw [show (0 : Int) = ((0 : Nat) : Int) from rfl, key]
    cases s.nodes.findIdx? (fun n => decide (n.name = name)) <;> rfl
  · intro i hi hq
    unfold m_spec_NodeNamed_L1
    rw [if_pos (by omega), getI_lt hi, wr (x := (i : Int) + 1) (by omega) (by omega)]
    simp only [obnd]
    revert hq
    simp only [Bool.and_eq_false_iff, decide_eq_false_iff_not]
    intro hq
    repeat' split
    all_goals first | rfl | simp_all
  · intro i hi hq
    unfold m_spec_NodeNamed_L1
    rw [if_pos (by omega), getI_lt hi]
    simp only [obnd]
    revert hq
    simp only [Bool.and_eq_true, decide_eq_true_eq]
    intro hq
    repeat' split
    all_goals first | rfl | simp_all
  · unfold m_spec_NodeNamed_L1
    rw [if_neg (by omega)]

theorem l08Free_eq (s : GShow) (node : Int) (hx : Cnt s.ties.length) : m_spec_l08Free s node = some (firstI s.ties (fun t => t.free && decide (t.to = node))) := by
  unfold m_spec_l08Free firstI
  have key := loopO_idx (body := m_spec_l08Free_L1 node s.ties ((s.ties.length : Nat) : Int)) s.ties (fun t => t.free && decide (t.to = node)) (fun i => (i : Int)) (rT := .inl ()) (fun i => .inr (i : Int)) ?_ ?_ ?_
  · rw [show (0 : Int) = ((0 : Nat) : Int) from rfl, key]
    cases s.ties.findIdx? (fun t => t.free && decide (t.to = node)) <;> rfl
  · intro i hi hq
    unfold m_spec_l08Free_L1
    rw [if_pos (by omega), getI_lt hi, wr (x := (i : Int) + 1) (by omega) (by omega)]
    simp only [obnd]
    revert hq
    simp only [Bool.and_eq_false_iff, decide_eq_false_iff_not]
    intro hq
    repeat' split
    all_goals first | rfl | simp_all
  · intro i hi hq
    unfold m_spec_l08Free_L1
    rw [if_pos (by omega), getI_lt hi]
    simp only [obnd]
    revert hq
    simp only [Bool.and_eq_true, decide_eq_true_eq]
    intro hq
    repeat' split
    all_goals first | rfl | simp_all
  · unfold m_spec_l08Free_L1
    rw [if_neg (by omega)]

theorem watcher_impl (s : GShow) (p : Int) (hx : Cnt s.nodes.length) : m_impl_watcher s p = some (firstI s.nodes (fun n => decide (0 < p) && decide (n.watch = p))) := by
  unfold m_impl_watcher
  rw [IndexFunc_Node _ _ (fun n => decide (0 < p) && decide (n.watch = p)) hx (fun n _ => by
    unfold m_impl_watcher_c1
    split <;> simp [*])]
  rfl

def implies (a b : List Int) : Bool := labelOk a && labelOk b && b.all (fun x => decide (x ∈ a))
theorem Implies_impl (a b : List Int) (ha : Cnt a.length) (hb : Cnt b.length) : m_impl_ImpliesLabel a b = some (implies a b) := by
  unfold m_impl_ImpliesLabel implies
  rw [LabelOk_impl a ha]; simp only [obnd]
  cases labelOk a
  · rfl
  · rw [LabelOk_impl b hb]; simp only
    cases labelOk b
    · rfl
    · rw [ContainsFunc_int b _ (fun x => !decide (x ∈ a)) hb (fun x _ => by
        unfold m_impl_ImpliesLabel_c1
        rw [Contains_eq a x ha]; rfl)]
      simp only [if_true, Bool.true_and]
      congr 1
      simp [List.all_eq_not_any_not]
theorem Implies_spec (a b : List Int) (ha : Cnt a.length) (hb : Cnt b.length) : m_spec_ImpliesLabel a b = some (implies a b) := by
  unfold m_spec_ImpliesLabel implies
  rw [LabelOk_spec a ha]; simp only [obnd]
  cases labelOk a
  · rfl
  · rw [LabelOk_spec b hb]; simp only
    cases labelOk b
    · rfl
    · simp only [if_true, Bool.true_and]
      have key := loopO_allL (body := m_spec_ImpliesLabel_L1 a b ((b.length : Nat) : Int)) b (fun x => decide (x ∈ a)) (fun i => (i : Int)) (rT := .inl ()) (rF := .inr false) ?_ ?_ ?_
      · rw [show (0 : Int) = ((0 : Nat) : Int) from rfl, key]
        cases b.all (fun x => decide (x ∈ a)) <;> rfl
      · intro i hi hq
        unfold m_spec_ImpliesLabel_L1
        rw [if_pos (by omega), getI_lt hi, wr (x := (i : Int) + 1) (by omega) (by omega)]
        simp only [obnd, l07Has_eq a _ ha, hq, if_true]; rfl
      · intro i hi hq
        unfold m_spec_ImpliesLabel_L1
        rw [if_pos (by omega), getI_lt hi]
        simp only [obnd, l07Has_eq a _ ha, hq]; rfl
      · unfold m_spec_ImpliesLabel_L1
        rw [if_neg (by omega)]
end Go.Proofs.YteijmljgodikiaaGreatZ

/- A show that is right: what both ShowOk come to. Own work. -/
set_option linter.unusedVariables false
set_option linter.unusedSimpArgs false
namespace Go.Proofs.YteijmljgodikiaaGreatZ
open Go

def earlier (s : GShow) (i : Nat) (n : GNode) : Bool := (s.nodes.take i).all (fun m => !decide (m.name = n.name) && (decide (n.watch = 0) || !decide (m.watch = n.watch)))
def nodeP (s : GShow) (i : Nat) : Bool := (s.nodes[i]?).any (fun n => nodeOk n && earlier s i n)
def firstOk (s : GShow) : Bool := (s.nodes[0]?).any (fun n => decide (n.label = []) && decide (n.watch = 0))
def nodesA (s : GShow) : Bool := decide (1 ≤ s.nodes.length ∧ s.nodes.length ≤ 7) && firstOk s && decide (∀ i, i < s.nodes.length → nodeP s i = true)

structure SmallS (s : GShow) : Prop where
  nodes : Cnt s.nodes.length
  ties : Cnt s.ties.length
  node : ∀ n, n ∈ s.nodes → SmallN n

theorem nodeP_lt {s : GShow} {i : Nat} (h : i < s.nodes.length) : nodeP s i = (nodeOk s.nodes[i] && earlier s i s.nodes[i]) := by
  unfold nodeP
  rw [List.getElem?_eq_getElem h]; rfl

theorem earlier_impl (s : GShow) (i : Nat) (hi : i ≤ s.nodes.length) (n : GNode) (hs : Cnt s.nodes.length) (a b : Int) (c d : Int) :
    loopO (m_impl_areNodes_L2 s.nodes a b (s.nodes.take i) (((s.nodes.take i).length : Nat) : Int) s.ties d n.name n.label n.watch) 0 = some (if earlier s i n = true then .inl () else .inr false) := by
  have hl : (s.nodes.take i).length = i := by simp; omega
  refine loopO_allL (s.nodes.take i) (fun m => !decide (m.name = n.name) && (decide (n.watch = 0) || !decide (m.watch = n.watch))) (fun i => (i : Int)) ?_ ?_ ?_
  · intro j hj hq
    unfold m_impl_areNodes_L2
    rw [if_pos (by omega), getI_lt hj, wr (x := (j : Int) + 1) (by omega) (by omega)]
    simp only [obnd]
    simp only [Bool.and_eq_true, Bool.or_eq_true, Bool.not_eq_true', decide_eq_false_iff_not, decide_eq_true_eq] at hq
    rw [if_neg hq.1]
    rcases hq.2 with h | h
    · rw [if_pos h]; rfl
    · by_cases h0 : n.watch = 0
      · rw [if_pos h0]; rfl
      · rw [if_neg h0, if_neg h]; rfl
  · intro j hj hq
    unfold m_impl_areNodes_L2
    rw [if_pos (by omega), getI_lt hj]
    simp only [obnd]
    simp only [Bool.and_eq_false_iff, Bool.or_eq_false_iff, Bool.not_eq_false', decide_eq_false_iff_not, decide_eq_true_eq] at hq
    rcases hq with h | ⟨h1, h2⟩
    · rw [if_pos h]
    · repeat' split
      all_goals first | rfl | (exfalso; simp_all)
  · unfold m_impl_areNodes_L2
    rw [if_neg (by omega)]

theorem areNodes_eq (s : GShow) (h : SmallS s) : m_impl_areNodes s = some (nodesA s) := by
  unfold m_impl_areNodes nodesA
  have h1 := h.nodes
  by_cases hlen : 1 ≤ s.nodes.length ∧ s.nodes.length ≤ 7
  · rw [if_neg (by omega), if_neg (by omega), decide_eq_true hlen, Bool.true_and]
    have h0 : 0 < s.nodes.length := by omega
    rw [show (0 : Int) = ((0 : Nat) : Int) from rfl, getI_lt h0]
    simp only [obnd]
    have hf : firstOk s = (decide (s.nodes[0].label = []) && decide (s.nodes[0].watch = 0)) := by
      unfold firstOk; rw [List.getElem?_eq_getElem h0]; rfl
    rw [hf]
    by_cases hlab : s.nodes[0].label = []
    · rw [if_neg (by rw [hlab]; simp), decide_eq_true hlab, Bool.true_and]
      by_cases hw : s.nodes[0].watch = 0
      · rw [if_pos (by simpa using hw), decide_eq_true hw, Bool.true_and]
        have key : loopO (m_impl_areNodes_L3 s.nodes ((s.nodes.length : Nat) : Int) s.ties s.horizon) ((0 : Nat) : Int) = some (if ∀ i, i < s.nodes.length → nodeP s i = true then .inl () else .inr false) := by
          refine loopO_all s.nodes.length (fun i => (i : Int)) (nodeP s) ?_ ?_ ?_
          · intro i hi hp
            rw [nodeP_lt hi, Bool.and_eq_true] at hp
            unfold m_impl_areNodes_L3
            rw [if_pos (by omega), getI_lt hi, wr (x := (i : Int) + 1) (by omega) (by omega)]
            simp only [obnd, NodeOk_impl _ (h.node _ (List.getElem_mem hi)), hp.1, if_true, Int.toNat_natCast]
            rw [chk_pos (by omega), chk_pos (by omega), earlier_impl s i (by omega) _ h1 _ _ 0, if_pos hp.2]
            rfl
          · intro i hi hp
            rw [nodeP_lt hi, Bool.and_eq_false_iff] at hp
            unfold m_impl_areNodes_L3
            rw [if_pos (by omega), getI_lt hi]
            simp only [obnd, NodeOk_impl _ (h.node _ (List.getElem_mem hi)), Int.toNat_natCast]
            by_cases hn : nodeOk s.nodes[i] = true
            · rw [if_pos hn, chk_pos (by omega), chk_pos (by omega), earlier_impl s i (by omega) _ h1 _ _ 0]
              rcases hp with hp | hp
              · rw [hp] at hn; cases hn
              · rw [hp]; rfl
            · rw [if_neg hn]
          · unfold m_impl_areNodes_L3
            rw [if_neg (by omega)]
        rw [key]
        by_cases hall : ∀ i, i < s.nodes.length → nodeP s i = true
        · rw [if_pos hall, decide_eq_true hall]
        · rw [if_neg hall, decide_eq_false hall]
      · rw [if_neg (by simpa using hw), decide_eq_false hw]; rfl
    · rw [if_pos (by have := List.length_pos_iff.2 hlab; omega), decide_eq_false hlab]; rfl
  · rw [decide_eq_false hlen]
    split
    · rfl
    · rw [if_pos (by omega)]; rfl

/-! ### Ties -/
def tieFree (s : GShow) (i : Nat) (t : GTie) : Bool := !t.free || (decide (1 ≤ t.low ∧ t.to ≠ 0) && (match s.nodes[t.to.toNat]?, s.nodes[t.from_.toNat]? with | some b, some a => decide (b.watch = 0 ∧ b.label = a.label) | _, _ => false) && !(s.ties.take i).any (fun u => u.free && decide (u.to = t.to)))
def tieB (s : GShow) (t : GTie) : Bool := decide ((0 ≤ t.from_ ∧ t.from_ < s.nodes.length) ∧ (0 ≤ t.to ∧ t.to < s.nodes.length) ∧ t.from_ ≠ t.to ∧ -20 ≤ t.low ∧ t.high ≤ 20 ∧ t.low ≤ t.high)
def tieP (s : GShow) (i : Nat) : Bool := (s.ties[i]?).any (fun t => tieB s t && tieFree s i t)
theorem tieP_lt {s : GShow} {i : Nat} (h : i < s.ties.length) : tieP s i = (tieB s s.ties[i] && tieFree s i s.ties[i]) := by
  unfold tieP
  rw [List.getElem?_eq_getElem h]; rfl

theorem contains_tie (s : GShow) (t : GTie) (n : Nat) (h : Cnt s.ties.length) : m_slices_ContainsFunc_Tie (s.ties.take n) (fun a0 => m_impl_areTies_c1 a0 t) = some ((s.ties.take n).any (fun u => u.free && decide (u.to = t.to))) := by
  refine ContainsFunc_Tie _ _ _ (by simp only [List.length_take]; unfold Cnt at *; omega) (fun u _ => ?_)
  unfold m_impl_areTies_c1
  cases u.free <;> rfl

theorem areTies_step (s : GShow) (hs : SmallS s) (i : Nat) (hi : i < s.ties.length) : m_impl_areTies_L1 s.ties ((s.ties.length : Nat) : Int) s.nodes s.horizon ((i : Nat) : Int) = some (if tieP s i = true then .next (((i + 1 : Nat)) : Int) else .done (.inr false)) := by
  have h1 := hs.ties
  have h2 := hs.nodes
  unfold m_impl_areTies_L1
  rw [if_pos (by omega), getI_lt hi, wr (x := (i : Int) + 1) (by omega) (by omega), tieP_lt hi]
  generalize s.ties[i] = t
  simp only [obnd, isNode_eq, isSpan_eq, Int.toNat_natCast, contains_tie s t i h1]
  by_cases hB : tieB s t = true
  · have hB' := hB
    unfold tieB at hB'
    rw [decide_eq_true_eq] at hB'
    obtain ⟨⟨a1, a2⟩, ⟨b1, b2⟩, c1, c2, c3, c4⟩ := hB'
    rw [if_pos (decide_eq_true ⟨a1, a2⟩), if_pos (decide_eq_true ⟨b1, b2⟩), if_neg c1, if_pos (decide_eq_true ⟨by omega, by omega⟩), if_pos (decide_eq_true ⟨by omega, by omega⟩), if_neg (by omega), hB, Bool.true_and]
    have gt : s.nodes[t.to.toNat]? = some s.nodes[t.to.toNat] := List.getElem?_eq_getElem (by omega)
    have gf : s.nodes[t.from_.toNat]? = some s.nodes[t.from_.toNat] := List.getElem?_eq_getElem (by omega)
    have it : getI s.nodes t.to = some s.nodes[t.to.toNat] := by unfold getI; rw [if_pos b1, gt]
    have jf : getI s.nodes t.from_ = some s.nodes[t.from_.toNat] := by unfold getI; rw [if_pos a1, gf]
    unfold tieFree
    simp only [gt, gf, it, jf]
    have hc : Cnt s.nodes[t.to.toNat].label.length := (hs.node _ (List.getElem_mem _)).2
    rw [Equal_int _ _ hc]
    cases t.free
    · rfl
    · simp only [if_true, Bool.not_true, Bool.false_or]
      by_cases d1 : 1 ≤ t.low
      · rw [if_neg (by omega)]
        by_cases d2 : t.to = 0
        · rw [if_pos d2]; simp [d2]
        · have e1 : decide (1 ≤ t.low ∧ t.to ≠ 0) = true := decide_eq_true ⟨d1, d2⟩
          rw [if_neg d2, e1, Bool.true_and]
          by_cases d3 : s.nodes[t.to.toNat].watch = 0
          · rw [if_pos d3]
            by_cases d4 : s.nodes[t.to.toNat].label = s.nodes[t.from_.toNat].label
            · simp only [decide_eq_true d4, if_true]
              have e2 : decide (s.nodes[t.to.toNat].watch = 0 ∧ s.nodes[t.to.toNat].label = s.nodes[t.from_.toNat].label) = true := decide_eq_true ⟨d3, d4⟩
              rw [chk_pos (by omega), chk_pos (by omega), e2]
              cases (s.ties.take i).any (fun u => u.free && decide (u.to = t.to)) <;> rfl
            · simp only [decide_eq_false d4]
              rw [if_neg (by simp), decide_eq_false (fun h => d4 h.2)]; rfl
          · rw [if_neg d3, decide_eq_false (fun h => d3 h.1)]; rfl
      · rw [if_pos (by omega), decide_eq_false (fun h => d1 h.1)]; rfl
  · rw [Bool.not_eq_true] at hB
    rw [hB]
    unfold tieB at hB
    rw [decide_eq_false_iff_not] at hB
    simp only [Bool.false_and]
    by_cases a : 0 ≤ t.from_ ∧ t.from_ < (s.nodes.length : Int)
    · rw [if_pos (decide_eq_true a)]
      by_cases b : 0 ≤ t.to ∧ t.to < (s.nodes.length : Int)
      · rw [if_pos (decide_eq_true b)]
        by_cases c : t.from_ = t.to
        · rw [if_pos c]; rfl
        · rw [if_neg c]
          by_cases d : -20 ≤ t.low ∧ t.low ≤ 20
          · rw [if_pos (decide_eq_true d)]
            by_cases e : -20 ≤ t.high ∧ t.high ≤ 20
            · rw [if_pos (decide_eq_true e), if_pos (by omega)]; rfl
            · rw [if_neg (by rw [decide_eq_false e]; simp)]; rfl
          · rw [if_neg (by rw [decide_eq_false d]; simp)]; rfl
      · rw [if_neg (by rw [decide_eq_false b]; simp)]; rfl
    · rw [if_neg (by rw [decide_eq_false a]; simp)]; rfl

theorem areTies_eq (s : GShow) (hs : SmallS s) : m_impl_areTies s = some (decide (∀ i, i < s.ties.length → tieP s i = true) && decide (s.ties.length ≤ 14)) := by
  have h1 := hs.ties
  unfold m_impl_areTies
  have key : loopO (m_impl_areTies_L1 s.ties ((s.ties.length : Nat) : Int) s.nodes s.horizon) ((0 : Nat) : Int) = some (if ∀ i, i < s.ties.length → tieP s i = true then .inl () else .inr false) := by
    refine loopO_all s.ties.length (fun i => (i : Int)) (tieP s) ?_ ?_ ?_
    · intro i hi hp
      simp only [areTies_step s hs i hi, hp, if_true]
    · intro i hi hp
      simp only [areTies_step s hs i hi, hp]; rfl
    · unfold m_impl_areTies_L1
      rw [if_neg (by omega)]
  rw [show (0 : Int) = ((0 : Nat) : Int) from rfl, key]
  by_cases hall : ∀ i, i < s.ties.length → tieP s i = true
  · rw [if_pos hall, decide_eq_true hall, Bool.true_and]
    simp only [obnd]
    congr 1
    exact decide_eq_decide.2 (by omega)
  · rw [if_neg hall, decide_eq_false hall]; rfl
end Go.Proofs.YteijmljgodikiaaGreatZ

/- ShowOk of the program. Own work. -/
set_option linter.unusedVariables false
set_option linter.unusedSimpArgs false
namespace Go.Proofs.YteijmljgodikiaaGreatZ
open Go

def watched (s : GShow) (label : List Int) (x : Int) : Bool :=
  decide (0 ≤ firstI s.nodes (fun n => decide (n.watch = pr x))) && (match s.nodes[(firstI s.nodes (fun n => decide (n.watch = pr x))).toNat]? with
    | some n => !decide (x ∈ n.label) && !decide (IntKind.wrap .i64 (0 - x) ∈ n.label) && implies label n.label
    | none => false)
def allWatched (s : GShow) : Bool := s.nodes.all (fun n => n.label.all (fun x => watched s n.label x))
def showOk (s : GShow) : Bool := nodesA s && decide (∀ i, i < s.ties.length → tieP s i = true) && decide (s.ties.length ≤ 14) && decide (1 ≤ s.horizon ∧ s.horizon ≤ 10) && allWatched s

theorem pr_pos {l : List Int} (h : labelOk l = true) {x : Int} (hx : x ∈ l) : 0 < pr x ∧ -3 ≤ x ∧ x ≤ 3 := by
  obtain ⟨i, hi, rfl⟩ := mem_D.1 hx
  have := of_decide_eq_true h i hi
  unfold labP at this
  rw [decide_eq_true_eq] at this
  refine ⟨?_, this.2.1, this.2.2.1⟩
  unfold pr
  split
  · rw [wr (by omega) (by omega)]; omega
  · have := this.1; omega

theorem isWatched_eq (s : GShow) (hs : SmallS s) (label : List Int) (x : Int) (hl : Cnt label.length) (hx : 0 < pr x) : m_impl_isWatched s label x = some (watched s label x) := by
  unfold m_impl_isWatched watched
  rw [propOf_eq]
  simp only [obnd]
  rw [watcher_impl s _ hs.nodes]
  have e : (fun n : GNode => decide (0 < pr x) && decide (n.watch = pr x)) = (fun n : GNode => decide (n.watch = pr x)) := by funext n; rw [decide_eq_true hx, Bool.true_and]
  rw [e]
  simp only
  by_cases h0 : 0 ≤ firstI s.nodes (fun n => decide (n.watch = pr x))
  · rw [if_neg (by omega), decide_eq_true h0, Bool.true_and]
    obtain ⟨i, hi, he, _⟩ := firstI_lt h0
    rw [he, getI_lt hi]
    simp only [Int.toNat_natCast, List.getElem?_eq_getElem hi]
    have hc : Cnt s.nodes[i].label.length := (hs.node _ (List.getElem_mem hi)).2
    rw [Contains_eq _ _ hc]
    simp only
    by_cases h1 : x ∈ s.nodes[i].label
    · rw [if_pos (decide_eq_true h1), decide_eq_true h1]; rfl
    · rw [if_neg (by rw [decide_eq_false h1]; simp), decide_eq_false h1, Contains_eq _ _ hc]
      simp only
      by_cases h2 : IntKind.wrap .i64 (0 - x) ∈ s.nodes[i].label
      · rw [if_pos (decide_eq_true h2), decide_eq_true h2]; rfl
      · rw [if_neg (by rw [decide_eq_false h2]; simp), decide_eq_false h2, Implies_impl _ _ hl hc]
        simp
  · rw [if_pos (by omega), decide_eq_false h0]; rfl

theorem nodesA_node {s : GShow} (h : nodesA s = true) : ∀ n, n ∈ s.nodes → nodeOk n = true := by
  intro n hn
  obtain ⟨i, hi, rfl⟩ := List.getElem_of_mem hn
  unfold nodesA at h
  simp only [Bool.and_eq_true, decide_eq_true_eq] at h
  have := h.2 i hi
  rw [nodeP_lt hi, Bool.and_eq_true] at this
  exact this.1
theorem nodeOk_label {n : GNode} (h : nodeOk n = true) : labelOk n.label = true := by
  unfold nodeOk at h
  simp only [Bool.and_eq_true] at h
  exact h.1.2

theorem ShowOk_impl (s : GShow) (hs : SmallS s) : m_impl_ShowOk s = some (showOk s) := by
  unfold m_impl_ShowOk showOk
  rw [areNodes_eq s hs]
  simp only [obnd]
  cases hA : nodesA s
  · rfl
  · rw [if_pos rfl, areTies_eq s hs]
    simp only [Bool.true_and]
    cases hT : (decide (∀ i, i < s.ties.length → tieP s i = true) && decide (s.ties.length ≤ 14))
    · rfl
    · rw [if_pos rfl, Bool.true_and]
      by_cases hh : 1 ≤ s.horizon ∧ s.horizon ≤ 10
      · rw [if_neg (by omega), if_neg (by omega), decide_eq_true hh, Bool.true_and]
        have key : loopO (m_impl_ShowOk_L1 s.nodes ((s.nodes.length : Nat) : Int) s.ties s.horizon) ((0 : Nat) : Int) = some (if allWatched s = true then .inl () else .inr false) := by
          have h1 := hs.nodes
          have stp : ∀ i (hi : i < s.nodes.length), m_slices_ContainsFunc_int s.nodes[i].label (fun a0 => m_impl_ShowOk_c1 a0 (GShow.mk s.nodes s.ties s.horizon) s.nodes[i]) = some (s.nodes[i].label.any (fun x => !watched s s.nodes[i].label x)) := by
            intro i hi
            have hc : Cnt s.nodes[i].label.length := (hs.node _ (List.getElem_mem hi)).2
            refine ContainsFunc_int _ _ _ hc (fun x hx => ?_)
            unfold m_impl_ShowOk_c1
            rw [isWatched_eq s hs _ _ hc (pr_pos (nodeOk_label (nodesA_node hA _ (List.getElem_mem hi))) hx).1]
            rfl
          refine loopO_allL s.nodes (fun n => n.label.all (fun x => watched s n.label x)) (fun i => (i : Int)) ?_ ?_ ?_
          · intro i hi hq
            unfold m_impl_ShowOk_L1
            rw [if_pos (by omega), getI_lt hi, wr (x := (i : Int) + 1) (by omega) (by omega)]
            simp only [obnd, stp i hi]
            rw [List.all_eq_not_any_not] at hq
            rw [if_neg (by simpa using hq)]; rfl
          · intro i hi hq
            unfold m_impl_ShowOk_L1
            rw [if_pos (by omega), getI_lt hi]
            simp only [obnd, stp i hi]
            rw [List.all_eq_not_any_not] at hq
            rw [if_pos (by simpa using hq)]
          · unfold m_impl_ShowOk_L1
            rw [if_neg (by omega)]
        rw [show (0 : Int) = ((0 : Nat) : Int) from rfl, key]
        cases allWatched s <;> rfl
      · rw [decide_eq_false hh]
        split
        · rfl
        · rw [if_pos (by omega)]; rfl
end Go.Proofs.YteijmljgodikiaaGreatZ

/- ShowOk of the reference. Own work. -/
set_option linter.unusedVariables false
set_option linter.unusedSimpArgs false
namespace Go.Proofs.YteijmljgodikiaaGreatZ
open Go

theorem firstI_self {α : Type} {xs : List α} {q : α → Bool} {i : Nat} (hi : i < xs.length) (hq : q xs[i] = true) : decide (firstI xs q = (i : Int)) = !(xs.take i).any q := by
  unfold firstI
  cases hf : xs.findIdx? q with
  | none =>
    have := List.findIdx?_eq_none_iff.1 hf _ (List.getElem_mem hi)
    rw [this] at hq; cases hq
  | some j =>
    obtain ⟨hj, hp, hno⟩ := List.findIdx?_eq_some_iff_getElem.1 hf
    have hji : j ≤ i := by
      rcases Nat.lt_or_ge i j with h | h
      · exact absurd hq (hno i h)
      · exact h
    by_cases he : j = i
    · subst he
      simp only [decide_true]
      symm
      rw [Bool.not_eq_true', List.any_eq_false]
      intro x hx
      obtain ⟨k, hk, rfl⟩ := List.getElem_of_mem hx
      simp only [List.length_take] at hk
      rw [List.getElem_take]
      exact hno k (by omega)
    · rw [decide_eq_false (by show ¬ ((j : Int) = (i : Int)); omega)]
      symm
      rw [Bool.not_eq_false', List.any_eq_true]
      refine ⟨xs[j], ?_, hp⟩
      rw [List.mem_take_iff_getElem]
      exact ⟨j, by omega, rfl⟩

theorem earlier_eq (s : GShow) (i : Nat) (n : GNode) : earlier s i n = (!(s.nodes.take i).any (fun m => decide (m.name = n.name)) && (decide (n.watch = 0) || !(s.nodes.take i).any (fun m => decide (m.watch = n.watch)))) := by
  unfold earlier
  generalize s.nodes.take i = l
  by_cases h : n.watch = 0
  · simp only [h, decide_true, Bool.true_or, Bool.and_true]
    rw [List.all_eq_not_any_not]; simp
  · simp only [h, decide_false, Bool.false_or]
    induction l with
    | nil => rfl
    | cons m l ih => simp only [List.all_cons, List.any_cons, ih]; cases decide (m.name = n.name) <;> cases decide (m.watch = n.watch) <;> simp

theorem specWatched (s : GShow) (hs : SmallS s) (label : List Int) (x : Int) (hl : Cnt label.length) (A B : Option (Step Int (Sum Unit Bool))) :
    (obnd (m_spec_l07Prop x) fun r37 => obnd (m_spec_l08Watcher (GShow.mk s.nodes s.ties s.horizon) r37) fun r38 => if r38 < 0 then B else obnd (getI s.nodes r38) fun x39 => obnd (m_spec_l07Has x39.label x) fun r40 => if r40 = true then B else
      obnd (m_spec_l07Has x39.label (IntKind.wrap .i64 (0 - x))) fun r41 => if r41 = true then B else obnd (m_spec_ImpliesLabel label x39.label) fun r42 => if r42 = true then A else B) = if watched s label x = true then A else B := by
  rw [l07Prop_eq]
  simp only [obnd]
  rw [l08Watcher_eq _ _ (by exact hs.nodes)]
  simp only
  unfold watched
  by_cases h0 : 0 ≤ firstI s.nodes (fun n => decide (n.watch = pr x))
  · rw [if_neg (by omega), decide_eq_true h0, Bool.true_and]
    obtain ⟨i, hi, he, _⟩ := firstI_lt h0
    rw [he, getI_lt hi]
    simp only [Int.toNat_natCast, List.getElem?_eq_getElem hi]
    have hc : Cnt s.nodes[i].label.length := (hs.node _ (List.getElem_mem hi)).2
    rw [l07Has_eq _ _ hc, l07Has_eq _ _ hc, Implies_spec _ _ hl hc]
    simp only
    generalize IntKind.wrap .i64 (0 - x) = y
    by_cases h1 : x ∈ s.nodes[i].label <;> by_cases h2 : y ∈ s.nodes[i].label <;> simp [h1, h2]
  · rw [if_pos (by omega), decide_eq_false h0]; simp

theorem l08Nodes_eq (s : GShow) (hs : SmallS s) : m_spec_l08Nodes s = some (nodesA s && allWatched s) := by
  unfold m_spec_l08Nodes nodesA
  have h1 := hs.nodes
  rw [l01In_eq]
  simp only [obnd]
  by_cases hlen : 1 ≤ s.nodes.length ∧ s.nodes.length ≤ 7
  · rw [if_pos (decide_eq_true (by omega)), decide_eq_true hlen, Bool.true_and]
    have h0 : 0 < s.nodes.length := by omega
    rw [show (0 : Int) = ((0 : Nat) : Int) from rfl, getI_lt h0]
    simp only
    have hf : firstOk s = (decide (s.nodes[0].label = []) && decide (s.nodes[0].watch = 0)) := by
      unfold firstOk; rw [List.getElem?_eq_getElem h0]; rfl
    rw [hf]
    by_cases hlab : s.nodes[0].label = []
    · rw [if_neg (by rw [hlab]; simp), decide_eq_true hlab, Bool.true_and]
      by_cases hw : s.nodes[0].watch = 0
      · rw [if_pos (by simpa using hw), decide_eq_true hw, Bool.true_and]
        have key : loopO (m_spec_l08Nodes_L1 s.nodes ((s.nodes.length : Nat) : Int) s.ties s.horizon) ((0 : Nat) : Int) = some (if ∀ i, i < s.nodes.length → nodeP s i = true then .inl () else .inr false) := by
          have stp : ∀ i, i < s.nodes.length → m_spec_l08Nodes_L1 s.nodes ((s.nodes.length : Nat) : Int) s.ties s.horizon ((i : Nat) : Int) = some (if nodeP s i = true then .next ((i + 1 : Nat) : Int) else .done (.inr false)) := by
            intro i hi
            rw [nodeP_lt hi, earlier_eq]
            unfold m_spec_l08Nodes_L1
            rw [if_pos (by omega), getI_lt hi, wr (x := (i : Int) + 1) (by omega) (by omega)]
            simp only [obnd, NodeOk_spec _ (hs.node _ (List.getElem_mem hi)), NodeNamed_eq (GShow.mk s.nodes s.ties s.horizon) _ h1, l08Watcher_eq (GShow.mk s.nodes s.ties s.horizon) _ h1]
            have e1 := firstI_self (q := fun m : GNode => decide (m.name = s.nodes[i].name)) hi (by simp)
            have e2 := firstI_self (q := fun m : GNode => decide (m.watch = s.nodes[i].watch)) hi (by simp)
            rw [← e1, ← e2]
            cases nodeOk s.nodes[i]
            · rfl
            · by_cases c1 : firstI s.nodes (fun m : GNode => decide (m.name = s.nodes[i].name)) = (i : Int)
              · by_cases c2 : s.nodes[i].watch = 0
                · simp [c1, c2]
                · by_cases c3 : firstI s.nodes (fun m : GNode => decide (m.watch = s.nodes[i].watch)) = (i : Int) <;> simp [c1, c2, c3]
              · simp [c1]
          refine loopO_all s.nodes.length (fun i => (i : Int)) (nodeP s) ?_ ?_ ?_
          · intro i hi hp
            simp only [stp i hi, hp, if_true]
          · intro i hi hp
            simp only [stp i hi, hp]; rfl
          · unfold m_spec_l08Nodes_L1
            rw [if_neg (by omega)]
        rw [key]
        by_cases hall : ∀ i, i < s.nodes.length → nodeP s i = true
        · rw [if_pos hall, decide_eq_true hall, Bool.true_and]
          simp only
          have key2 : loopO (m_spec_l08Nodes_L4 s.nodes ((s.nodes.length : Nat) : Int) s.ties s.horizon) ((0 : Nat) : Int) = some (if allWatched s = true then .inl () else .inr false) := by
            have inner : ∀ n, n ∈ s.nodes → ∀ a b d e, loopO (m_spec_l08Nodes_L3 s.nodes a b n.label ((n.label.length : Nat) : Int) s.ties s.horizon d e) 0 = some (if n.label.all (fun x => watched s n.label x) = true then .inl () else .inr false) := by
              intro n hn a b d e
              have hc : Cnt n.label.length := (hs.node n hn).2
              have stp : ∀ i (hi : i < n.label.length), m_spec_l08Nodes_L3 s.nodes a b n.label ((n.label.length : Nat) : Int) s.ties s.horizon d e ((i : Nat) : Int) = (if watched s n.label n.label[i] = true then some (.next ((i + 1 : Nat) : Int)) else some (.done (.inr false))) := by
                intro i hi
                unfold m_spec_l08Nodes_L3
                rw [if_pos (by omega), getI_lt hi, wr (x := (i : Int) + 1) (by omega) (by omega)]
                exact specWatched s hs n.label n.label[i] hc _ _
              refine loopO_allL n.label (fun x => watched s n.label x) (fun i => (i : Int)) ?_ ?_ ?_
              · intro i hi hq
                simp only [stp i hi, hq, if_true]
              · intro i hi hq
                simp only [stp i hi, hq]; rfl
              · unfold m_spec_l08Nodes_L3
                rw [if_neg (by omega)]
            refine loopO_allL s.nodes (fun n => n.label.all (fun x => watched s n.label x)) (fun i => (i : Int)) ?_ ?_ ?_
            · intro i hi hq
              unfold m_spec_l08Nodes_L4
              rw [if_pos (by omega), getI_lt hi, wr (x := (i : Int) + 1) (by omega) (by omega)]
              simp only [obnd, inner _ (List.getElem_mem hi), hq, if_true]; rfl
            · intro i hi hq
              unfold m_spec_l08Nodes_L4
              rw [if_pos (by omega), getI_lt hi]
              simp only [obnd, inner _ (List.getElem_mem hi), hq]; rfl
            · unfold m_spec_l08Nodes_L4
              rw [if_neg (by omega)]
          rw [key2]
          cases allWatched s <;> rfl
        · rw [if_neg hall, decide_eq_false hall]; rfl
      · rw [if_neg (by simpa using hw), decide_eq_false hw]; rfl
    · rw [if_pos (by have := List.length_pos_iff.2 hlab; omega), decide_eq_false hlab]; rfl
  · rw [if_neg (by rw [decide_eq_false (by omega)]; simp), decide_eq_false hlen]; rfl

theorem l08Tie_eq (s : GShow) (hs : SmallS s) (i : Nat) (hi : i < s.ties.length) (hn : 1 ≤ s.nodes.length) : m_spec_l08Tie s ((i : Nat) : Int) = some (tieP s i) := by
  have h1 := hs.ties
  have h2 := hs.nodes
  have hq : ∀ t, t = s.ties[i] → t.free = true → (fun u : GTie => u.free && decide (u.to = t.to)) s.ties[i] = true := by intro t ht hf; subst ht; simp [hf]
  unfold m_spec_l08Tie
  rw [getI_lt hi, tieP_lt hi]
  have hfree := fun (hf : s.ties[i].free = true) => firstI_self (q := fun u : GTie => u.free && decide (u.to = s.ties[i].to)) hi (hq _ rfl hf)
  revert hfree
  generalize s.ties[i] = t
  intro hfree
  simp only [obnd, l01In_eq]
  rw [wr (x := (s.nodes.length : Int) - 1) (by omega) (by omega)]
  by_cases hB : tieB s t = true
  · have hB' := hB
    unfold tieB at hB'
    rw [decide_eq_true_eq] at hB'
    obtain ⟨⟨a1, a2⟩, ⟨b1, b2⟩, c1, c2, c3, c4⟩ := hB'
    rw [if_pos (decide_eq_true ⟨a1, by omega⟩), if_pos (decide_eq_true ⟨b1, by omega⟩), if_neg c1, if_neg (by omega), if_neg (by omega), if_neg (by omega), hB, Bool.true_and]
    have gt : s.nodes[t.to.toNat]? = some s.nodes[t.to.toNat] := List.getElem?_eq_getElem (by omega)
    have gf : s.nodes[t.from_.toNat]? = some s.nodes[t.from_.toNat] := List.getElem?_eq_getElem (by omega)
    have it : getI s.nodes t.to = some s.nodes[t.to.toNat] := by unfold getI; rw [if_pos b1, gt]
    have jf : getI s.nodes t.from_ = some s.nodes[t.from_.toNat] := by unfold getI; rw [if_pos a1, gf]
    unfold tieFree
    simp only [gt, gf, it, jf]
    have hc : Cnt s.nodes[t.from_.toNat].label.length := (hs.node _ (List.getElem_mem _)).2
    rw [l08Same_eq _ _ hc, l08Free_eq s _ h1]
    cases hf : t.free
    · rfl
    · simp only [if_true, Bool.not_true, Bool.false_or]
      rw [hfree hf]
      by_cases d1 : 1 ≤ t.low
      · rw [if_pos d1]
        by_cases d2 : t.to = 0
        · rw [if_pos d2]; simp [d2]
        · have e1 : decide (1 ≤ t.low ∧ t.to ≠ 0) = true := decide_eq_true ⟨d1, d2⟩
          rw [if_neg d2, e1, Bool.true_and]
          by_cases d3 : s.nodes[t.to.toNat].watch = 0
          · rw [if_pos d3]
            by_cases d4 : s.nodes[t.to.toNat].label = s.nodes[t.from_.toNat].label
            · have e2 : decide (s.nodes[t.to.toNat].watch = 0 ∧ s.nodes[t.to.toNat].label = s.nodes[t.from_.toNat].label) = true := decide_eq_true ⟨d3, d4⟩
              rw [if_pos (decide_eq_true d4.symm), e2, Bool.true_and]
            · rw [if_neg (by rw [decide_eq_false (fun h => d4 h.symm)]; simp), decide_eq_false (fun h => d4 h.2)]; rfl
          · rw [if_neg d3, decide_eq_false (fun h => d3 h.1)]; rfl
      · rw [if_neg d1, decide_eq_false (fun h => d1 h.1)]; rfl
  · rw [Bool.not_eq_true] at hB
    rw [hB]
    unfold tieB at hB
    rw [decide_eq_false_iff_not] at hB
    simp only [Bool.false_and]
    by_cases a : 0 ≤ t.from_ ∧ t.from_ ≤ (s.nodes.length : Int) - 1
    · rw [if_pos (decide_eq_true a)]
      by_cases b : 0 ≤ t.to ∧ t.to ≤ (s.nodes.length : Int) - 1
      · rw [if_pos (decide_eq_true b)]
        by_cases c : t.from_ = t.to
        · rw [if_pos c]
        · rw [if_neg c]
          by_cases d : t.low < -20
          · rw [if_pos d]
          · rw [if_neg d]
            by_cases e : 20 < t.high
            · rw [if_pos e]
            · rw [if_neg e, if_pos (by omega)]
      · rw [if_neg (by rw [decide_eq_false b]; simp)]
    · rw [if_neg (by rw [decide_eq_false a]; simp)]

theorem ShowOk_spec (s : GShow) (hs : SmallS s) : m_spec_ShowOk s = some (showOk s) := by
  unfold m_spec_ShowOk showOk
  rw [l08Nodes_eq s hs]
  have h1 := hs.ties
  simp only [obnd, l01In_eq]
  cases hA : nodesA s
  · rfl
  · have hlen : 1 ≤ s.nodes.length := by
      unfold nodesA at hA
      simp only [Bool.and_eq_true, decide_eq_true_eq] at hA
      exact hA.1.1.1
    simp only [Bool.true_and]
    have key : loopO (m_spec_ShowOk_L1 ((s.ties.length : Nat) : Int) s.nodes s.ties s.horizon) ((0 : Nat) : Int) = some (if ∀ i, i < s.ties.length → tieP s i = true then .inl () else .inr false) := by
      have stp : ∀ i, i < s.ties.length → m_spec_ShowOk_L1 ((s.ties.length : Nat) : Int) s.nodes s.ties s.horizon ((i : Nat) : Int) = some (if tieP s i = true then .next ((i + 1 : Nat) : Int) else .done (.inr false)) := by
        intro i hi
        unfold m_spec_ShowOk_L1
        rw [if_pos (by omega), wr (x := (i : Int) + 1) (by omega) (by omega)]
        have := l08Tie_eq s hs i hi hlen
        simp only [this, obnd]
        cases tieP s i <;> rfl
      refine loopO_all s.ties.length (fun i => (i : Int)) (tieP s) ?_ ?_ ?_
      · intro i hi hp
        simp only [stp i hi, hp, if_true]
      · intro i hi hp
        simp only [stp i hi, hp]; rfl
      · unfold m_spec_ShowOk_L1
        rw [if_neg (by omega)]
    cases hW : allWatched s
    · simp
    · simp only [if_true, Bool.and_true]
      by_cases h14 : s.ties.length ≤ 14
      · rw [if_neg (by omega), decide_eq_true h14, Bool.and_true]
        by_cases hh : 1 ≤ s.horizon ∧ s.horizon ≤ 10
        · rw [if_pos (decide_eq_true hh), decide_eq_true hh, Bool.and_true, show (0 : Int) = ((0 : Nat) : Int) from rfl, key]
          by_cases hall : ∀ i, i < s.ties.length → tieP s i = true
          · rw [if_pos hall, decide_eq_true hall]
          · rw [if_neg hall, decide_eq_false hall]
        · rw [if_neg (by rw [decide_eq_false hh]; simp), decide_eq_false hh, Bool.and_false]
      · rw [if_pos (by omega), decide_eq_false h14, Bool.and_false]; rfl
end Go.Proofs.YteijmljgodikiaaGreatZ

/- What the laws do with lists of whole numbers, nodes, ties and shows: copied, compared, weighed, marked, held. Own work. -/
set_option linter.unusedVariables false
set_option linter.unusedSimpArgs false
namespace Go.Proofs.YteijmljgodikiaaGreatZ
open Go

/-! ### Copied -/
theorem toIntS_eq (a : List Int) (ha : a.length ≤ 1048576) : m_laws_toIntS a = some a := by
  unfold m_laws_toIntS
  rw [chk_pos (by omega), chk_pos (by omega)]
  have key : loopO (m_laws_toIntS_L1 a) (((0 : Nat) : Int), half 0 a 0) = some a := by
    refine loopO_to a.length (fun i => ((i : Int), half 0 a i)) ?_ ?_
    · intro i hi
      have h2 : getI (half 0 a i) (i : Int) = some 0 := by
        unfold getI; rw [if_pos (by omega), Int.toNat_natCast, half_get 0 a i hi]
      unfold m_laws_toIntS_L1
      simp only
      rw [if_pos (by omega), getI_lt hi, h2, wr (x := (i : Int) + 1) (by omega) (by omega)]
      simp only [obnd, Int.toNat_natCast]
      rw [half_step 0 a i hi]; rfl
    · unfold m_laws_toIntS_L1
      simp only
      rw [if_neg (by omega), half_all]
  rw [half_zero] at key
  rw [show (0 : Int) = ((0 : Nat) : Int) from rfl] at *
  rw [key]; rfl

structure FitN (n : GNode) : Prop where
  name : n.name.size ≤ 1048576
  label : n.label.length ≤ 1048576
theorem toNodeS_eq (a : List GNode) (ha : a.length ≤ 1048576) (hn : ∀ n, n ∈ a → FitN n) : m_laws_toNodeS a = some a := by
  unfold m_laws_toNodeS
  rw [chk_pos (by omega), chk_pos (by omega)]
  generalize hz : (GNode.mk (ByteArray.mk #[]) ([]) 0) = z
  have key : loopO (m_laws_toNodeS_L1 a) (((0 : Nat) : Int), half z a 0) = some a := by
    refine loopO_to a.length (fun i => ((i : Int), half z a i)) ?_ ?_
    · intro i hi
      have h2 : getI (half z a i) (i : Int) = some z := by
        unfold getI; rw [if_pos (by omega), Int.toNat_natCast, half_get z a i hi]
      have h3 : m_laws_toNode a[i] = some a[i] := by
        unfold m_laws_toNode
        rw [toIntS_eq _ (hn _ (List.getElem_mem hi)).label]; rfl
      unfold m_laws_toNodeS_L1
      simp only
      rw [if_pos (by omega), getI_lt hi, h2, wr (x := (i : Int) + 1) (by omega) (by omega)]
      simp only [obnd, Int.toNat_natCast, h3]
      rw [half_step z a i hi]; rfl
    · unfold m_laws_toNodeS_L1
      simp only
      rw [if_neg (by omega), half_all]
  rw [half_zero] at key
  rw [show (0 : Int) = ((0 : Nat) : Int) from rfl] at *
  rw [key]; rfl
theorem toTieS_eq (a : List GTie) (ha : a.length ≤ 1048576) : m_laws_toTieS a = some a := by
  unfold m_laws_toTieS
  rw [chk_pos (by omega), chk_pos (by omega)]
  generalize hz : (GTie.mk 0 0 0 0 false) = z
  have key : loopO (m_laws_toTieS_L1 a) (((0 : Nat) : Int), half z a 0) = some a := by
    refine loopO_to a.length (fun i => ((i : Int), half z a i)) ?_ ?_
    · intro i hi
      have h2 : getI (half z a i) (i : Int) = some z := by
        unfold getI; rw [if_pos (by omega), Int.toNat_natCast, half_get z a i hi]
      unfold m_laws_toTieS_L1
      simp only
      rw [if_pos (by omega), getI_lt hi, h2, wr (x := (i : Int) + 1) (by omega) (by omega)]
      simp only [obnd, Int.toNat_natCast, m_laws_toTie]
      rw [half_step z a i hi]; rfl
    · unfold m_laws_toTieS_L1
      simp only
      rw [if_neg (by omega), half_all]
  rw [half_zero] at key
  rw [show (0 : Int) = ((0 : Nat) : Int) from rfl] at *
  rw [key]; rfl
structure FitS (s : GShow) : Prop where
  nodes : s.nodes.length ≤ 1048576
  ties : s.ties.length ≤ 1048576
  node : ∀ n, n ∈ s.nodes → FitN n
theorem FitS.small {s : GShow} (h : FitS s) : SmallS s := ⟨by have := h.nodes; unfold Cnt; omega, by have := h.ties; unfold Cnt; omega, fun n hn => ⟨by have := (h.node n hn).name; unfold Cnt; omega, by have := (h.node n hn).label; unfold Cnt; omega⟩⟩
theorem toShow_eq (s : GShow) (h : FitS s) : m_laws_toShow s = some s := by
  unfold m_laws_toShow
  rw [toNodeS_eq _ h.nodes h.node, toTieS_eq _ h.ties]; rfl

/-! ### Weighed -/
structure BdN (n : GNode) : Prop where
  name : n.name.size ≤ maxLen
  label : n.label.length ≤ maxLen
structure BdS (s : GShow) : Prop where
  nodes : s.nodes.length ≤ maxLen
  ties : s.ties.length ≤ maxLen
  node : ∀ n, n ∈ s.nodes → BdN n

theorem szIntS_ok {a : List Int} {l : Int} (hl : l ≤ 1048576) (h0 : 0 ≤ l) (ha : a.length ≤ maxLen) : m_laws_szIntS a l = some (if l - a.length < 0 then -1 else l - a.length) := by
  unfold maxLen at ha
  unfold m_laws_szIntS
  rw [wr (by omega) (by omega)]
  split <;> rfl
theorem szTieS_ok {a : List GTie} {l : Int} (hl : l ≤ 1048576) (h0 : 0 ≤ l) (ha : a.length ≤ maxLen) : m_laws_szTieS a l = some (if l - a.length < 0 then -1 else l - a.length) := by
  unfold maxLen at ha
  unfold m_laws_szTieS
  rw [wr (by omega) (by omega)]
  split <;> rfl
theorem szNode_ok {n : GNode} {l : Int} (hl : l ≤ 1048576) (h0 : 0 ≤ l) (hb : BdN n) : ∃ r, m_laws_szNode n l = some r ∧ (r < 0 ∨ (0 ≤ r ∧ r ≤ l ∧ (n.name.size : Int) ≤ l ∧ (n.label.length : Int) ≤ l)) := by
  have h1 := hb.name
  unfold maxLen at h1
  unfold m_laws_szNode
  rw [wr (by omega) (by omega)]
  split
  · exact ⟨_, rfl, .inl (by omega)⟩
  · rw [szIntS_ok (by omega) (by omega) hb.label]
    simp only [obnd]
    by_cases h : l - (n.name.size : Int) - (n.label.length : Int) < 0
    · rw [if_pos h]; exact ⟨_, rfl, .inl (by omega)⟩
    · rw [if_neg h, if_neg (by omega)]; exact ⟨_, rfl, .inr (by omega)⟩
theorem szNodeS_ok {a : List GNode} {l : Int} (hl : l ≤ 1048576) (h0 : 0 ≤ l) (ha : a.length ≤ maxLen) (hb : ∀ n, n ∈ a → BdN n) : ∃ r, m_laws_szNodeS a l = some r ∧ (r < 0 ∨ (0 ≤ r ∧ r ≤ l ∧ (a.length : Int) ≤ l ∧ ∀ n, n ∈ a → (n.name.size : Int) ≤ l ∧ (n.label.length : Int) ≤ l)) := by
  unfold maxLen at ha
  unfold m_laws_szNodeS
  rw [wr (by omega) (by omega)]
  by_cases h : l - (a.length : Int) < 0
  · rw [if_pos h]; exact ⟨_, rfl, .inl (by omega)⟩
  · rw [if_neg h]
    have inv : ∃ q, loopO (m_laws_szNodeS_L1 a) (l - (a.length : Int), 0) = some q ∧ ((∃ x, q = .inr x ∧ x < 0) ∨ ∃ x, q = .inl x ∧ 0 ≤ x ∧ x ≤ l ∧ ∀ n, n ∈ a → (n.name.size : Int) ≤ l ∧ (n.label.length : Int) ≤ l) := by
      refine loopO_inv a.length (fun i s => s.2 = (i : Int) ∧ 0 ≤ s.1 ∧ s.1 ≤ l ∧ ∀ j (hj : j < a.length), j < i → (a[j].name.size : Int) ≤ l ∧ (a[j].label.length : Int) ≤ l) _ ⟨rfl, by simp only; omega, by simp only; omega, fun j _ hj => by omega⟩ ?_ ?_
      · rintro i ⟨left, i'⟩ hi ⟨h1, h2, h3, h4⟩
        simp only at h1 h2 h3
        subst h1
        unfold m_laws_szNodeS_L1
        simp only
        rw [if_pos (by omega), getI_lt hi, wr (x := (i : Int) + 1) (by omega) (by omega)]
        simp only [obnd]
        obtain ⟨r, hr, hp⟩ := szNode_ok (by omega) h2 (hb _ (List.getElem_mem hi))
        rw [hr]
        simp only
        rcases hp with hp | ⟨p1, p2, p3, p4⟩
        · rw [if_pos hp]; exact .inr ⟨_, rfl, .inl ⟨_, rfl, by omega⟩⟩
        · rw [if_neg (by omega)]
          refine .inl ⟨_, rfl, rfl, p1, by simp only; omega, fun j hj hji => ?_⟩
          by_cases he : j = i
          · subst he; exact ⟨by omega, by omega⟩
          · exact h4 j hj (by omega)
      · rintro ⟨left, i'⟩ ⟨h1, h2, h3, h4⟩
        simp only at h1 h2 h3
        subst h1
        unfold m_laws_szNodeS_L1
        simp only
        rw [if_neg (by omega)]
        refine ⟨_, rfl, .inr ⟨_, rfl, h2, h3, fun n hn => ?_⟩⟩
        obtain ⟨j, hj, rfl⟩ := List.getElem_of_mem hn
        exact h4 j hj hj
    obtain ⟨r, hr, hp⟩ := inv
    rw [hr]
    simp only [obnd]
    rcases hp with ⟨x, rfl, hx⟩ | ⟨x, rfl, h1, h2, h3⟩
    · exact ⟨_, rfl, .inl hx⟩
    · exact ⟨_, rfl, .inr ⟨h1, h2, by omega, h3⟩⟩
/-! ### Compared -/
theorem eqIntS_eq (a b : List Int) (ha : Cnt a.length) : m_laws_eqIntS a b = some (decide (a = b)) := by
  unfold m_laws_eqIntS
  by_cases hl : a.length = b.length
  · rw [if_pos (by omega)]
    have key : loopO (m_laws_eqIntS_L1 a b) ((0 : Nat) : Int) = some (if ∀ i, i < a.length → decide (a.getD i 0 = b.getD i 0) = true then .inl () else .inr false) := by
      refine loopO_all a.length (fun i => (i : Int)) (fun i => decide (a.getD i 0 = b.getD i 0)) ?_ ?_ ?_
      · intro i hi hp
        unfold m_laws_eqIntS_L1
        rw [if_pos (by omega), getI_D hi, getI_D (xs := b) (by omega), wr (x := (i : Int) + 1) (by omega) (by omega)]
        simp only [obnd]
        rw [if_pos (of_decide_eq_true hp)]; rfl
      · intro i hi hp
        unfold m_laws_eqIntS_L1
        rw [if_pos (by omega), getI_D hi, getI_D (xs := b) (by omega)]
        simp only [obnd]
        rw [if_neg (of_decide_eq_false hp)]
      · unfold m_laws_eqIntS_L1
        rw [if_neg (by omega)]
    rw [show (0 : Int) = ((0 : Nat) : Int) from rfl, key]
    by_cases he : a = b
    · rw [if_pos ((eqLoop hl).2 he), decide_eq_true he]; rfl
    · rw [if_neg (fun h => he ((eqLoop hl).1 h)), decide_eq_false he]; rfl
  · rw [if_neg (by omega), decide_eq_false (fun h => hl (by rw [h]))]
theorem eqNode_self (n : GNode) (h : FitN n) : m_laws_eqNode n n = some true := by
  unfold m_laws_eqNode
  rw [if_pos rfl, eqIntS_eq _ _ (by have := h.label; unfold Cnt; omega)]
  simp [obnd]
theorem eqNodeS_self (a : List GNode) (ha : a.length ≤ 1048576) (hn : ∀ n, n ∈ a → FitN n) : m_laws_eqNodeS a a = some true := by
  unfold m_laws_eqNodeS
  rw [if_pos rfl]
  have key : loopO (m_laws_eqNodeS_L1 a a) ((0 : Nat) : Int) = some (.inl ()) := by
    refine loopO_to a.length (fun i => (i : Int)) ?_ ?_
    · intro i hi
      unfold m_laws_eqNodeS_L1
      rw [if_pos (by omega), getI_lt hi, wr (x := (i : Int) + 1) (by omega) (by omega)]
      simp only [obnd, eqNode_self _ (hn _ (List.getElem_mem hi)), if_true]; rfl
    · unfold m_laws_eqNodeS_L1
      rw [if_neg (by omega)]
  rw [show (0 : Int) = ((0 : Nat) : Int) from rfl, key]; rfl
theorem eqTieS_self (a : List GTie) (ha : a.length ≤ 1048576) : m_laws_eqTieS a a = some true := by
  unfold m_laws_eqTieS
  rw [if_pos rfl]
  have key : loopO (m_laws_eqTieS_L1 a a) ((0 : Nat) : Int) = some (.inl ()) := by
    refine loopO_to a.length (fun i => (i : Int)) ?_ ?_
    · intro i hi
      unfold m_laws_eqTieS_L1
      rw [if_pos (by omega), getI_lt hi, wr (x := (i : Int) + 1) (by omega) (by omega)]
      simp only [obnd, m_laws_eqTie, if_true]; rfl
    · unfold m_laws_eqTieS_L1
      rw [if_neg (by omega)]
  rw [show (0 : Int) = ((0 : Nat) : Int) from rfl, key]; rfl
theorem eqShow_self (s : GShow) (h : FitS s) : m_laws_eqShow s s = some true := by
  unfold m_laws_eqShow
  rw [eqNodeS_self _ h.nodes h.node, eqTieS_self _ h.ties]
  simp [obnd]
end Go.Proofs.YteijmljgodikiaaGreatZ

/- Marked and held. Own work. -/
set_option linter.unusedVariables false
set_option linter.unusedSimpArgs false
namespace Go.Proofs.YteijmljgodikiaaGreatZ
open Go

end Go.Proofs.YteijmljgodikiaaGreatZ

/- ShiftTimes and BrokenTies: the laws. Own work. -/
set_option linter.unusedVariables false
set_option linter.unusedSimpArgs false
namespace Go.Proofs.YteijmljgodikiaaGreatZ
open Go

theorem Clone_int_eq (a : List Int) (ha : a.length ≤ 1048576) : m_slices_Clone_int a = some a := by
  unfold m_slices_Clone_int nilQ
  rw [chk_pos (by omega), chk_pos (by omega)]
  by_cases h : a = []
  · subst h; rw [if_pos rfl, if_pos rfl]
  · rw [if_neg h]

end Go.Proofs.YteijmljgodikiaaGreatZ
