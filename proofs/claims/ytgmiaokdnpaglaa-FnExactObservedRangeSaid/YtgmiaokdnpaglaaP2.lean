/- Names, nodes, places: what the functions come to. Own work. -/
import Derived.Test.YtgmiaokdnpaglaaP1
set_option linter.all false
set_option linter.unusedVariables false
set_option linter.unusedSimpArgs false
namespace Go.Proofs.YtgmiaokdnpaglaaV
open Go

theorem getS_lt {s : ByteArray} {i : Nat} (h : i < s.size) : getS s (i : Int) = some s[i] := by
  unfold getS
  rw [if_pos (by omega), Int.toNat_natCast, getElem?_pos s i h]

/-- A letter, or a digit that does not come first. -/
def nameC (i : Nat) (c : UInt8) : Bool := decide ((97 ≤ c.toNat ∧ c.toNat ≤ 122) ∨ (48 ≤ c.toNat ∧ c.toNat ≤ 57 ∧ 0 < i))
def nameAt (s : ByteArray) (i : Nat) : Bool := nameC i (s[i]?.getD 0)
def nameOk (s : ByteArray) : Bool := decide ((∀ i, i < s.size → nameAt s i = true) ∧ 1 ≤ s.size ∧ s.size ≤ 8)

theorem nameAt_lt {s : ByteArray} {i : Nat} (h : i < s.size) : nameAt s i = nameC i s[i] := by
  unfold nameAt
  rw [getElem?_pos s i h]; rfl

theorem nameOk_of {s : ByteArray} (hall : ∀ i, i < s.size → nameAt s i = true) : nameOk s = decide (1 ≤ s.size ∧ s.size ≤ 8) := by
  unfold nameOk
  exact decide_eq_decide.2 (and_iff_right hall)
theorem nameOk_no {s : ByteArray} (hall : ¬ ∀ i, i < s.size → nameAt s i = true) : nameOk s = false := decide_eq_false (fun h => hall h.1)

theorem IsName_impl (s : ByteArray) (hs : Cnt s.size) : m_impl_IsName s = some (nameOk s) := by
  unfold m_impl_IsName
  have key : loopO (m_impl_IsName_L1 s) 0 = some (if ∀ i, i < s.size → nameAt s i = true then .inl () else .inr false) := by
    refine loopO_all s.size (fun i => (i : Int)) (nameAt s) ?_ ?_ ?_
    · intro i hi hp
      rw [nameAt_lt hi, nameC, decide_eq_true_eq] at hp
      unfold m_impl_IsName_L1
      rw [if_pos (by omega), getS_lt hi]
      simp only [obnd]
      rw [wr (x := (i : Int) + 1) (by omega) (by omega)]
      repeat' split
      all_goals first | rfl | (exfalso; omega)
    · intro i hi hp
      rw [nameAt_lt hi, nameC, decide_eq_false_iff_not] at hp
      unfold m_impl_IsName_L1
      rw [if_pos (by omega), getS_lt hi]
      simp only [obnd]
      repeat' split
      all_goals first | rfl | (exfalso; omega)
    · unfold m_impl_IsName_L1
      rw [if_neg (by omega)]
  rw [key]
  by_cases hall : ∀ i, i < s.size → nameAt s i = true
  · rw [if_pos hall, nameOk_of hall]
    simp only [obnd]
    split
    · congr 1; exact decide_eq_decide.2 (by omega)
    · congr 1; exact (decide_eq_false (by omega)).symm
  · rw [if_neg hall, nameOk_no hall]; rfl

theorem IsName_spec (s : ByteArray) (hs : Cnt s.size) : m_spec_IsName s = some (nameOk s) := by
  unfold m_spec_IsName
  have key : loopO (m_spec_IsName_L1 s) 0 = some (if ∀ i, i < s.size → nameAt s i = true then .inl () else .inr false) := by
    refine loopO_all s.size (fun i => (i : Int)) (nameAt s) ?_ ?_ ?_
    · intro i hi hp
      rw [nameAt_lt hi, nameC, decide_eq_true_eq] at hp
      unfold m_spec_IsName_L1
      rw [if_pos (by omega), getS_lt hi]
      simp only [obnd]
      rw [wr (x := (i : Int) + 1) (by omega) (by omega)]
      repeat' split
      all_goals first | rfl | (exfalso; omega)
    · intro i hi hp
      rw [nameAt_lt hi, nameC, decide_eq_false_iff_not] at hp
      unfold m_spec_IsName_L1
      rw [if_pos (by omega), getS_lt hi]
      simp only [obnd]
      repeat' split
      all_goals first | rfl | (exfalso; omega)
    · unfold m_spec_IsName_L1
      rw [if_neg (by omega)]
  rw [key]
  by_cases hall : ∀ i, i < s.size → nameAt s i = true
  · rw [if_pos hall, nameOk_of hall]
    simp only [obnd, l01In_eq]
    congr 1
    exact decide_eq_decide.2 (by omega)
  · rw [if_neg hall, nameOk_no hall]; rfl

def nodeOk (n : GNode) : Bool := nameOk n.name && labelOk n.label && decide (0 ≤ n.watch ∧ n.watch ≤ 3)
def SmallN (n : GNode) : Prop := Cnt n.name.size ∧ Cnt n.label.length

theorem NodeOk_impl (n : GNode) (h : SmallN n) : m_impl_NodeOk n = some (nodeOk n) := by
  unfold m_impl_NodeOk nodeOk
  rw [IsName_impl _ h.1]; simp only [obnd]
  cases nameOk n.name
  · rfl
  · rw [LabelOk_impl _ h.2]; simp only
    cases labelOk n.label
    · rfl
    · simp only [if_true]
      split <;> simp [*]
theorem NodeOk_spec (n : GNode) (h : SmallN n) : m_spec_NodeOk n = some (nodeOk n) := by
  unfold m_spec_NodeOk nodeOk
  rw [IsName_spec _ h.1]; simp only [obnd]
  cases nameOk n.name
  · rfl
  · rw [LabelOk_spec _ h.2]; simp only
    cases labelOk n.label
    · rfl
    · simp only [if_true, l01In_eq, Bool.true_and]

/-! ### Equal lists -/
theorem eqLoop {a b : List Int} (hl : a.length = b.length) : (∀ i, i < a.length → decide (a.getD i 0 = b.getD i 0) = true) ↔ a = b := by
  constructor
  · intro h
    apply List.ext_getElem hl
    intro i h1 h2
    have := h i h1
    simpa [h1, h2] using this
  · rintro rfl i _; simp
theorem Equal_int (a b : List Int) (ha : Cnt a.length) : m_slices_Equal_int a b = some (decide (a = b)) := by
  unfold m_slices_Equal_int
  by_cases hl : a.length = b.length
  · rw [if_pos (by omega)]
    have key : loopO (m_slices_Equal_int_L1 a b ((a.length : Nat) : Int)) 0 = some (if ∀ i, i < a.length → decide (a.getD i 0 = b.getD i 0) = true then .inl () else .inr false) := by
      refine loopO_all a.length (fun i => (i : Int)) (fun i => decide (a.getD i 0 = b.getD i 0)) ?_ ?_ ?_
      · intro i hi hp
        unfold m_slices_Equal_int_L1
        rw [if_pos (by omega), getI_D hi, getI_D (xs := b) (by omega), wr (x := (i : Int) + 1) (by omega) (by omega)]
        simp only [obnd]
        rw [if_pos (of_decide_eq_true hp)]; rfl
      · intro i hi hp
        unfold m_slices_Equal_int_L1
        rw [if_pos (by omega), getI_D hi, getI_D (xs := b) (by omega)]
        simp only [obnd]
        rw [if_neg (of_decide_eq_false hp)]
      · unfold m_slices_Equal_int_L1
        rw [if_neg (by omega)]
    rw [key]
    by_cases he : a = b
    · rw [if_pos ((eqLoop hl).2 he), decide_eq_true he]; rfl
    · rw [if_neg (fun h => he ((eqLoop hl).1 h)), decide_eq_false he]; rfl
  · rw [if_neg (by omega), decide_eq_false (fun h => hl (by rw [h]))]
theorem l08Same_eq (a b : List Int) (ha : Cnt a.length) : m_spec_l08Same a b = some (decide (a = b)) := by
  unfold m_spec_l08Same
  by_cases hl : a.length = b.length
  · rw [if_pos (by omega)]
    have key : loopO (m_spec_l08Same_L1 b a ((a.length : Nat) : Int)) 0 = some (if ∀ i, i < a.length → decide (a.getD i 0 = b.getD i 0) = true then .inl () else .inr false) := by
      refine loopO_all a.length (fun i => (i : Int)) (fun i => decide (a.getD i 0 = b.getD i 0)) ?_ ?_ ?_
      · intro i hi hp
        unfold m_spec_l08Same_L1
        rw [if_pos (by omega), getI_D hi, getI_D (xs := b) (by omega), wr (x := (i : Int) + 1) (by omega) (by omega)]
        simp only [obnd]
        rw [if_pos (of_decide_eq_true hp)]; rfl
      · intro i hi hp
        unfold m_spec_l08Same_L1
        rw [if_pos (by omega), getI_D hi, getI_D (xs := b) (by omega)]
        simp only [obnd]
        rw [if_neg (of_decide_eq_false hp)]
      · unfold m_spec_l08Same_L1
        rw [if_neg (by omega)]
    rw [key]
    by_cases he : a = b
    · rw [if_pos ((eqLoop hl).2 he), decide_eq_true he]; rfl
    · rw [if_neg (fun h => he ((eqLoop hl).1 h)), decide_eq_false he]; rfl
  · rw [if_neg (by omega), decide_eq_false (fun h => hl (by rw [h]))]
end Go.Proofs.YtgmiaokdnpaglaaV
