/- Places and searches: what the functions come to. Own work. -/
import Derived.Test.YtgmiaokdnpaglaaP2
set_option linter.all false
set_option linter.unusedVariables false
set_option linter.unusedSimpArgs false
namespace Go.Proofs.YtgmiaokdnpaglaaV
open Go

theorem IndexFunc_Node (xs : List GNode) (p : GNode → Option Bool) (q : GNode → Bool) (hx : Cnt xs.length) (hp : ∀ x, x ∈ xs → p x = some (q x)) : m_slices_IndexFunc_Node xs p = some (firstI xs q) := by
  unfold m_slices_IndexFunc_Node firstI
  have key := loopO_idx (body := m_slices_IndexFunc_Node_L1 xs p ((xs.length : Nat) : Int)) xs q (fun i => (i : Int)) (rT := .inl ()) (fun i => .inr (i : Int)) ?_ ?_ ?_
  · rw [show (0 : Int) = ((0 : Nat) : Int) from rfl, key]
    cases xs.findIdx? q <;> rfl
  · intro i hi hq
    unfold m_slices_IndexFunc_Node_L1
    rw [if_pos (by omega), getI_lt hi, wr (x := (i : Int) + 1) (by omega) (by omega)]
    simp only [obnd, hp _ (List.getElem_mem hi), hq]
    rfl
  · intro i hi hq
    unfold m_slices_IndexFunc_Node_L1
    rw [if_pos (by omega), getI_lt hi]
    simp only [obnd, hp _ (List.getElem_mem hi), hq, if_true]
  · unfold m_slices_IndexFunc_Node_L1
    rw [if_neg (by omega)]

theorem IndexFunc_Tie (xs : List GTie) (p : GTie → Option Bool) (q : GTie → Bool) (hx : Cnt xs.length) (hp : ∀ x, x ∈ xs → p x = some (q x)) : m_slices_IndexFunc_Tie xs p = some (firstI xs q) := by
  unfold m_slices_IndexFunc_Tie firstI
  have key := loopO_idx (body := m_slices_IndexFunc_Tie_L1 xs p ((xs.length : Nat) : Int)) xs q (fun i => (i : Int)) (rT := .inl ()) (fun i => .inr (i : Int)) ?_ ?_ ?_
  · rw [show (0 : Int) = ((0 : Nat) : Int) from rfl, key]
    cases xs.findIdx? q <;> rfl
  · intro i hi hq
    unfold m_slices_IndexFunc_Tie_L1
    rw [if_pos (by omega), getI_lt hi, wr (x := (i : Int) + 1) (by omega) (by omega)]
    simp only [obnd, hp _ (List.getElem_mem hi), hq]
    rfl
  · intro i hi hq
    unfold m_slices_IndexFunc_Tie_L1
    rw [if_pos (by omega), getI_lt hi]
    simp only [obnd, hp _ (List.getElem_mem hi), hq, if_true]
  · unfold m_slices_IndexFunc_Tie_L1
    rw [if_neg (by omega)]
theorem ContainsFunc_Tie (xs : List GTie) (p : GTie → Option Bool) (q : GTie → Bool) (hx : Cnt xs.length) (hp : ∀ x, x ∈ xs → p x = some (q x)) : m_slices_ContainsFunc_Tie xs p = some (xs.any q) := by
  unfold m_slices_ContainsFunc_Tie
  rw [IndexFunc_Tie xs p q hx hp]
  simp only [obnd, firstI_any]

theorem IndexFunc_int (xs : List Int) (p : Int → Option Bool) (q : Int → Bool) (hx : Cnt xs.length) (hp : ∀ x, x ∈ xs → p x = some (q x)) : m_slices_IndexFunc_int xs p = some (firstI xs q) := by
  unfold m_slices_IndexFunc_int firstI
  have key := loopO_idx (body := m_slices_IndexFunc_int_L1 xs p ((xs.length : Nat) : Int)) xs q (fun i => (i : Int)) (rT := .inl ()) (fun i => .inr (i : Int)) ?_ ?_ ?_
  · rw [show (0 : Int) = ((0 : Nat) : Int) from rfl, key]
    cases xs.findIdx? q <;> rfl
  · intro i hi hq
    unfold m_slices_IndexFunc_int_L1
    rw [if_pos (by omega), getI_lt hi, wr (x := (i : Int) + 1) (by omega) (by omega)]
    simp only [obnd, hp _ (List.getElem_mem hi), hq]
    rfl
  · intro i hi hq
    unfold m_slices_IndexFunc_int_L1
    rw [if_pos (by omega), getI_lt hi]
    simp only [obnd, hp _ (List.getElem_mem hi), hq, if_true]
  · unfold m_slices_IndexFunc_int_L1
    rw [if_neg (by omega)]
theorem ContainsFunc_int (xs : List Int) (p : Int → Option Bool) (q : Int → Bool) (hx : Cnt xs.length) (hp : ∀ x, x ∈ xs → p x = some (q x)) : m_slices_ContainsFunc_int xs p = some (xs.any q) := by
  unfold m_slices_ContainsFunc_int
  rw [IndexFunc_int xs p q hx hp]
  simp only [obnd, firstI_any]

theorem IndexFunc_Take (xs : List GTake) (p : GTake → Option Bool) (q : GTake → Bool) (hx : Cnt xs.length) (hp : ∀ x, x ∈ xs → p x = some (q x)) : m_slices_IndexFunc_Take xs p = some (firstI xs q) := by
  unfold m_slices_IndexFunc_Take firstI
  have key := loopO_idx (body := m_slices_IndexFunc_Take_L1 xs p ((xs.length : Nat) : Int)) xs q (fun i => (i : Int)) (rT := .inl ()) (fun i => .inr (i : Int)) ?_ ?_ ?_
  · rw [show (0 : Int) = ((0 : Nat) : Int) from rfl, key]
    cases xs.findIdx? q <;> rfl
  · intro i hi hq
    unfold m_slices_IndexFunc_Take_L1
    rw [if_pos (by omega), getI_lt hi, wr (x := (i : Int) + 1) (by omega) (by omega)]
    simp only [obnd, hp _ (List.getElem_mem hi), hq]
    rfl
  · intro i hi hq
    unfold m_slices_IndexFunc_Take_L1
    rw [if_pos (by omega), getI_lt hi]
    simp only [obnd, hp _ (List.getElem_mem hi), hq, if_true]
  · unfold m_slices_IndexFunc_Take_L1
    rw [if_neg (by omega)]
theorem ContainsFunc_Take (xs : List GTake) (p : GTake → Option Bool) (q : GTake → Bool) (hx : Cnt xs.length) (hp : ∀ x, x ∈ xs → p x = some (q x)) : m_slices_ContainsFunc_Take xs p = some (xs.any q) := by
  unfold m_slices_ContainsFunc_Take
  rw [IndexFunc_Take xs p q hx hp]
  simp only [obnd, firstI_any]

theorem l08Watcher_eq (s : GShow) (p : Int) (hx : Cnt s.nodes.length) : m_spec_l08Watcher s p = some (firstI s.nodes (fun n => decide (n.watch = p))) := by
  unfold m_spec_l08Watcher firstI
  have key := loopO_idx (body := m_spec_l08Watcher_L1 p s.nodes ((s.nodes.length : Nat) : Int)) s.nodes (fun n => decide (n.watch = p)) (fun i => (i : Int)) (rT := .inl ()) (fun i => .inr (i : Int)) ?_ ?_ ?_
  · rw [show (0 : Int) = ((0 : Nat) : Int) from rfl, key]
    cases s.nodes.findIdx? (fun n => decide (n.watch = p)) <;> rfl
  · intro i hi hq
    unfold m_spec_l08Watcher_L1
    rw [if_pos (by omega), getI_lt hi, wr (x := (i : Int) + 1) (by omega) (by omega)]
    simp only [obnd]
    revert hq
    simp only [Bool.and_eq_false_iff, decide_eq_false_iff_not]
    intro hq
    repeat' split
    all_goals first | rfl | simp_all
  · intro i hi hq
    unfold m_spec_l08Watcher_L1
    rw [if_pos (by omega), getI_lt hi]
    simp only [obnd]
    revert hq
    simp only [Bool.and_eq_true, decide_eq_true_eq]
    intro hq
    repeat' split
    all_goals first | rfl | simp_all
  · unfold m_spec_l08Watcher_L1
    rw [if_neg (by omega)]

theorem NodeNamed_eq (s : GShow) (name : ByteArray) (hx : Cnt s.nodes.length) : m_spec_NodeNamed s name = some (firstI s.nodes (fun n => decide (n.name = name))) := by
  unfold m_spec_NodeNamed firstI
  have key := loopO_idx (body := m_spec_NodeNamed_L1 name s.nodes ((s.nodes.length : Nat) : Int)) s.nodes (fun n => decide (n.name = name)) (fun i => (i : Int)) (rT := .inl ()) (fun i => .inr (i : Int)) ?_ ?_ ?_
  · rw [show (0 : Int) = ((0 : Nat) : Int) from rfl, key]
    cases s.nodes.findIdx? (fun n => decide (n.name = name)) <;> rfl
  · intro i hi hq
    unfold m_spec_NodeNamed_L1
    rw [if_pos (by omega), getI_lt hi, wr (x := (i : Int) + 1) (by omega) (by omega)]
    simp only [obnd]
    revert hq
    simp only [Bool.and_eq_false_iff, decide_eq_false_iff_not]
    intro hq
    repeat' split
    all_goals first | rfl | simp_all
  · intro i hi hq
    unfold m_spec_NodeNamed_L1
    rw [if_pos (by omega), getI_lt hi]
    simp only [obnd]
    revert hq
    simp only [Bool.and_eq_true, decide_eq_true_eq]
    intro hq
    repeat' split
    all_goals first | rfl | simp_all
  · unfold m_spec_NodeNamed_L1
    rw [if_neg (by omega)]

theorem l08Free_eq (s : GShow) (node : Int) (hx : Cnt s.ties.length) : m_spec_l08Free s node = some (firstI s.ties (fun t => t.free && decide (t.to = node))) := by
  unfold m_spec_l08Free firstI
  have key := loopO_idx (body := m_spec_l08Free_L1 node s.ties ((s.ties.length : Nat) : Int)) s.ties (fun t => t.free && decide (t.to = node)) (fun i => (i : Int)) (rT := .inl ()) (fun i => .inr (i : Int)) ?_ ?_ ?_
  · rw [show (0 : Int) = ((0 : Nat) : Int) from rfl, key]
    cases s.ties.findIdx? (fun t => t.free && decide (t.to = node)) <;> rfl
  · intro i hi hq
    unfold m_spec_l08Free_L1
    rw [if_pos (by omega), getI_lt hi, wr (x := (i : Int) + 1) (by omega) (by omega)]
    simp only [obnd]
    revert hq
    simp only [Bool.and_eq_false_iff, decide_eq_false_iff_not]
    intro hq
    repeat' split
    all_goals first | rfl | simp_all
  · intro i hi hq
    unfold m_spec_l08Free_L1
    rw [if_pos (by omega), getI_lt hi]
    simp only [obnd]
    revert hq
    simp only [Bool.and_eq_true, decide_eq_true_eq]
    intro hq
    repeat' split
    all_goals first | rfl | simp_all
  · unfold m_spec_l08Free_L1
    rw [if_neg (by omega)]

theorem watcher_impl (s : GShow) (p : Int) (hx : Cnt s.nodes.length) : m_impl_watcher s p = some (firstI s.nodes (fun n => decide (0 < p) && decide (n.watch = p))) := by
  unfold m_impl_watcher
  rw [IndexFunc_Node _ _ (fun n => decide (0 < p) && decide (n.watch = p)) hx (fun n _ => by
    unfold m_impl_watcher_c1
    split <;> simp [*])]
  rfl

def implies (a b : List Int) : Bool := labelOk a && labelOk b && b.all (fun x => decide (x ∈ a))
theorem Implies_impl (a b : List Int) (ha : Cnt a.length) (hb : Cnt b.length) : m_impl_ImpliesLabel a b = some (implies a b) := by
  unfold m_impl_ImpliesLabel implies
  rw [LabelOk_impl a ha]; simp only [obnd]
  cases labelOk a
  · rfl
  · rw [LabelOk_impl b hb]; simp only
    cases labelOk b
    · rfl
    · rw [ContainsFunc_int b _ (fun x => !decide (x ∈ a)) hb (fun x _ => by
        unfold m_impl_ImpliesLabel_c1
        rw [Contains_eq a x ha]; rfl)]
      simp only [if_true, Bool.true_and]
      congr 1
      simp [List.all_eq_not_any_not]
theorem Implies_spec (a b : List Int) (ha : Cnt a.length) (hb : Cnt b.length) : m_spec_ImpliesLabel a b = some (implies a b) := by
  unfold m_spec_ImpliesLabel implies
  rw [LabelOk_spec a ha]; simp only [obnd]
  cases labelOk a
  · rfl
  · rw [LabelOk_spec b hb]; simp only
    cases labelOk b
    · rfl
    · simp only [if_true, Bool.true_and]
      have key := loopO_allL (body := m_spec_ImpliesLabel_L1 a b ((b.length : Nat) : Int)) b (fun x => decide (x ∈ a)) (fun i => (i : Int)) (rT := .inl ()) (rF := .inr false) ?_ ?_ ?_
      · rw [show (0 : Int) = ((0 : Nat) : Int) from rfl, key]
        cases b.all (fun x => decide (x ∈ a)) <;> rfl
      · intro i hi hq
        unfold m_spec_ImpliesLabel_L1
        rw [if_pos (by omega), getI_lt hi, wr (x := (i : Int) + 1) (by omega) (by omega)]
        simp only [obnd, l07Has_eq a _ ha, hq, if_true]; rfl
      · intro i hi hq
        unfold m_spec_ImpliesLabel_L1
        rw [if_pos (by omega), getI_lt hi]
        simp only [obnd, l07Has_eq a _ ha, hq]; rfl
      · unfold m_spec_ImpliesLabel_L1
        rw [if_neg (by omega)]
end Go.Proofs.YtgmiaokdnpaglaaV
