/- ShowOk of the program. Own work. -/
import Derived.Test.YtgmiaokdnpaglaaP4
set_option linter.all false
set_option linter.unusedVariables false
set_option linter.unusedSimpArgs false
namespace Go.Proofs.YtgmiaokdnpaglaaV
open Go

def watched (s : GShow) (label : List Int) (x : Int) : Bool :=
  decide (0 ≤ firstI s.nodes (fun n => decide (n.watch = pr x))) && (match s.nodes[(firstI s.nodes (fun n => decide (n.watch = pr x))).toNat]? with
    | some n => !decide (x ∈ n.label) && !decide (IntKind.wrap .i64 (0 - x) ∈ n.label) && implies label n.label
    | none => false)
def allWatched (s : GShow) : Bool := s.nodes.all (fun n => n.label.all (fun x => watched s n.label x))
def showOk (s : GShow) : Bool := nodesA s && decide (∀ i, i < s.ties.length → tieP s i = true) && decide (s.ties.length ≤ 14) && decide (1 ≤ s.horizon ∧ s.horizon ≤ 10) && allWatched s

theorem pr_pos {l : List Int} (h : labelOk l = true) {x : Int} (hx : x ∈ l) : 0 < pr x ∧ -3 ≤ x ∧ x ≤ 3 := by
  obtain ⟨i, hi, rfl⟩ := mem_D.1 hx
  have := of_decide_eq_true h i hi
  unfold labP at this
  rw [decide_eq_true_eq] at this
  refine ⟨?_, this.2.1, this.2.2.1⟩
  unfold pr
  split
  · rw [wr (by omega) (by omega)]; omega
  · have := this.1; omega

theorem isWatched_eq (s : GShow) (hs : SmallS s) (label : List Int) (x : Int) (hl : Cnt label.length) (hx : 0 < pr x) : m_impl_isWatched s label x = some (watched s label x) := by
  unfold m_impl_isWatched watched
  rw [propOf_eq]
  simp only [obnd]
  rw [watcher_impl s _ hs.nodes]
  have e : (fun n : GNode => decide (0 < pr x) && decide (n.watch = pr x)) = (fun n : GNode => decide (n.watch = pr x)) := by funext n; rw [decide_eq_true hx, Bool.true_and]
  rw [e]
  simp only
  by_cases h0 : 0 ≤ firstI s.nodes (fun n => decide (n.watch = pr x))
  · rw [if_neg (by omega), decide_eq_true h0, Bool.true_and]
    obtain ⟨i, hi, he, _⟩ := firstI_lt h0
    rw [he, getI_lt hi]
    simp only [Int.toNat_natCast, List.getElem?_eq_getElem hi]
    have hc : Cnt s.nodes[i].label.length := (hs.node _ (List.getElem_mem hi)).2
    rw [Contains_eq _ _ hc]
    simp only
    by_cases h1 : x ∈ s.nodes[i].label
    · rw [if_pos (decide_eq_true h1), decide_eq_true h1]; rfl
    · rw [if_neg (by rw [decide_eq_false h1]; simp), decide_eq_false h1, Contains_eq _ _ hc]
      simp only
      by_cases h2 : IntKind.wrap .i64 (0 - x) ∈ s.nodes[i].label
      · rw [if_pos (decide_eq_true h2), decide_eq_true h2]; rfl
      · rw [if_neg (by rw [decide_eq_false h2]; simp), decide_eq_false h2, Implies_impl _ _ hl hc]
        simp
  · rw [if_pos (by omega), decide_eq_false h0]; rfl

theorem nodesA_node {s : GShow} (h : nodesA s = true) : ∀ n, n ∈ s.nodes → nodeOk n = true := by
  intro n hn
  obtain ⟨i, hi, rfl⟩ := List.getElem_of_mem hn
  unfold nodesA at h
  simp only [Bool.and_eq_true, decide_eq_true_eq] at h
  have := h.2 i hi
  rw [nodeP_lt hi, Bool.and_eq_true] at this
  exact this.1
theorem nodeOk_label {n : GNode} (h : nodeOk n = true) : labelOk n.label = true := by
  unfold nodeOk at h
  simp only [Bool.and_eq_true] at h
  exact h.1.2

theorem ShowOk_impl (s : GShow) (hs : SmallS s) : m_impl_ShowOk s = some (showOk s) := by
  unfold m_impl_ShowOk showOk
  rw [areNodes_eq s hs]
  simp only [obnd]
  cases hA : nodesA s
  · rfl
  · rw [if_pos rfl, areTies_eq s hs]
    simp only [Bool.true_and]
    cases hT : (decide (∀ i, i < s.ties.length → tieP s i = true) && decide (s.ties.length ≤ 14))
    · rfl
    · rw [if_pos rfl, Bool.true_and]
      by_cases hh : 1 ≤ s.horizon ∧ s.horizon ≤ 10
      · rw [if_neg (by omega), if_neg (by omega), decide_eq_true hh, Bool.true_and]
        have key : loopO (m_impl_ShowOk_L1 s.nodes ((s.nodes.length : Nat) : Int) s.ties s.horizon) ((0 : Nat) : Int) = some (if allWatched s = true then .inl () else .inr false) := by
          have h1 := hs.nodes
          have stp : ∀ i (hi : i < s.nodes.length), m_slices_ContainsFunc_int s.nodes[i].label (fun a0 => m_impl_ShowOk_c1 a0 (GShow.mk s.nodes s.ties s.horizon) s.nodes[i]) = some (s.nodes[i].label.any (fun x => !watched s s.nodes[i].label x)) := by
            intro i hi
            have hc : Cnt s.nodes[i].label.length := (hs.node _ (List.getElem_mem hi)).2
            refine ContainsFunc_int _ _ _ hc (fun x hx => ?_)
            unfold m_impl_ShowOk_c1
            rw [isWatched_eq s hs _ _ hc (pr_pos (nodeOk_label (nodesA_node hA _ (List.getElem_mem hi))) hx).1]
            rfl
          refine loopO_allL s.nodes (fun n => n.label.all (fun x => watched s n.label x)) (fun i => (i : Int)) ?_ ?_ ?_
          · intro i hi hq
            unfold m_impl_ShowOk_L1
            rw [if_pos (by omega), getI_lt hi, wr (x := (i : Int) + 1) (by omega) (by omega)]
            simp only [obnd, stp i hi]
            rw [List.all_eq_not_any_not] at hq
            rw [if_neg (by simpa using hq)]; rfl
          · intro i hi hq
            unfold m_impl_ShowOk_L1
            rw [if_pos (by omega), getI_lt hi]
            simp only [obnd, stp i hi]
            rw [List.all_eq_not_any_not] at hq
            rw [if_pos (by simpa using hq)]
          · unfold m_impl_ShowOk_L1
            rw [if_neg (by omega)]
        rw [show (0 : Int) = ((0 : Nat) : Int) from rfl, key]
        cases allWatched s <;> rfl
      · rw [decide_eq_false hh]
        split
        · rfl
        · rw [if_pos (by omega)]; rfl
end Go.Proofs.YtgmiaokdnpaglaaV
