/- ShowOk of the reference. Own work. -/
import Derived.Test.YtgmiaokdnpaglaaP5
set_option linter.all false
set_option linter.unusedVariables false
set_option linter.unusedSimpArgs false
namespace Go.Proofs.YtgmiaokdnpaglaaV
open Go

theorem firstI_self {α : Type} {xs : List α} {q : α → Bool} {i : Nat} (hi : i < xs.length) (hq : q xs[i] = true) : decide (firstI xs q = (i : Int)) = !(xs.take i).any q := by
  unfold firstI
  cases hf : xs.findIdx? q with
  | none =>
    have := List.findIdx?_eq_none_iff.1 hf _ (List.getElem_mem hi)
    rw [this] at hq; cases hq
  | some j =>
    obtain ⟨hj, hp, hno⟩ := List.findIdx?_eq_some_iff_getElem.1 hf
    have hji : j ≤ i := by
      rcases Nat.lt_or_ge i j with h | h
      · exact absurd hq (hno i h)
      · exact h
    by_cases he : j = i
    · subst he
      simp only [decide_true]
      symm
      rw [Bool.not_eq_true', List.any_eq_false]
      intro x hx
      obtain ⟨k, hk, rfl⟩ := List.getElem_of_mem hx
      simp only [List.length_take] at hk
      rw [List.getElem_take]
      exact hno k (by omega)
    · rw [decide_eq_false (by show ¬ ((j : Int) = (i : Int)); omega)]
      symm
      rw [Bool.not_eq_false', List.any_eq_true]
      refine ⟨xs[j], ?_, hp⟩
      rw [List.mem_take_iff_getElem]
      exact ⟨j, by omega, rfl⟩

theorem earlier_eq (s : GShow) (i : Nat) (n : GNode) : earlier s i n = (!(s.nodes.take i).any (fun m => decide (m.name = n.name)) && (decide (n.watch = 0) || !(s.nodes.take i).any (fun m => decide (m.watch = n.watch)))) := by
  unfold earlier
  generalize s.nodes.take i = l
  by_cases h : n.watch = 0
  · simp only [h, decide_true, Bool.true_or, Bool.and_true]
    rw [List.all_eq_not_any_not]; simp
  · simp only [h, decide_false, Bool.false_or]
    induction l with
    | nil => rfl
    | cons m l ih => simp only [List.all_cons, List.any_cons, ih]; cases decide (m.name = n.name) <;> cases decide (m.watch = n.watch) <;> simp

theorem specWatched (s : GShow) (hs : SmallS s) (label : List Int) (x : Int) (hl : Cnt label.length) (A B : Option (Step Int (Sum Unit Bool))) :
    (obnd (m_spec_l07Prop x) fun r37 => obnd (m_spec_l08Watcher (GShow.mk s.nodes s.ties s.horizon) r37) fun r38 => if r38 < 0 then B else obnd (getI s.nodes r38) fun x39 => obnd (m_spec_l07Has x39.label x) fun r40 => if r40 = true then B else
      obnd (m_spec_l07Has x39.label (IntKind.wrap .i64 (0 - x))) fun r41 => if r41 = true then B else obnd (m_spec_ImpliesLabel label x39.label) fun r42 => if r42 = true then A else B) = if watched s label x = true then A else B := by
  rw [l07Prop_eq]
  simp only [obnd]
  rw [l08Watcher_eq _ _ (by exact hs.nodes)]
  simp only
  unfold watched
  by_cases h0 : 0 ≤ firstI s.nodes (fun n => decide (n.watch = pr x))
  · rw [if_neg (by omega), decide_eq_true h0, Bool.true_and]
    obtain ⟨i, hi, he, _⟩ := firstI_lt h0
    rw [he, getI_lt hi]
    simp only [Int.toNat_natCast, List.getElem?_eq_getElem hi]
    have hc : Cnt s.nodes[i].label.length := (hs.node _ (List.getElem_mem hi)).2
    rw [l07Has_eq _ _ hc, l07Has_eq _ _ hc, Implies_spec _ _ hl hc]
    simp only
    generalize IntKind.wrap .i64 (0 - x) = y
    by_cases h1 : x ∈ s.nodes[i].label <;> by_cases h2 : y ∈ s.nodes[i].label <;> simp [h1, h2]
  · rw [if_pos (by omega), decide_eq_false h0]; simp

theorem l08Nodes_eq (s : GShow) (hs : SmallS s) : m_spec_l08Nodes s = some (nodesA s && allWatched s) := by
  unfold m_spec_l08Nodes nodesA
  have h1 := hs.nodes
  rw [l01In_eq]
  simp only [obnd]
  by_cases hlen : 1 ≤ s.nodes.length ∧ s.nodes.length ≤ 7
  · rw [if_pos (decide_eq_true (by omega)), decide_eq_true hlen, Bool.true_and]
    have h0 : 0 < s.nodes.length := by omega
    rw [show (0 : Int) = ((0 : Nat) : Int) from rfl, getI_lt h0]
    simp only
    have hf : firstOk s = (decide (s.nodes[0].label = []) && decide (s.nodes[0].watch = 0)) := by
      unfold firstOk; rw [List.getElem?_eq_getElem h0]; rfl
    rw [hf]
    by_cases hlab : s.nodes[0].label = []
    · rw [if_neg (by rw [hlab]; simp), decide_eq_true hlab, Bool.true_and]
      by_cases hw : s.nodes[0].watch = 0
      · rw [if_pos (by simpa using hw), decide_eq_true hw, Bool.true_and]
        have key : loopO (m_spec_l08Nodes_L1 s.nodes ((s.nodes.length : Nat) : Int) s.ties s.horizon) ((0 : Nat) : Int) = some (if ∀ i, i < s.nodes.length → nodeP s i = true then .inl () else .inr false) := by
          have stp : ∀ i, i < s.nodes.length → m_spec_l08Nodes_L1 s.nodes ((s.nodes.length : Nat) : Int) s.ties s.horizon ((i : Nat) : Int) = some (if nodeP s i = true then .next ((i + 1 : Nat) : Int) else .done (.inr false)) := by
            intro i hi
            rw [nodeP_lt hi, earlier_eq]
            unfold m_spec_l08Nodes_L1
            rw [if_pos (by omega), getI_lt hi, wr (x := (i : Int) + 1) (by omega) (by omega)]
            simp only [obnd, NodeOk_spec _ (hs.node _ (List.getElem_mem hi)), NodeNamed_eq (GShow.mk s.nodes s.ties s.horizon) _ h1, l08Watcher_eq (GShow.mk s.nodes s.ties s.horizon) _ h1]
            have e1 := firstI_self (q := fun m : GNode => decide (m.name = s.nodes[i].name)) hi (by simp)
            have e2 := firstI_self (q := fun m : GNode => decide (m.watch = s.nodes[i].watch)) hi (by simp)
            rw [← e1, ← e2]
            cases nodeOk s.nodes[i]
            · rfl
            · by_cases c1 : firstI s.nodes (fun m : GNode => decide (m.name = s.nodes[i].name)) = (i : Int)
              · by_cases c2 : s.nodes[i].watch = 0
                · simp [c1, c2]
                · by_cases c3 : firstI s.nodes (fun m : GNode => decide (m.watch = s.nodes[i].watch)) = (i : Int) <;> simp [c1, c2, c3]
              · simp [c1]
          refine loopO_all s.nodes.length (fun i => (i : Int)) (nodeP s) ?_ ?_ ?_
          · intro i hi hp
            simp only [stp i hi, hp, if_true]
          · intro i hi hp
            simp only [stp i hi, hp]; rfl
          · unfold m_spec_l08Nodes_L1
            rw [if_neg (by omega)]
        rw [key]
        by_cases hall : ∀ i, i < s.nodes.length → nodeP s i = true
        · rw [if_pos hall, decide_eq_true hall, Bool.true_and]
          simp only
          have key2 : loopO (m_spec_l08Nodes_L4 s.nodes ((s.nodes.length : Nat) : Int) s.ties s.horizon) ((0 : Nat) : Int) = some (if allWatched s = true then .inl () else .inr false) := by
            have inner : ∀ n, n ∈ s.nodes → ∀ a b d e, loopO (m_spec_l08Nodes_L3 s.nodes a b n.label ((n.label.length : Nat) : Int) s.ties s.horizon d e) 0 = some (if n.label.all (fun x => watched s n.label x) = true then .inl () else .inr false) := by
              intro n hn a b d e
              have hc : Cnt n.label.length := (hs.node n hn).2
              have stp : ∀ i (hi : i < n.label.length), m_spec_l08Nodes_L3 s.nodes a b n.label ((n.label.length : Nat) : Int) s.ties s.horizon d e ((i : Nat) : Int) = (if watched s n.label n.label[i] = true then some (.next ((i + 1 : Nat) : Int)) else some (.done (.inr false))) := by
                intro i hi
                unfold m_spec_l08Nodes_L3
                rw [if_pos (by omega), getI_lt hi, wr (x := (i : Int) + 1) (by omega) (by omega)]
                exact specWatched s hs n.label n.label[i] hc _ _
              refine loopO_allL n.label (fun x => watched s n.label x) (fun i => (i : Int)) ?_ ?_ ?_
              · intro i hi hq
                simp only [stp i hi, hq, if_true]
              · intro i hi hq
                simp only [stp i hi, hq]; rfl
              · unfold m_spec_l08Nodes_L3
                rw [if_neg (by omega)]
            refine loopO_allL s.nodes (fun n => n.label.all (fun x => watched s n.label x)) (fun i => (i : Int)) ?_ ?_ ?_
            · intro i hi hq
              unfold m_spec_l08Nodes_L4
              rw [if_pos (by omega), getI_lt hi, wr (x := (i : Int) + 1) (by omega) (by omega)]
              simp only [obnd, inner _ (List.getElem_mem hi), hq, if_true]; rfl
            · intro i hi hq
              unfold m_spec_l08Nodes_L4
              rw [if_pos (by omega), getI_lt hi]
              simp only [obnd, inner _ (List.getElem_mem hi), hq]; rfl
            · unfold m_spec_l08Nodes_L4
              rw [if_neg (by omega)]
          rw [key2]
          cases allWatched s <;> rfl
        · rw [if_neg hall, decide_eq_false hall]; rfl
      · rw [if_neg (by simpa using hw), decide_eq_false hw]; rfl
    · rw [if_pos (by have := List.length_pos_iff.2 hlab; omega), decide_eq_false hlab]; rfl
  · rw [if_neg (by rw [decide_eq_false (by omega)]; simp), decide_eq_false hlen]; rfl

theorem l08Tie_eq (s : GShow) (hs : SmallS s) (i : Nat) (hi : i < s.ties.length) (hn : 1 ≤ s.nodes.length) : m_spec_l08Tie s ((i : Nat) : Int) = some (tieP s i) := by
  have h1 := hs.ties
  have h2 := hs.nodes
  have hq : ∀ t, t = s.ties[i] → t.free = true → (fun u : GTie => u.free && decide (u.to = t.to)) s.ties[i] = true := by intro t ht hf; subst ht; simp [hf]
  unfold m_spec_l08Tie
  rw [getI_lt hi, tieP_lt hi]
  have hfree := fun (hf : s.ties[i].free = true) => firstI_self (q := fun u : GTie => u.free && decide (u.to = s.ties[i].to)) hi (hq _ rfl hf)
  revert hfree
  generalize s.ties[i] = t
  intro hfree
  simp only [obnd, l01In_eq]
  rw [wr (x := (s.nodes.length : Int) - 1) (by omega) (by omega)]
  by_cases hB : tieB s t = true
  · have hB' := hB
    unfold tieB at hB'
    rw [decide_eq_true_eq] at hB'
    obtain ⟨⟨a1, a2⟩, ⟨b1, b2⟩, c1, c2, c3, c4⟩ := hB'
    rw [if_pos (decide_eq_true ⟨a1, by omega⟩), if_pos (decide_eq_true ⟨b1, by omega⟩), if_neg c1, if_neg (by omega), if_neg (by omega), if_neg (by omega), hB, Bool.true_and]
    have gt : s.nodes[t.to.toNat]? = some s.nodes[t.to.toNat] := List.getElem?_eq_getElem (by omega)
    have gf : s.nodes[t.from_.toNat]? = some s.nodes[t.from_.toNat] := List.getElem?_eq_getElem (by omega)
    have it : getI s.nodes t.to = some s.nodes[t.to.toNat] := by unfold getI; rw [if_pos b1, gt]
    have jf : getI s.nodes t.from_ = some s.nodes[t.from_.toNat] := by unfold getI; rw [if_pos a1, gf]
    unfold tieFree
    simp only [gt, gf, it, jf]
    have hc : Cnt s.nodes[t.from_.toNat].label.length := (hs.node _ (List.getElem_mem _)).2
    rw [l08Same_eq _ _ hc, l08Free_eq s _ h1]
    cases hf : t.free
    · rfl
    · simp only [if_true, Bool.not_true, Bool.false_or]
      rw [hfree hf]
      by_cases d1 : 1 ≤ t.low
      · rw [if_pos d1]
        by_cases d2 : t.to = 0
        · rw [if_pos d2]; simp [d2]
        · have e1 : decide (1 ≤ t.low ∧ t.to ≠ 0) = true := decide_eq_true ⟨d1, d2⟩
          rw [if_neg d2, e1, Bool.true_and]
          by_cases d3 : s.nodes[t.to.toNat].watch = 0
          · rw [if_pos d3]
            by_cases d4 : s.nodes[t.to.toNat].label = s.nodes[t.from_.toNat].label
            · have e2 : decide (s.nodes[t.to.toNat].watch = 0 ∧ s.nodes[t.to.toNat].label = s.nodes[t.from_.toNat].label) = true := decide_eq_true ⟨d3, d4⟩
              rw [if_pos (decide_eq_true d4.symm), e2, Bool.true_and]
            · rw [if_neg (by rw [decide_eq_false (fun h => d4 h.symm)]; simp), decide_eq_false (fun h => d4 h.2)]; rfl
          · rw [if_neg d3, decide_eq_false (fun h => d3 h.1)]; rfl
      · rw [if_neg d1, decide_eq_false (fun h => d1 h.1)]; rfl
  · rw [Bool.not_eq_true] at hB
    rw [hB]
    unfold tieB at hB
    rw [decide_eq_false_iff_not] at hB
    simp only [Bool.false_and]
    by_cases a : 0 ≤ t.from_ ∧ t.from_ ≤ (s.nodes.length : Int) - 1
    · rw [if_pos (decide_eq_true a)]
      by_cases b : 0 ≤ t.to ∧ t.to ≤ (s.nodes.length : Int) - 1
      · rw [if_pos (decide_eq_true b)]
        by_cases c : t.from_ = t.to
        · rw [if_pos c]
        · rw [if_neg c]
          by_cases d : t.low < -20
          · rw [if_pos d]
          · rw [if_neg d]
            by_cases e : 20 < t.high
            · rw [if_pos e]
            · rw [if_neg e, if_pos (by omega)]
      · rw [if_neg (by rw [decide_eq_false b]; simp)]
    · rw [if_neg (by rw [decide_eq_false a]; simp)]

theorem ShowOk_spec (s : GShow) (hs : SmallS s) : m_spec_ShowOk s = some (showOk s) := by
  unfold m_spec_ShowOk showOk
  rw [l08Nodes_eq s hs]
  have h1 := hs.ties
  simp only [obnd, l01In_eq]
  cases hA : nodesA s
  · rfl
  · have hlen : 1 ≤ s.nodes.length := by
      unfold nodesA at hA
      simp only [Bool.and_eq_true, decide_eq_true_eq] at hA
      exact hA.1.1.1
    simp only [Bool.true_and]
    have key : loopO (m_spec_ShowOk_L1 ((s.ties.length : Nat) : Int) s.nodes s.ties s.horizon) ((0 : Nat) : Int) = some (if ∀ i, i < s.ties.length → tieP s i = true then .inl () else .inr false) := by
      have stp : ∀ i, i < s.ties.length → m_spec_ShowOk_L1 ((s.ties.length : Nat) : Int) s.nodes s.ties s.horizon ((i : Nat) : Int) = some (if tieP s i = true then .next ((i + 1 : Nat) : Int) else .done (.inr false)) := by
        intro i hi
        unfold m_spec_ShowOk_L1
        rw [if_pos (by omega), wr (x := (i : Int) + 1) (by omega) (by omega)]
        have := l08Tie_eq s hs i hi hlen
        simp only [this, obnd]
        cases tieP s i <;> rfl
      refine loopO_all s.ties.length (fun i => (i : Int)) (tieP s) ?_ ?_ ?_
      · intro i hi hp
        simp only [stp i hi, hp, if_true]
      · intro i hi hp
        simp only [stp i hi, hp]; rfl
      · unfold m_spec_ShowOk_L1
        rw [if_neg (by omega)]
    cases hW : allWatched s
    · simp
    · simp only [if_true, Bool.and_true]
      by_cases h14 : s.ties.length ≤ 14
      · rw [if_neg (by omega), decide_eq_true h14, Bool.and_true]
        by_cases hh : 1 ≤ s.horizon ∧ s.horizon ≤ 10
        · rw [if_pos (decide_eq_true hh), decide_eq_true hh, Bool.and_true, show (0 : Int) = ((0 : Nat) : Int) from rfl, key]
          by_cases hall : ∀ i, i < s.ties.length → tieP s i = true
          · rw [if_pos hall, decide_eq_true hall]
          · rw [if_neg hall, decide_eq_false hall]
        · rw [if_neg (by rw [decide_eq_false hh]; simp), decide_eq_false hh, Bool.and_false]
      · rw [if_pos (by omega), decide_eq_false h14, Bool.and_false]; rfl
end Go.Proofs.YtgmiaokdnpaglaaV
