/- Entries and logs: apply, ReplayLog, DeskOk. Own work. -/
import Derived.Test.YteijmljgodikiaaGreatZP27
import Derived.Test.YteijmljgodikiaaGreatZP24
set_option linter.all false
set_option linter.unusedVariables false
set_option linter.unusedSimpArgs false
set_option maxRecDepth 100000
namespace Go.Proofs.YteijmljgodikiaaGreatZ
open Go

def noState : GState := ⟨0, [], []⟩
def sgn (x : Int) : Int := if x < 0 then -1 else 1
def entryOk (s : GShow) (x : GState) (e : GEntry) : Prop := e.now = x.now ∧ e.ties ∈ endsL s x ∧ labelOk e.values = true ∧ e.nodes ∈ decL s (endX s x e.ties) ∧ e.values.map pr = propL s e.nodes
noncomputable instance (s : GShow) (x : GState) (e : GEntry) : Decidable (entryOk s x e) := Classical.propDecidable _
noncomputable def stepOf (s : GShow) (x : GState) (e : GEntry) : GState × Bool :=
  if entryOk s x e then (obsX (decX (endX s x e.ties) e.nodes) (propL s e.nodes) (e.values.map sgn), true) else (noState, false)

theorem pr_abs {x : Int} (h0 : x ≠ 0) (h1 : -3 ≤ x) (h2 : x ≤ 3) : (0 ≤ x → pr x = x) ∧ (x < 0 → pr x = 0 - x) ∧ Int.tdiv x (pr x) = sgn x ∧ IntKind.wrap .i64 (Int.tdiv x (pr x)) = sgn x := by
  have key : ∀ y : Int, y = -3 ∨ y = -2 ∨ y = -1 ∨ y = 1 ∨ y = 2 ∨ y = 3 → (0 ≤ y → pr y = y) ∧ (y < 0 → pr y = 0 - y) ∧ Int.tdiv y (pr y) = sgn y ∧ IntKind.wrap .i64 (Int.tdiv y (pr y)) = sgn y := by
    intro y hy
    rcases hy with rfl | rfl | rfl | rfl | rfl | rfl <;> decide
  exact key x (by omega)
theorem lab_vals {l : List Int} (h : labelOk l = true) {x : Int} (hx : x ∈ l) : x ≠ 0 ∧ -3 ≤ x ∧ x ≤ 3 ∧ 1 ≤ pr x ∧ pr x ≤ 3 := by
  obtain ⟨h1, h2, h3⟩ := pr_pos h hx
  have h4 := pr_three h2 h3
  refine ⟨?_, h2, h3, by omega, h4⟩
  rintro rfl
  have : pr 0 = 0 := rfl
  omega
theorem lab_len {l : List Int} (h : labelOk l = true) (hc : l.length ≤ 1048576) : l.length ≤ 3 := by
  have hasc : Asc (l.map pr) := by
    unfold Asc
    rw [List.pairwise_iff_getElem]
    intro i j hi hj hij
    rw [List.length_map] at hi hj
    simp only [List.getElem_map]
    have hl := h
    unfold labelOk at hl
    rw [decide_eq_true_eq] at hl
    have step : ∀ n (hn : n + 1 < l.length), pr (l[n]'(by omega)) < pr l[n + 1] := by
      intro n hn
      have := hl (n + 1) hn
      unfold labP at this
      rw [decide_eq_true_eq] at this
      have := this.2.2.2 (by omega)
      rw [List.getD_eq_getElem?_getD, List.getD_eq_getElem?_getD, show n + 1 - 1 = n by omega, List.getElem?_eq_getElem (by omega), List.getElem?_eq_getElem hn] at this
      exact this
    have mono : ∀ k, ∀ hk : i + k + 1 < l.length, pr (l[i]'(by omega)) < pr l[i + k + 1] := by
      intro k
      induction k with
      | zero => intro hk; exact step i hk
      | succ k ih =>
        intro hk
        have h1 := ih (by omega)
        have h2 := step (i + k + 1) hk
        show pr l[i] < pr l[i + k + 1 + 1]
        omega
    have := mono (j - i - 1) (by omega)
    have e : i + (j - i - 1) + 1 = j := by omega
    simp only [e] at this
    exact this
  have := nodup_len (r := [1, 2, 3]) hasc.nodup (fun y hy => by
    rw [List.mem_map] at hy
    obtain ⟨x, hx, rfl⟩ := hy
    obtain ⟨_, _, _, h1, h2⟩ := lab_vals h hx
    simp only [List.mem_cons, List.not_mem_nil, or_false]
    omega)
  simpa using this

theorem stateOk_val {s : GShow} {x : GState} (h : stateOk s x = true) : showOk s = true ∧ x.values.length = 3 ∧ x.times.length ≤ 7 := by
  have hR := stateOk_right h
  have hl := hR.len
  have h7 := hR.right.nodes
  unfold stateOk at h
  simp only [Bool.and_eq_true] at h
  exact ⟨h.1.1.1.1.1, (valuesOk_facts h.1.1.2).1, by omega⟩

theorem apply_impl {s : GShow} {x : GState} {e : GEntry} (hs : SmallS s) (hx : stateOk s x = true) (he : FitE e) : m_impl_apply s x e = some (stepOf s x e) := by
  obtain ⟨hok, hv3, ht7⟩ := stateOk_val hx
  have e1 := he.ties
  have e2 := he.nodes
  have e3 := he.values
  have hel := endsL_len hok (x := x)
  unfold m_impl_apply
  have no : ¬ entryOk s x e → some ((GState.mk 0 ([]) ([])), false) = some (stepOf s x e) := fun h => by unfold stepOf; rw [if_neg h]; rfl
  by_cases h1 : e.now = x.now
  · rw [if_pos h1, endings_eq hx]
    simp only [obnd]
    rw [has_impl _ _ (by unfold Cnt; omega) (by unfold Cnt; omega)]
    simp only
    by_cases h2 : e.ties ∈ endsL s x
    · rw [if_pos (decide_eq_true h2), LabelOk_impl _ (by unfold Cnt; omega)]
      simp only
      obtain ⟨a1, a2, a3⟩ := ends_act hok h2
      have hm := mom_right (endX_mom hx a1 a3)
      by_cases h3 : labelOk e.values = true
      · rw [if_pos h3, ended_eq hx (by omega) (by omega) a3]
        simp only
        rw [decisions_eq hs hm]
        simp only
        have hdl := decL_len hm.right (endX s x e.ties)
        rw [has_impl _ _ (by unfold Cnt; omega) (by unfold Cnt; omega)]
        simp only
        by_cases h4 : e.nodes ∈ decL s (endX s x e.ties)
        · rw [if_pos (decide_eq_true h4)]
          obtain ⟨b1, b2, b3⟩ := dec_facts hm.right h4
          rw [decided_eq hm b1 b2 b3]
          simp only
          have hl3 := lab_len h3 e3
          have key : loopO (m_impl_apply_L1 e.values ((e.values.length : Nat) : Int) (decX (endX s x e.ties) e.nodes).now (decX (endX s x e.ties) e.nodes).times (decX (endX s x e.ties) e.nodes).values (propL s e.nodes)) (((0 : Nat) : Int), (e.values.take 0).map pr, (e.values.take 0).map sgn) = some (e.values.map pr, e.values.map sgn) := by
            refine loopO_to e.values.length (fun i => ((i : Int), (e.values.take i).map pr, (e.values.take i).map sgn)) ?_ ?_
            · intro i hi
              obtain ⟨v1, v2, v3, v4, v5⟩ := lab_vals h3 (List.getElem_mem hi)
              obtain ⟨_, _, _, w4⟩ := pr_abs v1 v2 v3
              unfold m_impl_apply_L1
              simp only
              rw [if_pos (by omega), getI_lt hi]
              simp only [obnd]
              rw [propOf_eq]
              simp only
              rw [chk_pos (by rw [List.length_map, List.length_take]; omega), chk_pos (by rw [List.length_map, List.length_take]; omega), chk_pos (by omega), chk_pos (by rw [List.length_map, List.length_take]; omega), chk_pos (by rw [List.length_map, List.length_take]; omega), wr (x := (i : Int) + 1) (by omega) (by omega), w4, List.take_succ_eq_append_getElem hi, List.map_append, List.map_append]; rfl
            · unfold m_impl_apply_L1
              simp only
              rw [if_neg (by omega), List.take_length]
          simp only [List.take_zero, List.map_nil, Int.natCast_zero] at key
          rw [key]
          simp only
          rw [Equal_int _ _ (by unfold Cnt; rw [List.length_map]; omega)]
          simp only
          by_cases h5 : e.values.map pr = propL s e.nodes
          · rw [if_pos (decide_eq_true h5)]
            have hnow := hm.now
            have hh := hm.right.hor
            have hpl := propL_len s e.nodes
            have hn : 0 ≤ (decX (endX s x e.ties) e.nodes).now ∧ (decX (endX s x e.ties) e.nodes).now ≤ 1000 := by
              show 0 ≤ (endX s x e.ties).now ∧ (endX s x e.ties).now ≤ 1000
              omega
            have hobs := (observed_eq (decX (endX s x e.ties) e.nodes) (propL s e.nodes) (e.values.map sgn) hn (by show (setAll _ _ _ (setAll _ _ _ _)).length ≤ _; rw [setAll_len, setAll_len]; omega) hv3 (fun p hp => ⟨(propL_mem hp).1, (propL_mem hp).2.1⟩) (by rw [← h5, List.length_map, List.length_map]) (by omega)).1
            rw [hobs]
            simp only
            unfold stepOf
            rw [if_pos ⟨h1, h2, h3, h4, h5⟩]
          · rw [if_neg (by rw [decide_eq_false h5]; simp)]
            exact no (fun h => h5 h.2.2.2.2)
        · rw [if_neg (by rw [decide_eq_false h4]; simp)]
          exact no (fun h => h4 h.2.2.2.1)
      · rw [if_neg h3]
        exact no (fun h => h3 h.2.2.1)
    · rw [if_neg (by rw [decide_eq_false h2]; simp)]
      exact no (fun h => h2 h.2.1)
  · rw [if_neg h1]
    exact no (fun h => h1 h.1)

theorem apply_spec {s : GShow} {x : GState} {e : GEntry} (hs : SmallS s) (hx : stateOk s x = true) (he : FitE e) : m_spec_l22Apply s x e = some (stepOf s x e) := by
  obtain ⟨hok, hv3, ht7⟩ := stateOk_val hx
  have e1 := he.ties
  have e2 := he.nodes
  have e3 := he.values
  have hel := endsL_len hok (x := x)
  unfold m_spec_l22Apply m_spec_AfterEndings
  have no : ¬ entryOk s x e → some ((GState.mk 0 ([]) ([])), false) = some (stepOf s x e) := fun h => by unfold stepOf; rw [if_neg h]; rfl
  rw [EndingsOf_eq hs hx (by omega) (by omega)]
  simp only [obnd]
  rw [l14In_eq _ _ (by unfold Cnt; omega) (fun y hy => by obtain ⟨_, h2, _⟩ := ends_act hok hy; unfold Cnt; omega)]
  simp only
  by_cases h2 : e.ties ∈ endsL s x
  · rw [if_pos (decide_eq_true h2)]
    obtain ⟨a1, a2, a3⟩ := ends_act hok h2
    have hm := mom_right (endX_mom hx a1 a3)
    rw [l14End_eq hx (by omega) (by omega) a3]
    simp only [if_true]
    by_cases h1 : e.now = x.now
    · rw [if_pos h1, LabelOk_spec _ (by unfold Cnt; omega)]
      simp only
      by_cases h3 : labelOk e.values = true
      · rw [if_pos h3]
        unfold m_spec_AfterDecision
        rw [DecisionsOf_eq hs hm]
        simp only [obnd]
        have hdl := decL_len hm.right (endX s x e.ties)
        rw [l14In_eq _ _ (by unfold Cnt; omega) (fun y hy => by obtain ⟨_, h2, _⟩ := dec_facts hm.right hy; unfold Cnt; omega)]
        simp only
        by_cases h4 : e.nodes ∈ decL s (endX s x e.ties)
        · rw [if_pos (decide_eq_true h4)]
          obtain ⟨b1, b2, b3⟩ := dec_facts hm.right h4
          rw [l14Decide_eq hs hm b2 b3]
          simp only [if_true]
          have hl3 := lab_len h3 e3
          have hpl := propL_len s e.nodes
          by_cases h6 : ((propL s e.nodes).length : Int) = (e.values.length : Int)
          · rw [if_pos h6]
            have key : loopO (m_spec_l22Apply_L1 (((propL s e.nodes).length : Nat) : Int) e.now e.ties e.nodes e.values (decX (endX s x e.ties) e.nodes).now (decX (endX s x e.ties) e.nodes).times (decX (endX s x e.ties) e.nodes).values (propL s e.nodes)) (((0 : Nat) : Int), (e.values.take 0).map sgn) = some (if ∀ i, i < e.values.length → decide (pr (e.values.getD i 0) = (propL s e.nodes).getD i 0) = true then .inl (e.values.map sgn) else .inr ((GState.mk 0 ([]) ([])), false)) := by
              refine loopO_all e.values.length (fun i => ((i : Int), (e.values.take i).map sgn)) (fun i => decide (pr (e.values.getD i 0) = (propL s e.nodes).getD i 0)) ?_ ?_ ?_
              · intro i hi hp
                rw [decide_eq_true_eq] at hp
                obtain ⟨v1, v2, v3, v4, v5⟩ := lab_vals h3 (List.getElem_mem hi)
                obtain ⟨w1, w2, w3, w4⟩ := pr_abs v1 v2 v3
                have ed : e.values.getD i 0 = e.values[i] := by rw [List.getD_eq_getElem?_getD, List.getElem?_eq_getElem hi]; rfl
                rw [ed] at hp
                unfold m_spec_l22Apply_L1
                simp only
                rw [if_pos (by omega), getI_D (show i < (propL s e.nodes).length by omega), getI_lt hi]
                simp only [obnd]
                rw [← hp, chk_pos (by rw [List.length_map, List.length_take]; omega), chk_pos (by rw [List.length_map, List.length_take]; omega), wr (x := (i : Int) + 1) (by omega) (by omega), wr (x := 0 - pr e.values[i]) (by omega) (by omega), List.take_succ_eq_append_getElem hi, List.map_append]
                by_cases hneg : e.values[i] < 0
                · have := w2 hneg
                  rw [if_pos (by omega)]
                  have es : sgn e.values[i] = -1 := by unfold sgn; rw [if_pos hneg]
                  simp only [List.map_cons, List.map_nil, es]; rfl
                · have := w1 (by omega)
                  rw [if_neg (by omega), if_pos (by omega), chk_pos (by rw [List.length_map, List.length_take]; omega), chk_pos (by rw [List.length_map, List.length_take]; omega)]
                  have es : sgn e.values[i] = 1 := by unfold sgn; rw [if_neg hneg]
                  simp only [List.map_cons, List.map_nil, es]; rfl
              · intro i hi hp
                rw [decide_eq_false_iff_not] at hp
                obtain ⟨v1, v2, v3, v4, v5⟩ := lab_vals h3 (List.getElem_mem hi)
                obtain ⟨w1, w2, w3, w4⟩ := pr_abs v1 v2 v3
                have ed : e.values.getD i 0 = e.values[i] := by rw [List.getD_eq_getElem?_getD, List.getElem?_eq_getElem hi]; rfl
                rw [ed] at hp
                have hpm := propL_mem (s := s) (nodes := e.nodes) (p := (propL s e.nodes).getD i 0) (by rw [List.getD_eq_getElem?_getD, List.getElem?_eq_getElem (show i < (propL s e.nodes).length by omega)]; exact List.getElem_mem _)
                unfold m_spec_l22Apply_L1
                simp only
                rw [if_pos (by omega), getI_D (show i < (propL s e.nodes).length by omega), getI_lt hi]
                simp only [obnd]
                rw [wr (x := 0 - (propL s e.nodes).getD i 0) (by omega) (by omega)]
                by_cases hneg : e.values[i] < 0
                · have := w2 hneg
                  rw [if_neg (by omega), if_neg (by omega)]
                · have := w1 (by omega)
                  rw [if_neg (by omega), if_neg (by omega)]
              · unfold m_spec_l22Apply_L1
                simp only
                rw [if_neg (by omega), List.take_length]
            simp only [List.take_zero, List.map_nil, Int.natCast_zero] at key
            rw [key]
            have heq : (∀ i, i < e.values.length → decide (pr (e.values.getD i 0) = (propL s e.nodes).getD i 0) = true) ↔ e.values.map pr = propL s e.nodes := by
              constructor
              · intro h
                refine List.ext_getElem (by rw [List.length_map]; omega) ?_
                intro i hi1 hi2
                rw [List.length_map] at hi1
                have := h i hi1
                rw [decide_eq_true_eq, List.getD_eq_getElem?_getD, List.getElem?_eq_getElem hi1, List.getD_eq_getElem?_getD, List.getElem?_eq_getElem hi2] at this
                simpa using this
              · intro h i hi
                rw [decide_eq_true_eq, ← h, List.getD_eq_getElem?_getD, List.getD_eq_getElem?_getD, List.getElem?_map, List.getElem?_eq_getElem hi]; rfl
            by_cases h5 : e.values.map pr = propL s e.nodes
            · rw [if_pos (heq.2 h5)]
              simp only
              have hnow := hm.now
              have hh := hm.right.hor
              have hn : 0 ≤ (decX (endX s x e.ties) e.nodes).now ∧ (decX (endX s x e.ties) e.nodes).now ≤ 1000 := by
                show 0 ≤ (endX s x e.ties).now ∧ (endX s x e.ties).now ≤ 1000
                omega
              have hobs := (observed_eq (decX (endX s x e.ties) e.nodes) (propL s e.nodes) (e.values.map sgn) hn (by show (setAll _ _ _ (setAll _ _ _ _)).length ≤ _; rw [setAll_len, setAll_len]; omega) hv3 (fun p hp => ⟨(propL_mem hp).1, (propL_mem hp).2.1⟩) (by rw [← h5, List.length_map, List.length_map]) (by omega)).2
              rw [hobs]
              simp only
              unfold stepOf
              rw [if_pos ⟨h1, h2, h3, h4, h5⟩]
            · rw [if_neg (fun h => h5 (heq.1 h))]
              exact no (fun h => h5 h.2.2.2.2)
          · rw [if_neg h6]
            exact no (fun h => h6 (by rw [← h.2.2.2.2, List.length_map]))
        · rw [if_neg (by rw [decide_eq_false h4]; simp)]
          simp only
          rw [if_neg (by simp)]
          exact no (fun h => h4 h.2.2.2.1)
      · rw [if_neg h3]
        exact no (fun h => h3 h.2.2.1)
    · rw [if_neg h1]
      exact no (fun h => h1 h.1)
  · rw [if_neg (by rw [decide_eq_false h2]; simp)]
    simp only
    rw [if_neg (by simp)]
    exact no (fun h => h2 h.2.1)

theorem step_ok {s : GShow} {x : GState} {e : GEntry} (hx : stateOk s x = true) (h : (stepOf s x e).2 = true) : stateOk s (stepOf s x e).1 = true := by
  obtain ⟨hok, hv3, ht7⟩ := stateOk_val hx
  unfold stepOf at h ⊢
  by_cases he : entryOk s x e
  · rw [if_pos he]
    obtain ⟨h1, h2, h3, h4, h5⟩ := he
    obtain ⟨a1, a2, a3⟩ := ends_act hok h2
    have hm := mom_right (endX_mom hx a1 a3)
    obtain ⟨b1, b2, b3⟩ := dec_facts hm.right h4
    refine obs_ok hm b3 (by rw [← h5, List.length_map, List.length_map]) ?_
    intro v hv
    rw [List.mem_map] at hv
    obtain ⟨y, _, rfl⟩ := hv
    unfold sgn
    split
    · exact .inr rfl
    · exact .inl rfl
  · rw [if_neg he] at h; cases h

/-! ### A log -/
noncomputable def replayFrom (s : GShow) : GState → List GEntry → GState × Bool
  | x, [] => (x, true)
  | x, e :: r => if (stepOf s x e).2 = true then replayFrom s (stepOf s x e).1 r else (noState, false)
noncomputable def replayOf (s : GShow) (log : List GEntry) : GState × Bool := if showOk s = true then replayFrom s (startOf s) log else (noState, false)

theorem replay_ok {s : GShow} : ∀ (log : List GEntry) (x : GState), stateOk s x = true → (replayFrom s x log).2 = true → stateOk s (replayFrom s x log).1 = true
  | [], x, hx, _ => hx
  | e :: r, x, hx, h => by
    unfold replayFrom at h ⊢
    by_cases he : (stepOf s x e).2 = true
    · rw [if_pos he] at h ⊢
      exact replay_ok r _ (step_ok hx he) h
    · rw [if_neg he] at h; cases h
theorem replay_no {s : GShow} : ∀ (log : List GEntry) (x : GState), (replayFrom s x log).2 = false → replayFrom s x log = (noState, false)
  | [], x, h => by cases h
  | e :: r, x, h => by
    unfold replayFrom at h ⊢
    by_cases he : (stepOf s x e).2 = true
    · rw [if_pos he] at h ⊢
      exact replay_no r _ h
    · rw [if_neg he]

theorem start_ok {s : GShow} (h : showOk s = true) : stateOk s (startOf s) = true := by
  have hR := showOk_right h
  have h1 := hR.node1
  have hh := hR.hor
  have hl : (startOf s).times.length = s.nodes.length := stL_len _
  have htm : ∀ i : Nat, i < s.nodes.length → tm (startOf s).times (i : Int) = if i = 0 then 0 else -1 := by
    have key : ∀ n i : Nat, i < n → (stL n)[i]? = some (if i = 0 then 0 else -1) := by
      intro n
      induction n with
      | zero => intro i hi; omega
      | succ n ih =>
        intro i hi
        cases n with
        | zero => obtain rfl : i = 0 := by omega
                  rfl
        | succ n =>
          rw [stL_succ]
          by_cases hlt : i < n + 1
          · rw [List.getElem?_append_left (by rw [stL_len]; exact hlt)]
            exact ih i hlt
          · obtain rfl : i = n + 1 := by omega
            rw [List.getElem?_append_right (by rw [stL_len]; exact Nat.le_refl _), stL_len, Nat.sub_self, if_neg (by omega)]; rfl
    intro i hi
    unfold tm
    rw [Int.toNat_natCast, show (startOf s).times = stL s.nodes.length from rfl, key _ i hi]; rfl
  unfold stateOk
  simp only [Bool.and_eq_true, decide_eq_true_eq]
  refine ⟨⟨⟨⟨⟨h, ?_⟩, hl⟩, ?_⟩, ?_⟩, ?_⟩
  · show 0 ≤ (0 : Int) ∧ (0 : Int) ≤ s.horizon + 1; omega
  · show valuesOk [0, 0, 0] = true; decide
  · intro i hi
    unfold timeP
    have e := htm i (by omega)
    by_cases h0 : i = 0
    · subst h0
      rw [if_pos rfl]
      rw [if_pos rfl] at e
      exact decide_eq_true e
    · rw [if_neg h0]
      rw [if_neg h0] at e
      rw [e]
      exact decide_eq_true ⟨by omega, by show (-1 : Int) ≤ 0 - 1; omega⟩
  · intro i hi
    unfold watchP
    have ev : tm (startOf s).values (i : Int) = 0 := by
      unfold nProps at hi
      have : i = 0 ∨ i = 1 ∨ i = 2 := by omega
      rcases this with rfl | rfl | rfl <;> rfl
    rw [ev]
    by_cases hw : 0 ≤ firstI s.nodes (fun n => decide (n.watch = (i : Int) + 1))
    · obtain ⟨j, hj, e, hq, _⟩ := firstI_lt hw
      have hj0 : j ≠ 0 := by
        rintro rfl
        have hf := h
        unfold showOk nodesA at hf
        simp only [Bool.and_eq_true] at hf
        have hf := hf.1.1.1.1.1.2
        unfold firstOk at hf
        rw [List.getElem?_eq_getElem hj] at hf
        simp only [Option.any_some, Bool.and_eq_true, decide_eq_true_eq] at hf
        have := of_decide_eq_true hq
        omega
      rw [e, htm j hj, if_neg hj0]
      simp
    · rw [decide_eq_false hw]; simp

theorem replay_loop {s : GShow} (log : List GEntry) (hl : log.length ≤ 1048576) (body : (Int × Int × (List Int) × (List Int)) → Option (Step (Int × Int × (List Int) × (List Int)) (Sum (Int × (List Int) × (List Int)) (GState × Bool))))
    (h1 : ∀ (i : Nat) (hi : i < log.length) (x : GState), stateOk s x = true → body ((i : Int), x.now, x.times, x.values) = (if (stepOf s x log[i]).2 = true then some (.next (((i + 1 : Nat) : Int), (stepOf s x log[i]).1.now, (stepOf s x log[i]).1.times, (stepOf s x log[i]).1.values)) else some (.done (.inr (noState, false)))))
    (h2 : ∀ x : GState, body ((log.length : Nat), x.now, x.times, x.values) = some (.done (.inl (x.now, x.times, x.values)))) :
    ∀ (n i : Nat), i + n = log.length → ∀ x, stateOk s x = true → loopO body ((i : Int), x.now, x.times, x.values) = some (if (replayFrom s x (log.drop i)).2 = true then .inl ((replayFrom s x (log.drop i)).1.now, (replayFrom s x (log.drop i)).1.times, (replayFrom s x (log.drop i)).1.values) else .inr (noState, false)) := by
  intro n
  induction n with
  | zero =>
    intro i hi x hx
    obtain rfl : i = log.length := by omega
    rw [loopO_eq, h2, List.drop_length]
    rfl
  | succ n ih =>
    intro i hi x hx
    have hi' : i < log.length := by omega
    rw [loopO_eq, h1 i hi' x hx, List.drop_eq_getElem_cons hi']
    by_cases he : (stepOf s x log[i]).2 = true
    · rw [if_pos he]
      simp only
      rw [ih (i + 1) (by omega) _ (step_ok hx he)]
      simp only [replayFrom, if_pos he]
    · rw [if_neg he]
      simp only [replayFrom, if_neg he]
      rfl

theorem ReplayLog_impl (s : GShow) (log : List GEntry) (hf : FitS s) (hl : log.length ≤ 1048576) (he : ∀ e, e ∈ log → FitE e) : m_impl_ReplayLog s log = some (replayOf s log) := by
  have hs := hf.small
  unfold m_impl_ReplayLog replayOf
  rw [ShowOk_impl s hs]
  simp only [obnd]
  by_cases hok : showOk s = true
  · rw [if_pos hok, if_pos hok, StartState_impl s hs hok]
    simp only
    have hst := start_ok hok
    have key := replay_loop (s := s) log hl (m_impl_ReplayLog_L1 log ((log.length : Nat) : Int) s.nodes s.ties s.horizon) ?_ ?_ log.length 0 (by omega) (startOf s) hst
    · rw [List.drop_zero] at key
      rw [show (0 : Int) = ((0 : Nat) : Int) from rfl, key]
      cases h2 : (replayFrom s (startOf s) log).2
      · rw [if_neg (by simp)]
        simp only
        rw [replay_no _ _ h2]
      · rw [if_pos rfl]
        simp only
        generalize hr : replayFrom s (startOf s) log = q at h2
        obtain ⟨y, b⟩ := q
        simp only at h2
        subst h2
        rfl
    · intro i hi x hx
      unfold m_impl_ReplayLog_L1
      simp only
      rw [if_pos (by omega), getI_lt hi, wr (x := (i : Int) + 1) (by omega) (by omega)]
      simp only [obnd]
      rw [show (GShow.mk s.nodes s.ties s.horizon) = s from rfl, show (GState.mk x.now x.times x.values) = x from rfl, apply_impl hs hx (he _ (List.getElem_mem hi))]
      rfl
    · intro x
      unfold m_impl_ReplayLog_L1
      simp only
      rw [if_neg (by omega)]
  · rw [if_neg hok, if_neg hok]; rfl

theorem l22Replay_eq (s : GShow) (log : List GEntry) (hf : FitS s) (hl : log.length ≤ 1048576) (he : ∀ e, e ∈ log → FitE e) (hok : showOk s = true) : m_spec_l22Replay s log = some (replayOf s log) := by
  have hs := hf.small
  unfold m_spec_l22Replay replayOf
  rw [StartState_spec s hs hok]
  simp only [obnd]
  have hst := start_ok hok
  have key := replay_loop (s := s) log hl (m_spec_l22Replay_L1 log ((log.length : Nat) : Int) s.nodes s.ties s.horizon) ?_ ?_ log.length 0 (by omega) (startOf s) hst
  · rw [List.drop_zero] at key
    rw [show (0 : Int) = ((0 : Nat) : Int) from rfl, key, if_pos hok]
    cases h2 : (replayFrom s (startOf s) log).2
    · rw [if_neg (by simp)]
      simp only
      rw [replay_no _ _ h2]
    · rw [if_pos rfl]
      simp only
      rw [ShowOk_spec s hs, hok]
      simp only
      generalize hr : replayFrom s (startOf s) log = q at h2
      obtain ⟨y, b⟩ := q
      simp only at h2
      subst h2
      rfl
  · intro i hi x hx
    unfold m_spec_l22Replay_L1
    simp only
    rw [if_pos (by omega), getI_lt hi, wr (x := (i : Int) + 1) (by omega) (by omega)]
    simp only [obnd]
    rw [show (GShow.mk s.nodes s.ties s.horizon) = s from rfl, show (GState.mk x.now x.times x.values) = x from rfl, apply_spec hs hx (he _ (List.getElem_mem hi))]
    rfl
  · intro x
    unfold m_spec_l22Replay_L1
    simp only
    rw [if_neg (by omega)]
end Go.Proofs.YteijmljgodikiaaGreatZ
