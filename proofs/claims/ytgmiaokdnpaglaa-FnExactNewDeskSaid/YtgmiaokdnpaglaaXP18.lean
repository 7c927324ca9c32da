/- Desks: SameDesks. Own work. -/
import Derived.Test.YtgmiaokdnpaglaaXP14
set_option linter.all false
set_option linter.unusedVariables false
set_option linter.unusedSimpArgs false
namespace Go.Proofs.YtgmiaokdnpaglaaX
open Go

/-! ### Lists that are the same -/
section
variable {α : Type} [DecidableEq α] {σ ρ : Type} {body : σ → Option (Step σ ρ)}
theorem loopO_same (xs ys : List α) (hl : xs.length = ys.length) (S : Nat → σ) {rT rF : ρ} (h1 : ∀ i (h : i < xs.length) (h' : i < ys.length), xs[i] = ys[i] → body (S i) = some (.next (S (i + 1))))
    (h2 : ∀ i (h : i < xs.length) (h' : i < ys.length), ¬ xs[i] = ys[i] → body (S i) = some (.done rF)) (h3 : body (S xs.length) = some (.done rT)) : loopO body (S 0) = some (if xs = ys then rT else rF) := by
  have key := loopO_all (body := body) xs.length S (fun i => decide (xs[i]? = ys[i]?)) (rT := rT) (rF := rF) ?_ ?_ h3
  · rw [key]
    by_cases he : xs = ys
    · rw [if_pos he, if_pos (by intro i _; rw [he]; simp)]
    · rw [if_neg he, if_neg]
      intro hall
      apply he
      apply List.ext_getElem hl
      intro i h h'
      have := of_decide_eq_true (hall i h)
      rw [List.getElem?_eq_getElem h, List.getElem?_eq_getElem h'] at this
      exact Option.some.inj this
  · intro i h hp
    have h' : i < ys.length := by omega
    have := of_decide_eq_true hp
    rw [List.getElem?_eq_getElem h, List.getElem?_eq_getElem h'] at this
    exact h1 i h h' (Option.some.inj this)
  · intro i h hp
    have h' : i < ys.length := by omega
    have := of_decide_eq_false hp
    rw [List.getElem?_eq_getElem h, List.getElem?_eq_getElem h'] at this
    exact h2 i h h' (fun he => this (by rw [he]))
end
theorem nodeEq (a b : GNode) : (a = b) ↔ (a.name = b.name ∧ a.label = b.label ∧ a.watch = b.watch) := by cases a; cases b; simp
theorem tieEq (a b : GTie) : (a = b) ↔ (a.from_ = b.from_ ∧ a.to = b.to ∧ a.low = b.low ∧ a.high = b.high ∧ a.free = b.free) := by cases a; cases b; simp
theorem showEq (a b : GShow) : (a = b) ↔ (a.nodes = b.nodes ∧ a.ties = b.ties ∧ a.horizon = b.horizon) := by cases a; cases b; simp
theorem stateEq (a b : GState) : (a = b) ↔ (a.now = b.now ∧ a.times = b.times ∧ a.values = b.values) := by cases a; cases b; simp
theorem entryEq (a b : GEntry) : (a = b) ↔ (a.now = b.now ∧ a.ties = b.ties ∧ a.nodes = b.nodes ∧ a.values = b.values) := by cases a; cases b; simp
theorem deskEq (a b : GDesk) : (a = b) ↔ (a.show_ = b.show_ ∧ a.state = b.state ∧ a.lazy = b.lazy ∧ a.log = b.log) := by cases a; cases b; simp

/-! ### What fits -/
structure FitE (e : GEntry) : Prop where
  ties : e.ties.length ≤ 1048576
  nodes : e.nodes.length ≤ 1048576
  values : e.values.length ≤ 1048576
structure FitD (d : GDesk) : Prop where
  sh : FitS d.show_
  st : FitX d.state
  log : d.log.length ≤ 1048576
  entry : ∀ e, e ∈ d.log → FitE e
structure BdE (e : GEntry) : Prop where
  ties : e.ties.length ≤ maxLen
  nodes : e.nodes.length ≤ maxLen
  values : e.values.length ≤ maxLen
structure BdD (d : GDesk) : Prop where
  sh : BdS d.show_
  st : BdX d.state
  log : d.log.length ≤ maxLen
  entry : ∀ e, e ∈ d.log → BdE e

/-! ### The program's and the reference's tests -/
theorem sameNodes_eq (a b : GNode) (ha : FitN a) : m_impl_sameNodes a b = some (decide (a = b)) := by
  have h1 : Cnt a.label.length := by have := ha.label; unfold Cnt; omega
  unfold m_impl_sameNodes
  rw [Equal_int _ _ h1]
  simp only [obnd, nodeEq]
  by_cases h : a.name = b.name <;> by_cases h' : a.label = b.label <;> by_cases h'' : a.watch = b.watch <;> simp [h, h', h'']
theorem sameEntries_eq (a b : GEntry) (ha : FitE a) : m_impl_sameEntries a b = some (decide (a = b)) := by
  have h1 : Cnt a.ties.length := by have := ha.ties; unfold Cnt; omega
  have h2 : Cnt a.nodes.length := by have := ha.nodes; unfold Cnt; omega
  have h3 : Cnt a.values.length := by have := ha.values; unfold Cnt; omega
  unfold m_impl_sameEntries
  rw [Equal_int _ _ h1, Equal_int _ _ h2, Equal_int _ _ h3]
  simp only [obnd, entryEq]
  by_cases h : a.now = b.now <;> by_cases h' : a.ties = b.ties <;> by_cases h'' : a.nodes = b.nodes <;> by_cases h3 : a.values = b.values <;> simp [h, h', h'', h3]
theorem l25Same_eq (a b : GEntry) (ha : FitE a) : m_spec_l25Same a b = some (decide (a = b)) := by
  have h1 : Cnt a.ties.length := by have := ha.ties; unfold Cnt; omega
  have h2 : Cnt a.nodes.length := by have := ha.nodes; unfold Cnt; omega
  have h3 : Cnt a.values.length := by have := ha.values; unfold Cnt; omega
  unfold m_spec_l25Same
  rw [l08Same_eq _ _ h1, l08Same_eq _ _ h2, l08Same_eq _ _ h3]
  simp only [obnd, entryEq]
  by_cases h : a.now = b.now <;> by_cases h' : a.ties = b.ties <;> by_cases h'' : a.nodes = b.nodes <;> by_cases h3 : a.values = b.values <;> simp [h, h', h'', h3]
theorem EqualFunc_Node_eq (a b : List GNode) (ha : a.length ≤ 1048576) (hn : ∀ n, n ∈ a → FitN n) : m_slices_EqualFunc_Node a b (fun x y => m_impl_sameNodes x y) = some (decide (a = b)) := by
  unfold m_slices_EqualFunc_Node
  by_cases hl : a.length = b.length
  · rw [if_pos (by omega)]
    have key : loopO (m_slices_EqualFunc_Node_L1 b (fun x y => m_impl_sameNodes x y) a ((a.length : Nat) : Int)) ((0 : Nat) : Int) = some (if a = b then .inl () else .inr false) := by
      refine loopO_same a b hl (fun i => (i : Int)) ?_ ?_ ?_
      · intro i h h' he
        unfold m_slices_EqualFunc_Node_L1
        rw [if_pos (by omega), getI_lt h, getI_lt h', wr (x := (i : Int) + 1) (by omega) (by omega)]
        simp only [obnd, sameNodes_eq _ _ (hn _ (List.getElem_mem h))]
        rw [if_pos (decide_eq_true he)]; rfl
      · intro i h h' he
        unfold m_slices_EqualFunc_Node_L1
        rw [if_pos (by omega), getI_lt h, getI_lt h']
        simp only [obnd, sameNodes_eq _ _ (hn _ (List.getElem_mem h))]
        rw [if_neg (by rw [decide_eq_false he]; simp)]
      · unfold m_slices_EqualFunc_Node_L1
        rw [if_neg (by omega)]
    rw [show (0 : Int) = ((0 : Nat) : Int) from rfl, key]
    by_cases he : a = b
    · rw [if_pos he, decide_eq_true he]; rfl
    · rw [if_neg he, decide_eq_false he]; rfl
  · rw [if_neg (by omega), decide_eq_false (fun h => hl (by rw [h]))]
theorem EqualFunc_Entry_eq (a b : List GEntry) (ha : a.length ≤ 1048576) (hn : ∀ n, n ∈ a → FitE n) : m_slices_EqualFunc_Entry a b (fun x y => m_impl_sameEntries x y) = some (decide (a = b)) := by
  unfold m_slices_EqualFunc_Entry
  by_cases hl : a.length = b.length
  · rw [if_pos (by omega)]
    have key : loopO (m_slices_EqualFunc_Entry_L1 b (fun x y => m_impl_sameEntries x y) a ((a.length : Nat) : Int)) ((0 : Nat) : Int) = some (if a = b then .inl () else .inr false) := by
      refine loopO_same a b hl (fun i => (i : Int)) ?_ ?_ ?_
      · intro i h h' he
        unfold m_slices_EqualFunc_Entry_L1
        rw [if_pos (by omega), getI_lt h, getI_lt h', wr (x := (i : Int) + 1) (by omega) (by omega)]
        simp only [obnd, sameEntries_eq _ _ (hn _ (List.getElem_mem h))]
        rw [if_pos (decide_eq_true he)]; rfl
      · intro i h h' he
        unfold m_slices_EqualFunc_Entry_L1
        rw [if_pos (by omega), getI_lt h, getI_lt h']
        simp only [obnd, sameEntries_eq _ _ (hn _ (List.getElem_mem h))]
        rw [if_neg (by rw [decide_eq_false he]; simp)]
      · unfold m_slices_EqualFunc_Entry_L1
        rw [if_neg (by omega)]
    rw [show (0 : Int) = ((0 : Nat) : Int) from rfl, key]
    by_cases he : a = b
    · rw [if_pos he, decide_eq_true he]; rfl
    · rw [if_neg he, decide_eq_false he]; rfl
  · rw [if_neg (by omega), decide_eq_false (fun h => hl (by rw [h]))]
theorem tieB_iff (x y : GTie) : ((decide (x.from_ = y.from_) && (decide (x.to = y.to) && (decide (x.low = y.low) && (decide (x.high = y.high) && (decide (x.free = y.free)))))) = true) ↔ x = y := by
  rw [tieEq]; simp [and_assoc]
theorem Equal_Tie_eq (a b : List GTie) (ha : a.length ≤ 1048576) : m_slices_Equal_Tie a b = some (decide (a = b)) := by
  unfold m_slices_Equal_Tie
  by_cases hl : a.length = b.length
  · rw [if_pos (by omega)]
    have key : loopO (m_slices_Equal_Tie_L1 a b ((a.length : Nat) : Int)) ((0 : Nat) : Int) = some (if a = b then .inl () else .inr false) := by
      refine loopO_same a b hl (fun i => (i : Int)) ?_ ?_ ?_
      · intro i h h' he
        unfold m_slices_Equal_Tie_L1
        rw [if_pos (by omega), getI_lt h, getI_lt h', wr (x := (i : Int) + 1) (by omega) (by omega)]
        simp only [obnd]
        rw [if_pos ((tieB_iff _ _).2 he)]; rfl
      · intro i h h' he
        unfold m_slices_Equal_Tie_L1
        rw [if_pos (by omega), getI_lt h, getI_lt h']
        simp only [obnd]
        rw [if_neg (fun hh => he ((tieB_iff _ _).1 hh))]
      · unfold m_slices_Equal_Tie_L1
        rw [if_neg (by omega)]
    rw [show (0 : Int) = ((0 : Nat) : Int) from rfl, key]
    by_cases he : a = b
    · rw [if_pos he, decide_eq_true he]; rfl
    · rw [if_neg he, decide_eq_false he]; rfl
  · rw [if_neg (by omega), decide_eq_false (fun h => hl (by rw [h]))]
theorem SameShows_impl (a b : GShow) (ha : FitS a) : m_impl_SameShows a b = some (decide (a = b)) := by
  unfold m_impl_SameShows
  rw [EqualFunc_Node_eq _ _ ha.nodes ha.node, Equal_Tie_eq _ _ ha.ties]
  simp only [obnd, showEq]
  by_cases h : a.nodes = b.nodes <;> by_cases h' : a.ties = b.ties <;> by_cases h'' : a.horizon = b.horizon <;> simp [h, h', h'']
theorem SameShows_spec (a b : GShow) (ha : FitS a) : m_spec_SameShows a b = some (decide (a = b)) := by
  have hn1 := ha.nodes
  have ht1 := ha.ties
  unfold m_spec_SameShows
  by_cases hl : a.nodes.length = b.nodes.length
  · rw [if_pos (by omega)]
    by_cases hl2 : a.ties.length = b.ties.length
    · rw [if_pos (by omega)]
      by_cases hh : a.horizon = b.horizon
      · rw [if_pos hh]
        have key : loopO (m_spec_SameShows_L1 a.nodes ((a.nodes.length : Nat) : Int) a.ties a.horizon b.nodes b.ties b.horizon) ((0 : Nat) : Int) = some (if a.nodes = b.nodes then .inl () else .inr false) := by
          refine loopO_same a.nodes b.nodes hl (fun i => (i : Int)) ?_ ?_ ?_
          · intro i h h' he
            have h1 : Cnt a.nodes[i].label.length := by have := (ha.node _ (List.getElem_mem h)).label; unfold Cnt; omega
            unfold m_spec_SameShows_L1
            rw [if_pos (by omega), getI_lt h, getI_lt h', wr (x := (i : Int) + 1) (by omega) (by omega)]
            simp only [obnd, l08Same_eq _ _ h1]
            rw [← he]
            rw [if_pos rfl, if_pos rfl, if_pos (by simp)]; rfl
          · intro i h h' he
            have h1 : Cnt a.nodes[i].label.length := by have := (ha.node _ (List.getElem_mem h)).label; unfold Cnt; omega
            unfold m_spec_SameShows_L1
            rw [if_pos (by omega), getI_lt h, getI_lt h']
            simp only [obnd, l08Same_eq _ _ h1]
            rw [nodeEq] at he
            by_cases e1 : a.nodes[i].name = b.nodes[i].name
            · rw [if_pos e1]
              by_cases e2 : a.nodes[i].watch = b.nodes[i].watch
              · rw [if_pos e2, if_neg (by rw [decide_eq_false (fun h => he ⟨e1, h, e2⟩)]; simp)]
              · rw [if_neg e2]
            · rw [if_neg e1]
          · unfold m_spec_SameShows_L1
            rw [if_neg (by omega)]
        have key2 : loopO (m_spec_SameShows_L2 a.ties ((a.ties.length : Nat) : Int) b.nodes b.ties b.horizon) ((0 : Nat) : Int) = some (if a.ties = b.ties then .inl () else .inr false) := by
          refine loopO_same a.ties b.ties hl2 (fun i => (i : Int)) ?_ ?_ ?_
          · intro i h h' he
            unfold m_spec_SameShows_L2
            rw [if_pos (by omega), getI_lt h, getI_lt h', wr (x := (i : Int) + 1) (by omega) (by omega)]
            simp only [obnd]
            rw [if_pos ((tieB_iff _ _).2 he)]; rfl
          · intro i h h' he
            unfold m_spec_SameShows_L2
            rw [if_pos (by omega), getI_lt h, getI_lt h']
            simp only [obnd]
            rw [if_neg (fun hh => he ((tieB_iff _ _).1 hh))]
          · unfold m_spec_SameShows_L2
            rw [if_neg (by omega)]
        rw [show (0 : Int) = ((0 : Nat) : Int) from rfl, key, key2]
        simp only [obnd, showEq]
        by_cases e1 : a.nodes = b.nodes <;> by_cases e2 : a.ties = b.ties <;> simp [e1, e2, hh]
      · rw [if_neg hh, decide_eq_false (fun h => hh (by rw [h]))]
    · rw [if_neg (by omega), decide_eq_false (fun h => hl2 (by rw [h]))]
  · rw [if_neg (by omega), decide_eq_false (fun h => hl (by rw [h]))]
theorem SameStates_impl (a b : GState) (ha : FitX a) : m_impl_SameStates a b = some (decide (a = b)) := by
  have h1 : Cnt a.times.length := by have := ha.times; unfold Cnt; omega
  have h2 : Cnt a.values.length := by have := ha.values; unfold Cnt; omega
  unfold m_impl_SameStates
  rw [Equal_int _ _ h1, Equal_int _ _ h2]
  simp only [obnd, stateEq]
  by_cases h : a.now = b.now <;> by_cases h' : a.times = b.times <;> by_cases h'' : a.values = b.values <;> simp [h, h', h'']
theorem SameStates_spec (a b : GState) (ha : FitX a) : m_spec_SameStates a b = some (decide (a = b)) := by
  have h1 : Cnt a.times.length := by have := ha.times; unfold Cnt; omega
  have h2 : Cnt a.values.length := by have := ha.values; unfold Cnt; omega
  unfold m_spec_SameStates
  rw [l08Same_eq _ _ h1, l08Same_eq _ _ h2]
  simp only [obnd, stateEq]
  by_cases h : a.now = b.now <;> by_cases h' : a.times = b.times <;> by_cases h'' : a.values = b.values <;> simp [h, h', h'']
theorem SameDesks_impl (a b : GDesk) (ha : FitD a) : m_impl_SameDesks a b = some (decide (a = b)) := by
  unfold m_impl_SameDesks
  rw [SameShows_impl _ _ ha.sh, SameStates_impl _ _ ha.st, EqualFunc_Entry_eq _ _ ha.log ha.entry]
  simp only [obnd, deskEq]
  by_cases h : a.show_ = b.show_ <;> by_cases h' : a.state = b.state <;> by_cases h'' : a.lazy = b.lazy <;> by_cases h3 : a.log = b.log <;> simp [h, h', h'', h3]
theorem SameDesks_spec (a b : GDesk) (ha : FitD a) : m_spec_SameDesks a b = some (decide (a = b)) := by
  have hl1 := ha.log
  unfold m_spec_SameDesks
  rw [SameShows_spec _ _ ha.sh, SameStates_spec _ _ ha.st]
  simp only [obnd]
  have key : a.log.length = b.log.length → loopO (m_spec_SameDesks_L1 a.log ((a.log.length : Nat) : Int) b.show_.nodes b.show_.ties b.show_.horizon b.state.now b.state.times b.state.values b.lazy b.log) ((0 : Nat) : Int) = some (if a.log = b.log then .inl () else .inr false) := by
    intro hl
    refine loopO_same a.log b.log hl (fun i => (i : Int)) ?_ ?_ ?_
    · intro i h h' he
      unfold m_spec_SameDesks_L1
      rw [if_pos (by omega), getI_lt h, getI_lt h', wr (x := (i : Int) + 1) (by omega) (by omega)]
      simp only [obnd, l25Same_eq _ _ (ha.entry _ (List.getElem_mem h))]
      rw [if_pos (decide_eq_true he)]; rfl
    · intro i h h' he
      unfold m_spec_SameDesks_L1
      rw [if_pos (by omega), getI_lt h, getI_lt h']
      simp only [obnd, l25Same_eq _ _ (ha.entry _ (List.getElem_mem h))]
      rw [if_neg (by rw [decide_eq_false he]; simp)]
    · unfold m_spec_SameDesks_L1
      rw [if_neg (by omega)]
  simp only [deskEq]
  by_cases h : a.show_ = b.show_
  · by_cases h' : a.state = b.state
    · by_cases h'' : a.lazy = b.lazy
      · by_cases hl : a.log.length = b.log.length
        · rw [if_pos (decide_eq_true h), if_pos (decide_eq_true h'), if_pos h'', if_pos (by omega), show (0 : Int) = ((0 : Nat) : Int) from rfl, key hl]
          by_cases h3 : a.log = b.log <;> simp [h, h', h'', h3]
        · rw [if_pos (decide_eq_true h), if_pos (decide_eq_true h'), if_pos h'', if_neg (by omega), decide_eq_false (fun hh => hl (by rw [hh.2.2.2]))]
      · simp [h, h', h'']
    · simp [h, h']
  · simp [h]

/-! ### Copied, weighed, compared -/
theorem toEntryS_eq (a : List GEntry) (ha : a.length ≤ 1048576) (hn : ∀ n, n ∈ a → FitE n) : m_laws_toEntryS a = some a := by
  unfold m_laws_toEntryS
  rw [chk_pos (by omega), chk_pos (by omega)]
  generalize hz : (GEntry.mk 0 ([]) ([]) ([])) = z
  have key : loopO (m_laws_toEntryS_L1 a) (((0 : Nat) : Int), half z a 0) = some a := by
    refine loopO_to a.length (fun i => ((i : Int), half z a i)) ?_ ?_
    · intro i hi
      have h2 : getI (half z a i) (i : Int) = some z := by
        unfold getI; rw [if_pos (by omega), Int.toNat_natCast, half_get z a i hi]
      have hf := hn _ (List.getElem_mem hi)
      have h3 : m_laws_toEntry a[i] = some a[i] := by
        unfold m_laws_toEntry
        rw [toIntS_eq _ hf.ties, toIntS_eq _ hf.nodes, toIntS_eq _ hf.values]; rfl
      unfold m_laws_toEntryS_L1
      simp only
      rw [if_pos (by omega), getI_lt hi, h2, wr (x := (i : Int) + 1) (by omega) (by omega)]
      simp only [obnd, Int.toNat_natCast, h3]
      rw [half_step z a i hi]; rfl
    · unfold m_laws_toEntryS_L1
      simp only
      rw [if_neg (by omega), half_all]
  rw [half_zero] at key
  rw [show (0 : Int) = ((0 : Nat) : Int) from rfl] at *
  rw [key]; rfl
theorem toDesk_eq (d : GDesk) (h : FitD d) : m_laws_toDesk d = some d := by
  unfold m_laws_toDesk
  rw [toShow_eq _ h.sh, toState_eq _ h.st, toEntryS_eq _ h.log h.entry]; rfl
theorem eqEntryS_self (a : List GEntry) (ha : a.length ≤ 1048576) (hn : ∀ n, n ∈ a → FitE n) : m_laws_eqEntryS a a = some true := by
  unfold m_laws_eqEntryS
  rw [if_pos rfl]
  have key : loopO (m_laws_eqEntryS_L1 a a) ((0 : Nat) : Int) = some (.inl ()) := by
    refine loopO_to a.length (fun i => (i : Int)) ?_ ?_
    · intro i hi
      have hf := hn _ (List.getElem_mem hi)
      have h3 : m_laws_eqEntry a[i] a[i] = some true := by
        unfold m_laws_eqEntry
        rw [if_pos rfl, eqIntS_eq _ _ (by have := hf.ties; unfold Cnt; omega), eqIntS_eq _ _ (by have := hf.nodes; unfold Cnt; omega), eqIntS_eq _ _ (by have := hf.values; unfold Cnt; omega)]
        simp [obnd]
      unfold m_laws_eqEntryS_L1
      rw [if_pos (by omega), getI_lt hi, wr (x := (i : Int) + 1) (by omega) (by omega)]
      simp only [obnd, h3, if_true]; rfl
    · unfold m_laws_eqEntryS_L1
      rw [if_neg (by omega)]
  rw [show (0 : Int) = ((0 : Nat) : Int) from rfl, key]; rfl
theorem eqDesk_self (d : GDesk) (h : FitD d) : m_laws_eqDesk d d = some true := by
  unfold m_laws_eqDesk
  rw [eqShow_self _ h.sh, eqState_self _ h.st, eqEntryS_self _ h.log h.entry]
  simp [obnd]
theorem szShow_gen {s : GShow} {l : Int} (hl : l ≤ 1048576) (h0 : 0 ≤ l) (hb : BdS s) : ∃ r, m_laws_szShow s l = some r ∧ (r < 0 ∨ (FitS s ∧ 0 ≤ r ∧ r ≤ l)) := by
  unfold m_laws_szShow
  obtain ⟨r, hr, hp⟩ := szNodeS_ok hl h0 hb.nodes hb.node
  rw [hr]
  simp only [obnd]
  rcases hp with hp | ⟨h1, h2, h3, h4⟩
  · rw [if_pos hp]; exact ⟨_, rfl, .inl (by omega)⟩
  · rw [if_neg (by omega), szTieS_ok (by omega) h1 hb.ties]
    simp only
    by_cases h : r - (s.ties.length : Int) < 0
    · rw [if_pos h]; exact ⟨_, rfl, .inl (by omega)⟩
    · rw [if_neg h, if_neg h]
      exact ⟨_, rfl, .inr ⟨⟨by omega, by omega, fun n hn => ⟨by have := (h4 n hn).1; omega, by have := (h4 n hn).2; omega⟩⟩, by omega, by omega⟩⟩
theorem szEntry_ok {e : GEntry} {l : Int} (hl : l ≤ 1048576) (h0 : 0 ≤ l) (hb : BdE e) : ∃ r, m_laws_szEntry e l = some r ∧ (r < 0 ∨ (0 ≤ r ∧ r ≤ l ∧ FitE e)) := by
  unfold m_laws_szEntry
  rw [szIntS_ok hl h0 hb.ties]
  simp only [obnd]
  by_cases h : l - (e.ties.length : Int) < 0
  · rw [if_pos h]; exact ⟨_, rfl, .inl (by omega)⟩
  · rw [if_neg h, if_neg h, szIntS_ok (by omega) (by omega) hb.nodes]
    simp only
    by_cases h' : l - (e.ties.length : Int) - (e.nodes.length : Int) < 0
    · rw [if_pos h']; exact ⟨_, rfl, .inl (by omega)⟩
    · rw [if_neg h', if_neg h', szIntS_ok (by omega) (by omega) hb.values]
      simp only
      by_cases h'' : l - (e.ties.length : Int) - (e.nodes.length : Int) - (e.values.length : Int) < 0
      · rw [if_pos h'']; exact ⟨_, rfl, .inl (by omega)⟩
      · rw [if_neg h'', if_neg h'']
        exact ⟨_, rfl, .inr ⟨by omega, by omega, by omega, by omega, by omega⟩⟩
theorem szEntryS_ok {a : List GEntry} {l : Int} (hl : l ≤ 1048576) (h0 : 0 ≤ l) (ha : a.length ≤ maxLen) (hb : ∀ n, n ∈ a → BdE n) : ∃ r, m_laws_szEntryS a l = some r ∧ (r < 0 ∨ (0 ≤ r ∧ r ≤ l ∧ a.length ≤ 1048576 ∧ ∀ n, n ∈ a → FitE n)) := by
  unfold maxLen at ha
  unfold m_laws_szEntryS
  rw [wr (by omega) (by omega)]
  by_cases h : l - (a.length : Int) < 0
  · rw [if_pos h]; exact ⟨_, rfl, .inl (by omega)⟩
  · rw [if_neg h]
    have inv : ∃ q, loopO (m_laws_szEntryS_L1 a) (l - (a.length : Int), 0) = some q ∧ ((∃ x, q = .inr x ∧ x < 0) ∨ ∃ x, q = .inl x ∧ 0 ≤ x ∧ x ≤ l ∧ ∀ n, n ∈ a → FitE n) := by
      refine loopO_inv a.length (fun i s => s.2 = (i : Int) ∧ 0 ≤ s.1 ∧ s.1 ≤ l ∧ ∀ j (hj : j < a.length), j < i → FitE a[j]) _ ⟨rfl, by simp only; omega, by simp only; omega, fun j _ hj => by omega⟩ ?_ ?_
      · rintro i ⟨left, i'⟩ hi ⟨h1, h2, h3, h4⟩
        simp only at h1 h2 h3
        subst h1
        unfold m_laws_szEntryS_L1
        simp only
        rw [if_pos (by omega), getI_lt hi, wr (x := (i : Int) + 1) (by omega) (by omega)]
        simp only [obnd]
        obtain ⟨r, hr, hp⟩ := szEntry_ok (by omega) h2 (hb _ (List.getElem_mem hi))
        rw [hr]
        simp only
        rcases hp with hp | ⟨p1, p2, p3⟩
        · rw [if_pos hp]; exact .inr ⟨_, rfl, .inl ⟨_, rfl, by omega⟩⟩
        · rw [if_neg (by omega)]
          refine .inl ⟨_, rfl, rfl, p1, by simp only; omega, fun j hj hji => ?_⟩
          by_cases he : j = i
          · subst he; exact p3
          · exact h4 j hj (by omega)
      · rintro ⟨left, i'⟩ ⟨h1, h2, h3, h4⟩
        simp only at h1 h2 h3
        subst h1
        unfold m_laws_szEntryS_L1
        simp only
        rw [if_neg (by omega)]
        refine ⟨_, rfl, .inr ⟨_, rfl, h2, h3, fun n hn => ?_⟩⟩
        obtain ⟨j, hj, rfl⟩ := List.getElem_of_mem hn
        exact h4 j hj hj
    obtain ⟨r, hr, hp⟩ := inv
    rw [hr]
    simp only [obnd]
    rcases hp with ⟨x, rfl, hx⟩ | ⟨x, rfl, h1, h2, h3⟩
    · exact ⟨_, rfl, .inl hx⟩
    · exact ⟨_, rfl, .inr ⟨h1, h2, by omega, h3⟩⟩
theorem szDesk_ok {d : GDesk} {l : Int} (hl : l ≤ 1048576) (h0 : 0 ≤ l) (hb : BdD d) : ∃ r, m_laws_szDesk d l = some r ∧ (r < 0 ∨ (FitD d ∧ 0 ≤ r ∧ r ≤ l)) := by
  unfold m_laws_szDesk
  obtain ⟨r1, hr1, hp1⟩ := szShow_gen hl h0 hb.sh
  rw [hr1]
  simp only [obnd]
  rcases hp1 with hp1 | ⟨f1, a1, b1⟩
  · rw [if_pos hp1]; exact ⟨_, rfl, .inl (by omega)⟩
  · rw [if_neg (by omega)]
    obtain ⟨r2, hr2, hp2⟩ := szState_ok (by omega) a1 hb.st
    rw [hr2]
    simp only
    rcases hp2 with hp2 | ⟨a2, b2, f2⟩
    · rw [if_pos hp2]; exact ⟨_, rfl, .inl (by omega)⟩
    · rw [if_neg (by omega)]
      obtain ⟨r3, hr3, hp3⟩ := szEntryS_ok (by omega) a2 hb.log hb.entry
      rw [hr3]
      simp only
      rcases hp3 with hp3 | ⟨a3, b3, f3, f4⟩
      · rw [if_pos hp3]; exact ⟨_, rfl, .inl (by omega)⟩
      · rw [if_neg (by omega)]
        exact ⟨_, rfl, .inr ⟨⟨f1, f2, f3, f4⟩, a3, by omega⟩⟩

theorem SameDesks_law (a b : GDesk) (ha : BdD a) (hb : BdD b) : m_laws_FnExactSameDesks a b = some true := by
  unfold m_laws_FnExactSameDesks
  obtain ⟨r, hr, hp⟩ := szDesk_ok (l := 1048576) (by omega) (by omega) ha
  rw [hr]
  simp only [obnd]
  rcases hp with hp | ⟨fa, a1, b1⟩
  · rw [if_pos hp]
  · rw [if_neg (by omega)]
    obtain ⟨r2, hr2, hp2⟩ := szDesk_ok b1 a1 hb
    rw [hr2]
    simp only
    rcases hp2 with hp2 | ⟨fb, _, _⟩
    · rw [if_pos hp2]
    · rw [if_neg (by omega)]
      simp only [toDesk_eq a fa, toDesk_eq b fb, SameDesks_impl a b fa, SameDesks_spec a b fa, eqDesk_self a fa, eqDesk_self b fb, if_true]
end Go.Proofs.YtgmiaokdnpaglaaX
