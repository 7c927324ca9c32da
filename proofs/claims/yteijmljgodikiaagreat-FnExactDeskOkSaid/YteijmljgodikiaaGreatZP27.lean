/- Decisions, observations, entries; ReplayLog. Own work. -/
import Derived.Test.YteijmljgodikiaaGreatZP26
set_option linter.all false
set_option linter.unusedVariables false
set_option linter.unusedSimpArgs false
set_option maxRecDepth 100000
namespace Go.Proofs.YteijmljgodikiaaGreatZ
open Go

/-! ### The state of a label -/
def litV (v : List Int) (x : Int) : Int := if x < 0 then 0 - tm v (pr x - 1) else tm v (pr x - 1)
def labSt (l v : List Int) : Int := l.foldl (fun o x => if litV v x < o then litV v x else o) 1
theorem pr_three {x : Int} (h1 : -3 ≤ x) (h2 : x ≤ 3) : pr x ≤ 3 := by
  unfold pr
  split
  · rw [wr (by omega) (by omega)]; omega
  · omega
theorem valuesOk_facts {v : List Int} (h : valuesOk v = true) : v.length = 3 ∧ ∀ x, x ∈ v → -1 ≤ x ∧ x ≤ 1 := by
  unfold valuesOk at h
  simp only [Bool.and_eq_true, decide_eq_true_eq, List.all_eq_true] at h
  exact h
theorem lit_get {l v : List Int} (hl : labelOk l = true) (hv : valuesOk v = true) {x : Int} (hx : x ∈ l) : getI v (IntKind.wrap .i64 (pr x - 1)) = some (tm v (pr x - 1)) ∧ IntKind.wrap .i64 (0 - tm v (pr x - 1)) = 0 - tm v (pr x - 1) := by
  obtain ⟨h1, h2, h3⟩ := pr_pos hl hx
  have h4 := pr_three h2 h3
  obtain ⟨v1, v2⟩ := valuesOk_facts hv
  have hb := v2 _ (tm_mem (ts := v) (i := pr x - 1) (by omega) (by omega))
  rw [wr (x := pr x - 1) (by omega) (by omega)]
  exact ⟨getI_tm (by omega) (by omega), wr (by omega) (by omega)⟩
theorem LabelState_impl {l v : List Int} (hl : labelOk l = true) (hv : valuesOk v = true) (hc : Cnt l.length) : m_impl_LabelState l v = some (labSt l v) := by
  have v1 := (valuesOk_facts hv).1
  unfold m_impl_LabelState
  rw [LabelOk_impl l hc, hl]
  simp only [obnd, if_true]
  rw [ValuesOk_impl v (by unfold Cnt; omega), hv]
  simp only [if_true]
  have key : loopO (m_impl_LabelState_L1 v l ((l.length : Nat) : Int)) ((l.take 0).foldl (fun o x => if litV v x < o then litV v x else o) 1, ((0 : Nat) : Int)) = some (labSt l v) := by
    refine loopO_to l.length (fun i => ((l.take i).foldl (fun o x => if litV v x < o then litV v x else o) 1, (i : Int))) ?_ ?_
    · intro i hi
      unfold Cnt at hc
      obtain ⟨e1, e2⟩ := lit_get hl hv (List.getElem_mem hi)
      unfold m_impl_LabelState_L1
      simp only
      rw [if_pos (by omega), getI_lt hi, wr (x := (i : Int) + 1) (by omega) (by omega)]
      simp only [obnd]
      have hh : m_impl_holds l[i] v = some (litV v l[i]) := by
        unfold m_impl_holds litV
        rw [propOf_eq]
        simp only [obnd]
        rw [e1]
        simp only
        rw [e2]
        split <;> rfl
      rw [hh]
      simp only
      rw [List.take_succ_eq_append_getElem hi, List.foldl_append]; rfl
    · unfold m_impl_LabelState_L1
      simp only
      rw [if_neg (by omega), List.take_length]; rfl
  rw [List.take_zero] at key
  change obnd (loopO _ (1, ((0 : Nat) : Int))) _ = _
  rw [show (1 : Int) = ([] : List Int).foldl (fun o x => if litV v x < o then litV v x else o) 1 from rfl, key]; rfl
theorem l07State_eq {l v : List Int} (hl : labelOk l = true) (hv : valuesOk v = true) (hc : Cnt l.length) : m_spec_l07State l v = some (labSt l v) := by
  unfold m_spec_l07State
  have key : loopO (m_spec_l07State_L1 v l ((l.length : Nat) : Int)) ((l.take 0).foldl (fun o x => if litV v x < o then litV v x else o) 1, ((0 : Nat) : Int)) = some (labSt l v) := by
    refine loopO_to l.length (fun i => ((l.take i).foldl (fun o x => if litV v x < o then litV v x else o) 1, (i : Int))) ?_ ?_
    · intro i hi
      unfold Cnt at hc
      obtain ⟨e1, e2⟩ := lit_get hl hv (List.getElem_mem hi)
      unfold m_spec_l07State_L1
      simp only
      rw [if_pos (by omega), getI_lt hi, wr (x := (i : Int) + 1) (by omega) (by omega)]
      simp only [obnd]
      rw [l07Prop_eq]
      simp only
      rw [e1]
      simp only
      rw [e2, List.take_succ_eq_append_getElem hi, List.foldl_append]
      unfold litV
      simp only [List.foldl_cons, List.foldl_nil]
      by_cases hx : l[i] < 0
      · simp only [if_pos hx]; rfl
      · simp only [if_neg hx]; rfl
    · unfold m_spec_l07State_L1
      simp only
      rw [if_neg (by omega), List.take_length]; rfl
  rw [List.take_zero] at key
  change obnd (loopO _ (1, ((0 : Nat) : Int))) _ = _
  rw [show (1 : Int) = ([] : List Int).foldl (fun o x => if litV v x < o then litV v x else o) 1 from rfl, key]; rfl

/-! ### Nodes that are enabled -/
def freeTo (s : GShow) (k : Int) : Int := firstI s.ties (fun t => t.free && decide (t.to = k))
def labAt (s : GShow) (i : Nat) : List Int := ((s.nodes[i]?).map (fun n => n.label)).getD []
def chAt (s : GShow) (i : Nat) : Bool := decide (0 < i) && decide (freeTo s (i : Int) < 0)
def opAt (s : GShow) (x : GState) (i : Nat) : Bool := decide (tm x.times (i : Int) = -1) && decide (labSt (labAt s i) x.values = 1)
def enAt (s : GShow) (x : GState) (i : Nat) : Bool := chAt s i && opAt s x i
def enL (s : GShow) (x : GState) : List Int := places (enAt s x) s.nodes.length
theorem places_filter (p : Nat → Bool) (q : Int → Bool) : ∀ n, (places p n).filter q = places (fun i => p i && q (i : Int)) n
  | 0 => rfl
  | n + 1 => by
    have ih := places_filter p q n
    cases hp : p n
    · rw [places_no hp, places_no (by simp [hp]), ih]
    · rw [places_yes hp, List.filter_append, ih]
      cases hq : q (n : Int)
      · rw [places_no (by simp [hp, hq])]; simp [hq]
      · rw [places_yes (by simp [hp, hq])]; simp [hq]
theorem places_congr {p q : Nat → Bool} : ∀ {n : Nat}, (∀ i, i < n → p i = q i) → places p n = places q n
  | 0, _ => rfl
  | n + 1, h => by
    have ih := places_congr (n := n) (fun i hi => h i (by omega))
    have hn := h n (by omega)
    cases hp : p n
    · rw [places_no hp, places_no (by rw [← hn]; exact hp), ih]
    · rw [places_yes hp, places_yes (by rw [← hn]; exact hp), ih]

theorem freeTie_eq (s : GShow) (k : Int) (hs : SmallS s) : m_impl_freeTie s k = some (freeTo s k) := by
  unfold m_impl_freeTie freeTo
  rw [IndexFunc_Tie s.ties _ (fun t => t.free && decide (t.to = k)) hs.ties]
  · rfl
  · intro t _
    unfold m_impl_freeTie_c1
    cases t.free <;> rfl
theorem chosen_eq (s : GShow) (hs : SmallS s) (hR : Right s) : m_impl_chosen s = some (places (chAt s) s.nodes.length) := by
  have h1 := hR.node1
  have h7 := hR.nodes
  unfold m_impl_chosen
  have key : loopO (m_impl_chosen_L1 s.nodes s.ties s.horizon) (((0 : Nat) : Int) + 1, places (chAt s) (0 + 1)) = some (places (chAt s) s.nodes.length) := by
    refine loopO_to (s.nodes.length - 1) (fun i => ((i : Int) + 1, places (chAt s) (i + 1))) ?_ ?_
    · intro i hi
      have hl := places_len (chAt s) (i + 1)
      unfold m_impl_chosen_L1
      simp only
      rw [if_pos (by omega), show (GShow.mk s.nodes s.ties s.horizon) = s from rfl, freeTie_eq s _ hs, wr (x := (i : Int) + 1 + 1) (by omega) (by omega), chk_pos (by omega), chk_pos (by omega)]
      simp only [obnd]
      have e : chAt s (i + 1) = decide (freeTo s ((i : Int) + 1) < 0) := by
        unfold chAt
        rw [decide_eq_true (show 0 < i + 1 by omega), Bool.true_and]; rfl
      by_cases hf : freeTo s ((i : Int) + 1) < 0
      · rw [if_pos hf, places_yes (n := i + 1) (by rw [e]; exact decide_eq_true hf)]; rfl
      · rw [if_neg hf, places_no (n := i + 1) (by rw [e]; exact decide_eq_false hf)]; rfl
    · unfold m_impl_chosen_L1
      simp only
      rw [if_neg (by omega), show s.nodes.length - 1 + 1 = s.nodes.length by omega]
  have e0 : places (chAt s) (0 + 1) = [] := by rw [places_no (by rfl)]; rfl
  rw [e0] at key
  change obnd (loopO _ (((0 : Nat) : Int) + 1, [])) _ = _
  rw [key]; rfl

theorem lab_ok {s : GShow} (hok : showOk s = true) {i : Nat} (hi : i < s.nodes.length) : labelOk s.nodes[i].label = true ∧ 0 ≤ s.nodes[i].watch ∧ s.nodes[i].watch ≤ 3 := by
  unfold showOk at hok
  simp only [Bool.and_eq_true] at hok
  have h := nodesA_node hok.1.1.1.1 _ (List.getElem_mem hi)
  have h2 := h
  unfold nodeOk at h2
  simp only [Bool.and_eq_true, decide_eq_true_eq] at h2
  exact ⟨nodeOk_label h, h2.2⟩
theorem labAt_lt {s : GShow} {i : Nat} (hi : i < s.nodes.length) : labAt s i = s.nodes[i].label := by
  unfold labAt
  rw [List.getElem?_eq_getElem hi]; rfl

structure MomR (s : GShow) (x : GState) : Prop where
  ok : showOk s = true
  right : Right s
  now : 0 ≤ x.now ∧ x.now ≤ s.horizon
  len : x.times.length = s.nodes.length
  val : valuesOk x.values = true
  nxt : stateOk s (nextX x) = true
theorem mom_right {s : GShow} {x : GState} (h : momOk s x = true) : MomR s x := by
  unfold momOk at h
  simp only [Bool.and_eq_true, decide_eq_true_eq] at h
  obtain ⟨h1, h2⟩ := h
  have h3 := h2
  unfold stateOk at h2
  simp only [Bool.and_eq_true, decide_eq_true_eq] at h2
  obtain ⟨⟨⟨⟨⟨a1, a2⟩, a3⟩, a4⟩, a5⟩, a6⟩ := h2
  exact ⟨a1, showOk_right a1, h1, a3, a4, h3⟩

theorem enabled_eq {s : GShow} {x : GState} (hs : SmallS s) (h : MomR s x) : m_impl_enabled s x = some (enL s x) := by
  have h7 := h.right.nodes
  have hln := h.len
  have hpl := places_len (chAt s) s.nodes.length
  unfold m_impl_enabled
  rw [chosen_eq s hs h.right]
  simp only [obnd]
  rw [DeleteFunc_int _ _ (fun k => !(decide (tm x.times k = -1) && decide (labSt (labAt s k.toNat) x.values = 1))) (by unfold Cnt; omega)]
  · simp only [Bool.not_not]
    rw [places_filter]
    unfold enL
    rw [places_congr (q := enAt s x)]
    intro i hi
    unfold enAt opAt
    rw [Int.toNat_natCast]
  · intro k hk
    obtain ⟨i, hi, _, rfl⟩ := places_mem.1 hk
    unfold m_impl_enabled_c1
    rw [getI_tmN (by omega)]
    simp only [obnd]
    by_cases ht : tm x.times (i : Int) = -1
    · rw [if_pos ht]
      unfold m_impl_nodeState
      rw [getI_lt hi]
      simp only [obnd]
      rw [LabelState_impl (lab_ok h.ok hi).1 h.val (hs.node _ (List.getElem_mem hi)).2, decide_eq_true ht, Int.toNat_natCast, labAt_lt hi]
      simp
    · rw [if_neg ht, decide_eq_false ht]; rfl

theorem l13Enabled_eq {s : GShow} {x : GState} (hs : SmallS s) (h : MomR s x) : m_spec_l13Enabled s x = some (enL s x) := by
  have h7 := h.right.nodes
  have hln := h.len
  unfold m_spec_l13Enabled
  have key : loopO (m_spec_l13Enabled_L1 s.nodes ((s.nodes.length : Nat) : Int) s.ties s.horizon x.now x.times x.values) (((0 : Nat) : Int), places (enAt s x) 0) = some (enL s x) := by
    refine loopO_to s.nodes.length (fun i => ((i : Int), places (enAt s x) i)) ?_ ?_
    · intro i hi
      have hpl := places_len (enAt s x) i
      unfold m_spec_l13Enabled_L1
      simp only
      rw [if_pos (by omega), getI_lt hi, show (GShow.mk s.nodes s.ties s.horizon) = s from rfl, l08Free_eq s _ hs.ties, getI_tmN (by omega), wr (x := (i : Int) + 1) (by omega) (by omega), chk_pos (by omega), chk_pos (by omega)]
      simp only [obnd]
      rw [l07State_eq (lab_ok h.ok hi).1 h.val (hs.node _ (List.getElem_mem hi)).2]
      simp only
      have e : enAt s x i = (decide (0 < i) && decide (freeTo s (i : Int) < 0) && (decide (tm x.times (i : Int) = -1) && decide (labSt s.nodes[i].label x.values = 1))) := by
        unfold enAt chAt opAt
        rw [labAt_lt hi]
      change (if (0 : Int) < (i : Int) then (if freeTo s (i : Int) < 0 then _ else _) else _) = _
      by_cases h0 : 0 < i
      · rw [if_pos (by omega)]
        by_cases hf : freeTo s (i : Int) < 0
        · rw [if_pos hf]
          by_cases ht : tm x.times (i : Int) = -1
          · rw [if_pos ht]
            by_cases hs1 : labSt s.nodes[i].label x.values = 1
            · rw [if_pos hs1, places_yes (by rw [e, decide_eq_true h0, decide_eq_true hf, decide_eq_true ht, decide_eq_true hs1]; rfl)]; rfl
            · rw [if_neg hs1, places_no (by rw [e, decide_eq_false hs1]; simp)]; rfl
          · rw [if_neg ht, places_no (by rw [e, decide_eq_false ht]; simp)]; rfl
        · rw [if_neg hf, places_no (by rw [e, decide_eq_false hf]; simp)]; rfl
      · rw [if_neg (by omega), places_no (by rw [e, decide_eq_false h0]; rfl)]; rfl
    · unfold m_spec_l13Enabled_L1
      simp only
      rw [if_neg (by omega)]; rfl
  rw [places_zero] at key
  change obnd (loopO _ (((0 : Nat) : Int), [])) _ = _
  rw [key]; rfl

/-! ### Decisions -/
def decAt (s : GShow) (x : GState) (j : Nat) : List Int := sel (bitOn ((2 ^ (enL s x).length - 1 - j : Nat) : Int)) (enL s x) (enL s x).length
def decL (s : GShow) (x : GState) : List (List Int) := (List.range (2 ^ (enL s x).length)).map (decAt s x)
theorem enL_len {s : GShow} (hR : Right s) (x : GState) : (enL s x).length ≤ 7 := by
  have := places_len (enAt s x) s.nodes.length
  have := hR.nodes
  unfold enL; omega
theorem decisions_eq {s : GShow} {x : GState} (hs : SmallS s) (h : MomR s x) : m_impl_decisions s x = some (decL s x) := by
  have h7 := enL_len h.right x
  have hpow := pow_b h7
  have hpos : 0 < 2 ^ (enL s x).length := Nat.pow_pos (by omega)
  unfold m_impl_decisions
  rw [enabled_eq hs h]
  simp only [obnd]
  rw [chk_pos (by omega), shl_eq h7]
  unfold decL
  have hd : ∀ j, decAt s x j = sel (bitOn ((2 ^ (enL s x).length - 1 - j : Nat) : Int)) (enL s x) (enL s x).length := fun _ => rfl
  generalize 2 ^ (enL s x).length = q at *
  rw [wr (by omega) (by omega)]
  have key : loopO (m_impl_decisions_L1 (enL s x)) ((q : Int) - 1 - ((0 : Nat) : Int), (List.range 0).map (decAt s x)) = some ((List.range q).map (decAt s x)) := by
    refine loopO_to q (fun i => ((q : Int) - 1 - (i : Int), (List.range i).map (decAt s x))) ?_ ?_
    · intro i hi
      unfold m_impl_decisions_L1
      simp only
      rw [if_pos (by omega), members_eq _ _ (by omega), wr (by omega) (by omega)]
      simp only [obnd]
      rw [chk_pos (by simp; omega), chk_pos (by simp; omega), map_range_succ, hd i, show (((q - 1 - i : Nat)) : Int) = (q : Int) - 1 - (i : Int) by omega, show (q : Int) - 1 - (i : Int) - 1 = (q : Int) - 1 - ((i + 1 : Nat) : Int) by omega]
    · unfold m_impl_decisions_L1
      simp only
      rw [if_neg (by omega)]
  simp only [List.range_zero, List.map_nil, Int.natCast_zero, Int.sub_zero] at key
  rw [key]
theorem IsMoment_eq {s : GShow} {x : GState} (hs : SmallS s) (h : MomR s x) : m_spec_IsMoment s x = some true := by
  have hh := h.right.hor
  have hn := h.now
  have h7 := h.right.nodes
  have hln := h.len
  have hv := (valuesOk_facts h.val).1
  unfold m_spec_IsMoment
  rw [l01In_eq, decide_eq_true (by omega)]
  simp only [obnd, if_true]
  rw [ShowOk_spec s hs, h.ok]
  simp only [if_true]
  rw [if_neg (by omega), l13Copy_eq x (by omega) (by omega)]
  simp only
  rw [wr (by omega) (by omega)]
  change obnd (m_spec_StateOk s (nextX x)) _ = _
  rw [StateOk_spec s (nextX x) hs (by show x.times.length ≤ _; omega) (by show x.values.length ≤ _; omega), h.nxt]; rfl
theorem DecisionsOf_eq {s : GShow} {x : GState} (hs : SmallS s) (h : MomR s x) : m_spec_DecisionsOf s x = some (decL s x) := by
  have h7 := enL_len h.right x
  have hpow := pow_b h7
  have hpos : 0 < 2 ^ (enL s x).length := Nat.pow_pos (by omega)
  unfold m_spec_DecisionsOf
  rw [IsMoment_eq hs h]
  simp only [obnd, if_true]
  rw [l13Enabled_eq hs h]
  simp only
  rw [wru (by omega), chk_pos (by omega), Int.toNat_natCast, shl_eq h7]
  unfold decL
  have hd : ∀ j, decAt s x j = sel (bitOn ((2 ^ (enL s x).length - 1 - j : Nat) : Int)) (enL s x) (enL s x).length := fun _ => rfl
  generalize 2 ^ (enL s x).length = q at *
  rw [wr (by omega) (by omega)]
  have key : loopO (m_spec_DecisionsOf_L1 (enL s x)) ((q : Int) - 1 - ((0 : Nat) : Int), (List.range 0).map (decAt s x)) = some ((List.range q).map (decAt s x)) := by
    refine loopO_to q (fun i => ((q : Int) - 1 - (i : Int), (List.range i).map (decAt s x))) ?_ ?_
    · intro i hi
      unfold m_spec_DecisionsOf_L1
      simp only
      rw [if_pos (by omega), l14Some_eq _ _ (by omega), wr (by omega) (by omega)]
      simp only [obnd]
      rw [chk_pos (by simp; omega), chk_pos (by simp; omega), map_range_succ, hd i, show (((q - 1 - i : Nat)) : Int) = (q : Int) - 1 - (i : Int) by omega, show (q : Int) - 1 - (i : Int) - 1 = (q : Int) - 1 - ((i + 1 : Nat) : Int) by omega]
    · unfold m_spec_DecisionsOf_L1
      simp only
      rw [if_neg (by omega)]
  simp only [List.range_zero, List.map_nil, Int.natCast_zero, Int.sub_zero] at key
  rw [key]
theorem en_at {s : GShow} {x : GState} {k : Int} (h : k ∈ enL s x) : ∃ i, i < s.nodes.length ∧ k = (i : Int) ∧ 0 < i ∧ tm x.times (i : Int) = -1 := by
  obtain ⟨i, hi, hp, rfl⟩ := places_mem.1 h
  unfold enAt chAt opAt at hp
  simp only [Bool.and_eq_true, decide_eq_true_eq] at hp
  exact ⟨i, hi, rfl, hp.1.1, hp.2.1⟩
theorem dec_facts {s : GShow} {x : GState} (hR : Right s) {nodes : List Int} (h : nodes ∈ decL s x) : Asc nodes ∧ nodes.length ≤ 7 ∧ ∀ k, k ∈ nodes → k ∈ enL s x := by
  unfold decL at h
  rw [List.mem_map] at h
  obtain ⟨j, _, rfl⟩ := h
  have h7 := enL_len hR x
  have := sel_len (bitOn ((2 ^ (enL s x).length - 1 - j : Nat) : Int)) (enL s x) (enL s x).length
  exact ⟨sel_asc (places_asc _ _) _ (Nat.le_refl _), by unfold decAt; omega, fun k hk => sel_in hk⟩
theorem decL_len {s : GShow} (hR : Right s) (x : GState) : (decL s x).length ≤ 128 := by
  unfold decL
  simpa using pow_b (enL_len hR x)

/-! ### Behind a decision -/
def watchAt (s : GShow) (k : Int) : Int := ((s.nodes[k.toNat]?).map (fun n => n.watch)).getD 0
def watcherI (s : GShow) (p : Int) : Int := firstI s.nodes (fun n => decide (n.watch = p))
def propL (s : GShow) (nodes : List Int) : List Int := [1, 2, 3].filter (fun p => decide (watcherI s p ∈ nodes))
def decX (x : GState) (nodes : List Int) : GState := ⟨x.now, setAll (fun k => k) x.now nodes x.times, x.values⟩
theorem watch_uniq {s : GShow} (hok : showOk s = true) {i j : Nat} (hi : i < s.nodes.length) (hj : j < s.nodes.length) (h : s.nodes[i].watch = s.nodes[j].watch) (h0 : s.nodes[i].watch ≠ 0) : i = j := by
  have key : ∀ {i j : Nat} (hi : i < s.nodes.length) (hj : j < s.nodes.length), s.nodes[i].watch = s.nodes[j].watch → s.nodes[j].watch ≠ 0 → ¬ i < j := by
    intro i j hi hj he hn hlt
    unfold showOk nodesA at hok
    simp only [Bool.and_eq_true, decide_eq_true_eq] at hok
    have hp := hok.1.1.1.1.2 j hj
    rw [nodeP_lt hj, Bool.and_eq_true] at hp
    have hE := hp.2
    unfold earlier at hE
    rw [List.all_eq_true] at hE
    have := hE s.nodes[i] (List.mem_take_iff_getElem.2 ⟨i, by omega, rfl⟩)
    simp only [Bool.and_eq_true, Bool.or_eq_true, Bool.not_eq_true', decide_eq_false_iff_not, decide_eq_true_eq] at this
    rcases this.2 with h1 | h1
    · exact hn h1
    · exact h1 he
  rcases Nat.lt_trichotomy i j with hlt | he | hlt
  · exact absurd hlt (key hi hj h (by rw [← h]; exact h0))
  · exact he
  · exact absurd hlt (key hj hi h.symm h0)
theorem watcher_at {s : GShow} (hok : showOk s = true) {i : Nat} (hi : i < s.nodes.length) (h0 : s.nodes[i].watch ≠ 0) : watcherI s s.nodes[i].watch = (i : Int) := by
  unfold watcherI
  have h1 : 0 ≤ firstI s.nodes (fun n => decide (n.watch = s.nodes[i].watch)) := by
    have := firstI_any (xs := s.nodes) (q := fun n => decide (n.watch = s.nodes[i].watch))
    have h2 : s.nodes.any (fun n => decide (n.watch = s.nodes[i].watch)) = true := List.any_eq_true.2 ⟨_, List.getElem_mem hi, by simp⟩
    rw [h2] at this
    exact of_decide_eq_true this
  obtain ⟨j, hj, e, hq, _⟩ := firstI_lt h1
  rw [e, watch_uniq hok hj hi (of_decide_eq_true hq) (by rw [of_decide_eq_true hq]; exact h0)]
theorem watchAt_lt {s : GShow} {i : Nat} (hi : i < s.nodes.length) : watchAt s (i : Int) = s.nodes[i].watch := by
  unfold watchAt
  rw [Int.toNat_natCast, List.getElem?_eq_getElem hi]; rfl
def wl (s : GShow) (nodes : List Int) : List Int := (nodes.map (watchAt s)).filter (fun p => !decide (p = 0))
theorem propL_asc (s : GShow) (nodes : List Int) : Asc (propL s nodes) := by
  have : Asc [1, 2, 3] := by unfold Asc; decide
  exact this.filter _
theorem wl_props {s : GShow} {x : GState} (hok : showOk s = true) {nodes : List Int} (ha : Asc nodes) (hn : ∀ k, k ∈ nodes → k ∈ enL s x) : (wl s nodes).Nodup ∧ ∀ p, p ∈ wl s nodes ↔ p ∈ propL s nodes := by
  constructor
  · unfold wl
    rw [List.filter_map]
    unfold List.Nodup
    rw [List.pairwise_map]
    refine List.Pairwise.imp_of_mem ?_ (ha.filter _)
    intro a b h1 h2 hab he
    rw [List.mem_filter] at h1 h2
    obtain ⟨i, hi, rfl, _, _⟩ := en_at (hn _ h1.1)
    obtain ⟨j, hj, rfl, _, _⟩ := en_at (hn _ h2.1)
    have h3 := h1.2
    simp only [Function.comp, Bool.not_eq_true', decide_eq_false_iff_not] at h3
    rw [watchAt_lt hi, watchAt_lt hj] at he
    rw [watchAt_lt hi] at h3
    have := watch_uniq hok hi hj he h3
    omega
  · intro p
    unfold wl propL
    rw [List.mem_filter, List.mem_filter, List.mem_map]
    simp only [Bool.not_eq_true', decide_eq_false_iff_not, decide_eq_true_eq]
    constructor
    · rintro ⟨⟨k, hk, rfl⟩, h0⟩
      obtain ⟨i, hi, rfl, _, _⟩ := en_at (hn _ hk)
      rw [watchAt_lt hi] at h0 ⊢
      have hw := (lab_ok hok hi).2
      refine ⟨?_, ?_⟩
      · simp only [List.mem_cons, List.not_mem_nil, or_false]; omega
      · rw [watcher_at hok hi h0]; exact hk
    · rintro ⟨h3, hw⟩
      obtain ⟨i, hi, e, _, _⟩ := en_at (hn _ hw)
      have h0 : 0 ≤ watcherI s p := by omega
      obtain ⟨j, hj, e2, hq, _⟩ := firstI_lt h0
      have hwp := of_decide_eq_true hq
      unfold watcherI at hw
      rw [e2] at hw
      refine ⟨⟨(j : Int), hw, by rw [watchAt_lt hj]; exact hwp⟩, ?_⟩
      simp only [List.mem_cons, List.not_mem_nil, or_false] at h3
      omega
theorem propL_len (s : GShow) (nodes : List Int) : (propL s nodes).length ≤ 3 := by
  have := List.length_filter_le (fun p => decide (watcherI s p ∈ nodes)) [1, 2, 3]
  simpa [propL] using this
theorem propL_mem {s : GShow} {nodes : List Int} {p : Int} (h : p ∈ propL s nodes) : 1 ≤ p ∧ p ≤ 3 ∧ watcherI s p ∈ nodes := by
  unfold propL at h
  rw [List.mem_filter] at h
  simp only [List.mem_cons, List.not_mem_nil, or_false, decide_eq_true_eq] at h
  exact ⟨by omega, by omega, h.2⟩

theorem decided_eq {s : GShow} {x : GState} (h : MomR s x) {nodes : List Int} (ha : Asc nodes) (hl7 : nodes.length ≤ 7) (hn : ∀ k, k ∈ nodes → k ∈ enL s x) : m_impl_decided s x nodes = some (decX x nodes, propL s nodes) := by
  have h7 := h.right.nodes
  have hln := h.len
  have hv := (valuesOk_facts h.val).1
  unfold m_impl_decided
  rw [copyState_eq x (by omega) (by omega)]
  simp only [obnd]
  have key : loopO (m_impl_decided_L1 nodes ((nodes.length : Nat) : Int) s.nodes s.ties s.horizon x.now x.times x.values x.now x.values) (((0 : Nat) : Int), wl s (nodes.take 0), setAll (fun k => k) x.now (nodes.take 0) x.times) = some (wl s nodes, setAll (fun k => k) x.now nodes x.times) := by
    refine loopO_to nodes.length (fun i => ((i : Int), wl s (nodes.take i), setAll (fun k => k) x.now (nodes.take i) x.times)) ?_ ?_
    · intro i hi
      obtain ⟨j, hj, e, _, _⟩ := en_at (hn _ (List.getElem_mem hi))
      have hwl : (wl s (nodes.take i)).length ≤ 7 := by
        have := List.length_filter_le (fun p => !decide (p = 0)) ((nodes.take i).map (watchAt s))
        rw [List.length_map, List.length_take] at this
        unfold wl; omega
      have hw1 : wl s (nodes.take (i + 1)) = wl s (nodes.take i) ++ (if s.nodes[j].watch = 0 then [] else [s.nodes[j].watch]) := by
        unfold wl
        rw [List.take_succ_eq_append_getElem hi, List.map_append, List.filter_append, e]
        simp only [List.map_cons, List.map_nil]
        rw [watchAt_lt hj]
        by_cases h0 : s.nodes[j].watch = 0 <;> simp [h0]
      unfold m_impl_decided_L1
      simp only
      rw [if_pos (by omega), getI_lt hi, e]
      simp only [obnd]
      rw [getI_tm (ts := setAll (fun k => k) x.now (nodes.take i) x.times) (by omega) (by rw [setAll_len]; omega), getI_lt hj, wr (x := (i : Int) + 1) (by omega) (by omega)]
      simp only
      rw [chk_pos (by omega), chk_pos (by omega), hw1, List.take_succ_eq_append_getElem hi, setAll_snoc, e]
      by_cases h0 : s.nodes[j].watch = 0
      · rw [if_pos h0, if_pos h0, List.append_nil]; rfl
      · rw [if_neg h0, if_neg h0]; rfl
    · unfold m_impl_decided_L1
      simp only
      rw [if_neg (by omega), List.take_length]
  rw [List.take_zero] at key
  change obnd (loopO _ (((0 : Nat) : Int), wl s [], setAll (fun k => k) x.now [] x.times)) _ = _
  rw [key]
  simp only [obnd]
  have hwl : (wl s nodes).length ≤ 7 := by
    have := List.length_filter_le (fun p => !decide (p = 0)) (nodes.map (watchAt s))
    rw [List.length_map] at this
    unfold wl; omega
  obtain ⟨r, e, hp, hs⟩ := Sort_ok (wl s nodes) (by omega)
  obtain ⟨w1, w2⟩ := wl_props h.ok ha hn
  have er : r = propL s nodes := asc_ext (asc_of_le hs (hp.nodup_iff.2 w1)) (propL_asc s nodes) (fun y => by rw [hp.mem_iff, w2])
  rw [e]
  simp only
  rw [chk_pos hp.length_eq, er]; rfl

theorem l14Decide_eq {s : GShow} {x : GState} (hs : SmallS s) (h : MomR s x) {nodes : List Int} (hl7 : nodes.length ≤ 7) (hn : ∀ k, k ∈ nodes → k ∈ enL s x) : m_spec_l14Decide s x nodes = some (decX x nodes, propL s nodes) := by
  have h7 := h.right.nodes
  have hln := h.len
  have hv := (valuesOk_facts h.val).1
  unfold m_spec_l14Decide
  rw [l13Copy_eq x (by omega) (by omega)]
  simp only [obnd]
  have key : loopO (m_spec_l14Decide_L1 nodes ((nodes.length : Nat) : Int) s.nodes s.ties s.horizon x.now x.times x.values x.now x.values) (((0 : Nat) : Int), setAll (fun k => k) x.now (nodes.take 0) x.times) = some (setAll (fun k => k) x.now nodes x.times) := by
    refine loopO_to nodes.length (fun i => ((i : Int), setAll (fun k => k) x.now (nodes.take i) x.times)) ?_ ?_
    · intro i hi
      obtain ⟨j, hj, e, _, _⟩ := en_at (hn _ (List.getElem_mem hi))
      unfold m_spec_l14Decide_L1
      simp only
      rw [if_pos (by omega), getI_lt hi, e]
      simp only [obnd]
      rw [getI_tm (ts := setAll (fun k => k) x.now (nodes.take i) x.times) (by omega) (by rw [setAll_len]; omega), wr (x := (i : Int) + 1) (by omega) (by omega), List.take_succ_eq_append_getElem hi, setAll_snoc, e]; rfl
    · unfold m_spec_l14Decide_L1
      simp only
      rw [if_neg (by omega), List.take_length]
  rw [List.take_zero] at key
  change obnd (loopO _ (((0 : Nat) : Int), setAll (fun k => k) x.now [] x.times)) _ = _
  rw [key]
  simp only [obnd]
  have key2 : loopO (m_spec_l14Decide_L2 nodes s.nodes s.ties s.horizon x.now (setAll (fun k => k) x.now nodes x.times) x.values) (((0 : Nat) : Int) + 1, ([1, 2, 3].take 0).filter (fun p => decide (watcherI s p ∈ nodes))) = some (propL s nodes) := by
    refine loopO_to 3 (fun i => ((i : Int) + 1, ([1, 2, 3].take i).filter (fun p => decide (watcherI s p ∈ nodes)))) ?_ ?_
    · intro i hi
      have hl := List.length_filter_le (fun p => decide (watcherI s p ∈ nodes)) ([1, 2, 3].take i)
      rw [List.length_take] at hl
      have e3 : ([1, 2, 3] : List Int)[i]'(by simpa using hi) = (i : Int) + 1 := by
        have : i = 0 ∨ i = 1 ∨ i = 2 := by omega
        rcases this with rfl | rfl | rfl <;> rfl
      unfold m_spec_l14Decide_L2
      simp only
      rw [if_pos (by omega), show (GShow.mk s.nodes s.ties s.horizon) = s from rfl, l08Watcher_eq s _ hs.nodes]
      simp only [obnd]
      rw [l07Has_eq _ _ (by unfold Cnt; omega), wr (x := (i : Int) + 1 + 1) (by omega) (by omega), chk_pos (by omega), chk_pos (by omega), filter_succ _ (by simpa using hi), e3]
      simp only
      change (if decide (watcherI s ((i : Int) + 1) ∈ nodes) = true then _ else _) = _
      cases decide (watcherI s ((i : Int) + 1) ∈ nodes)
      · rw [if_neg (by simp), if_neg (by simp), List.append_nil]; rfl
      · rw [if_pos rfl, if_pos rfl]; rfl
    · unfold m_spec_l14Decide_L2
      simp only
      rw [if_neg (by omega)]; rfl
  simp only [List.take_zero, List.filter_nil, Int.natCast_zero, Int.zero_add] at key2
  rw [key2]; rfl

/-! ### Behind observations -/
def setV (ps vs v : List Int) (n : Nat) : List Int := (List.range n).foldl (fun v i => v.set (ps.getD i 0 - 1).toNat (vs.getD i 0)) v
theorem setV_succ (ps vs v : List Int) (n : Nat) : setV ps vs v (n + 1) = (setV ps vs v n).set (ps.getD n 0 - 1).toNat (vs.getD n 0) := by
  unfold setV
  rw [List.range_succ, List.foldl_append]; rfl
theorem setV_len (ps vs v : List Int) : ∀ n, (setV ps vs v n).length = v.length
  | 0 => rfl
  | n + 1 => by rw [setV_succ, List.length_set, setV_len ps vs v n]
def obsX (x : GState) (ps vs : List Int) : GState := ⟨x.now + 1, x.times, setV ps vs x.values ps.length⟩
theorem observed_eq (x : GState) (ps vs : List Int) (hn : 0 ≤ x.now ∧ x.now ≤ 1000) (h1 : x.times.length ≤ 1048576) (h2 : x.values.length = 3) (hp : ∀ p, p ∈ ps → 1 ≤ p ∧ p ≤ 3) (hl : vs.length = ps.length) (hl2 : ps.length ≤ 1000) :
    m_impl_observed x ps vs = some (obsX x ps vs) ∧ m_spec_l14Values x ps vs = some (obsX x ps vs) := by
  have pb : ∀ i, i < ps.length → 1 ≤ ps.getD i 0 ∧ ps.getD i 0 ≤ 3 := by
    intro i hi
    rw [List.getD_eq_getElem?_getD, List.getElem?_eq_getElem hi]
    exact hp _ (List.getElem_mem hi)
  constructor
  · unfold m_impl_observed
    rw [copyState_eq x h1 (by omega)]
    simp only [obnd]
    have key : loopO (m_impl_observed_L1 vs ps ((ps.length : Nat) : Int) x.now x.times) (((0 : Nat) : Int), setV ps vs x.values 0) = some (setV ps vs x.values ps.length) := by
      refine loopO_to ps.length (fun i => ((i : Int), setV ps vs x.values i)) ?_ ?_
      · intro i hi
        have hb := pb i hi
        unfold m_impl_observed_L1
        simp only
        rw [if_pos (by omega), getI_D hi, getI_D (by omega), wr (x := (i : Int) + 1) (by omega) (by omega)]
        simp only [obnd]
        rw [wr (x := ps.getD i 0 - 1) (by omega) (by omega), getI_tm (ts := setV ps vs x.values i) (by omega) (by rw [setV_len]; omega)]
        simp only
        rw [setV_succ]; rfl
      · unfold m_impl_observed_L1
        simp only
        rw [if_neg (by omega)]
    change obnd (loopO _ (((0 : Nat) : Int), setV ps vs x.values 0)) _ = _
    rw [key]
    simp only [obnd]
    rw [wr (by omega) (by omega)]; rfl
  · unfold m_spec_l14Values
    rw [l13Copy_eq x h1 (by omega)]
    simp only [obnd]
    have key : loopO (m_spec_l14Values_L1 vs ps ((ps.length : Nat) : Int) x.now x.times) (((0 : Nat) : Int), setV ps vs x.values 0) = some (setV ps vs x.values ps.length) := by
      refine loopO_to ps.length (fun i => ((i : Int), setV ps vs x.values i)) ?_ ?_
      · intro i hi
        have hb := pb i hi
        unfold m_spec_l14Values_L1
        simp only
        rw [if_pos (by omega), getI_D hi, getI_D (by omega), wr (x := (i : Int) + 1) (by omega) (by omega)]
        simp only [obnd]
        rw [wr (x := ps.getD i 0 - 1) (by omega) (by omega), getI_tm (ts := setV ps vs x.values i) (by omega) (by rw [setV_len]; omega)]
        simp only
        rw [setV_succ]; rfl
      · unfold m_spec_l14Values_L1
        simp only
        rw [if_neg (by omega)]
    change obnd (loopO _ (((0 : Nat) : Int), setV ps vs x.values 0)) _ = _
    rw [key]
    simp only [obnd]
    rw [wr (by omega) (by omega)]; rfl
theorem setV_tm {ps vs v : List Int} (hv : v.length = 3) (hp : ∀ p, p ∈ ps → 1 ≤ p ∧ p ≤ 3) : ∀ n, n ≤ ps.length → ∀ k : Int, 0 ≤ k → (∀ i, i < n → ps.getD i 0 - 1 ≠ k) → tm (setV ps vs v n) k = tm v k
  | 0, _, k, _, _ => rfl
  | n + 1, hn, k, hk, h => by
    rw [setV_succ]
    have hb := hp (ps.getD n 0) (by rw [List.getD_eq_getElem?_getD, List.getElem?_eq_getElem (show n < ps.length by omega)]; exact List.getElem_mem _)
    rw [tm_set _ _ _ _ (by omega) (by rw [setV_len]; omega) hk, if_neg (fun e => h n (by omega) e.symm)]
    exact setV_tm hv hp n (by omega) k hk (fun i hi => h i (by omega))
theorem setV_in {ps vs v : List Int} (hv : v.length = 3) (hp : ∀ p, p ∈ ps → 1 ≤ p ∧ p ≤ 3) (hl : vs.length = ps.length) : ∀ n, n ≤ ps.length → ∀ k : Int, 0 ≤ k → (∃ i, i < n ∧ ps.getD i 0 - 1 = k) → tm (setV ps vs v n) k ∈ vs
  | 0, _, k, _, h => by obtain ⟨i, hi, _⟩ := h; omega
  | n + 1, hn, k, hk, h => by
    rw [setV_succ]
    have hb := hp (ps.getD n 0) (by rw [List.getD_eq_getElem?_getD, List.getElem?_eq_getElem (show n < ps.length by omega)]; exact List.getElem_mem _)
    rw [tm_set _ _ _ _ (by omega) (by rw [setV_len]; omega) hk]
    by_cases e : k = ps.getD n 0 - 1
    · rw [if_pos e, List.getD_eq_getElem?_getD, List.getElem?_eq_getElem (show n < vs.length by omega)]
      exact List.getElem_mem _
    · rw [if_neg e]
      obtain ⟨i, hi, he⟩ := h
      exact setV_in hv hp hl n (by omega) k hk ⟨i, by rcases Nat.lt_or_ge i n with h1 | h1; exact h1; exact absurd (by rw [← he, show i = n by omega]) e, he⟩

theorem mem_setV {ps vs v : List Int} {y : Int} : ∀ n, y ∈ setV ps vs v n → y ∈ v ∨ ∃ i, i < n ∧ y = vs.getD i 0
  | 0, h => .inl h
  | n + 1, h => by
    rw [setV_succ] at h
    rcases List.mem_or_eq_of_mem_set h with h | h
    · rcases mem_setV n h with h | ⟨i, hi, h⟩
      · exact .inl h
      · exact .inr ⟨i, by omega, h⟩
    · exact .inr ⟨n, by omega, h⟩

/-- What is right stays right. -/
theorem obs_ok {s : GShow} {x : GState} (h : MomR s x) {nodes : List Int} (hn : ∀ k, k ∈ nodes → k ∈ enL s x) {vs : List Int} (hl : vs.length = (propL s nodes).length) (hv : ∀ v, v ∈ vs → v = 1 ∨ v = -1) :
    stateOk s (obsX (decX x nodes) (propL s nodes) vs) = true := by
  have h7 := h.right.nodes
  have hln := h.len
  obtain ⟨v1, v2⟩ := valuesOk_facts h.val
  have hnx := h.nxt
  have hp : ∀ p, p ∈ propL s nodes → 1 ≤ p ∧ p ≤ 3 := fun p hp => ⟨(propL_mem hp).1, (propL_mem hp).2.1⟩
  have htm : ∀ {i : Int}, 0 ≤ i → tm (setAll (fun k => k) x.now nodes x.times) i = if i ∈ nodes then x.now else tm x.times i := by
    intro i hi
    rw [tm_setAll _ _ _ _ _ hi (fun k hk => by obtain ⟨j, hj, e, _, _⟩ := en_at (hn k hk); omega), List.map_id']
  unfold stateOk at hnx
  simp only [Bool.and_eq_true, decide_eq_true_eq] at hnx
  obtain ⟨⟨⟨⟨⟨a1, a2⟩, a3⟩, a4⟩, a5⟩, a6⟩ := hnx
  have hT : (obsX (decX x nodes) (propL s nodes) vs).times = setAll (fun k => k) x.now nodes x.times := rfl
  have hN : (obsX (decX x nodes) (propL s nodes) vs).now = x.now + 1 := rfl
  have hV : (obsX (decX x nodes) (propL s nodes) vs).values = setV (propL s nodes) vs x.values (propL s nodes).length := rfl
  unfold stateOk
  simp only [Bool.and_eq_true, decide_eq_true_eq]
  refine ⟨⟨⟨⟨⟨h.ok, ?_⟩, ?_⟩, ?_⟩, ?_⟩, ?_⟩
  · rw [hN]; have := h.now; omega
  · rw [hT, setAll_len]; exact hln
  · rw [hV]
    unfold valuesOk
    rw [Bool.and_eq_true, decide_eq_true_eq, List.all_eq_true, setV_len]
    refine ⟨v1, ?_⟩
    intro y hy
    rcases mem_setV _ hy with h1 | ⟨i, hi, rfl⟩
    · exact decide_eq_true (v2 y h1)
    · have := hv (vs.getD i 0) (by rw [List.getD_eq_getElem?_getD, List.getElem?_eq_getElem (show i < vs.length by omega)]; exact List.getElem_mem _)
      exact decide_eq_true (by omega)
  · intro i hi
    rw [hT, setAll_len] at hi
    have h5 := a5 i hi
    unfold timeP at h5 ⊢
    rw [hT, hN]
    change (if i = 0 then decide (tm x.times 0 = 0) else decide (-1 ≤ tm x.times i ∧ tm x.times i ≤ x.now + 1 - 1)) = true at h5
    by_cases h0 : i = 0
    · rw [if_pos h0] at h5 ⊢
      rw [htm (Int.le_refl 0), if_neg (fun hm => by obtain ⟨j, _, e, hj, _⟩ := en_at (hn _ hm); omega)]
      exact h5
    · rw [if_neg h0] at h5 ⊢
      rw [decide_eq_true_eq] at h5 ⊢
      rw [htm (by omega)]
      have := h.now
      split <;> omega
  · intro i hi
    have h6 := a6 i hi
    unfold watchP at h6 ⊢
    rw [hT, hV]
    change (decide (tm x.values i ≠ 0) == (decide (0 ≤ watcherI s ((i : Int) + 1)) && decide (tm x.times (watcherI s ((i : Int) + 1)) ≠ -1))) = true at h6
    change (decide (tm (setV (propL s nodes) vs x.values (propL s nodes).length) i ≠ 0) == (decide (0 ≤ watcherI s ((i : Int) + 1)) && decide (tm (setAll (fun k => k) x.now nodes x.times) (watcherI s ((i : Int) + 1)) ≠ -1))) = true
    by_cases hw : 0 ≤ watcherI s ((i : Int) + 1)
    · rw [decide_eq_true hw, Bool.true_and, htm hw]
      rw [decide_eq_true hw, Bool.true_and] at h6
      by_cases hm : watcherI s ((i : Int) + 1) ∈ nodes
      · rw [if_pos hm, decide_eq_true (show x.now ≠ -1 by have := h.now; omega)]
        have hpm : (i : Int) + 1 ∈ propL s nodes := by
          unfold propL
          rw [List.mem_filter]
          unfold nProps at hi
          refine ⟨?_, decide_eq_true hm⟩
          simp only [List.mem_cons, List.not_mem_nil, or_false]
          omega
        obtain ⟨j, hj, e⟩ := List.getElem_of_mem hpm
        have hin := setV_in v1 hp hl _ (Nat.le_refl _) (i : Int) (by omega) ⟨j, hj, by rw [List.getD_eq_getElem?_getD, List.getElem?_eq_getElem hj, e, Option.getD_some]; omega⟩
        have := hv _ hin
        rw [decide_eq_true (show tm (setV (propL s nodes) vs x.values (propL s nodes).length) i ≠ 0 by omega)]; rfl
      · rw [if_neg hm, setV_tm v1 hp _ (Nat.le_refl _) _ (by omega)]
        · exact h6
        · intro j hj he
          refine hm ?_
          have := (propL_mem (s := s) (nodes := nodes) (p := (propL s nodes).getD j 0) (by rw [List.getD_eq_getElem?_getD, List.getElem?_eq_getElem hj]; exact List.getElem_mem _)).2.2
          rwa [show (propL s nodes).getD j 0 = (i : Int) + 1 by omega] at this
    · rw [decide_eq_false hw] at h6 ⊢
      rw [setV_tm v1 hp _ (Nat.le_refl _) _ (by omega)]
      · simpa using h6
      · intro j hj he
        have := (propL_mem (s := s) (nodes := nodes) (p := (propL s nodes).getD j 0) (by rw [List.getD_eq_getElem?_getD, List.getElem?_eq_getElem hj]; exact List.getElem_mem _)).2.2
        rw [show (propL s nodes).getD j 0 = (i : Int) + 1 by omega] at this
        obtain ⟨q, hq, e, _, _⟩ := en_at (hn _ this)
        omega
end Go.Proofs.YteijmljgodikiaaGreatZ
