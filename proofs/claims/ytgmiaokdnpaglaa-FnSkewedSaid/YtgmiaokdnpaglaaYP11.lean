/- Shows with times: areShown and l26Ok, BrokenTies, MarginOf. Own work. -/
import Derived.Test.YtgmiaokdnpaglaaYP9
set_option linter.all false
set_option linter.unusedVariables false
set_option linter.unusedSimpArgs false
namespace Go.Proofs.YtgmiaokdnpaglaaY
open Go

def timesOk (s : GShow) (ts : List Int) : Bool := showOk s && decide (ts.length = s.nodes.length) && ts.all (fun n => decide (-1 ≤ n ∧ n ≤ 1000000))

theorem areShown_eq (s : GShow) (ts : List Int) (hs : SmallS s) (ht : Cnt ts.length) : m_impl_areShown s ts = some (timesOk s ts) := by
  unfold m_impl_areShown timesOk
  rw [ShowOk_impl s hs]
  simp only [obnd]
  cases hA : showOk s
  · rfl
  · rw [if_pos rfl]
    by_cases hl : ts.length = s.nodes.length
    · rw [if_pos (by omega), decide_eq_true hl, ContainsFunc_int ts _ (fun n => !decide (-1 ≤ n ∧ n ≤ 1000000)) ht]
      · simp only [Bool.true_and]
        rw [List.all_eq_not_any_not]
      · intro x _
        unfold m_impl_areShown_c1
        by_cases h1 : x < -1
        · rw [if_pos h1, decide_eq_false (by omega)]; rfl
        · rw [if_neg h1]
          by_cases h2 : 1000000 < x
          · rw [decide_eq_true h2, decide_eq_false (by omega)]; rfl
          · rw [decide_eq_false h2, decide_eq_true (by omega)]; rfl
    · rw [if_neg (by omega), decide_eq_false hl]; rfl

theorem l26Ok_eq (s : GShow) (ts : List Int) (hs : SmallS s) (ht : Cnt ts.length) : m_spec_l26Ok s ts = some (timesOk s ts) := by
  unfold m_spec_l26Ok timesOk
  rw [ShowOk_spec s hs]
  simp only [obnd]
  cases hA : showOk s
  · rfl
  · rw [if_pos rfl]
    by_cases hl : ts.length = s.nodes.length
    · have key : loopO (m_spec_l26Ok_L1 ts ((ts.length : Nat) : Int)) ((0 : Nat) : Int) = some (if ts.all (fun n => decide (-1 ≤ n ∧ n ≤ 1000000)) = true then .inl () else .inr false) := by
        refine loopO_allL ts (fun n => decide (-1 ≤ n ∧ n ≤ 1000000)) (fun i => (i : Int)) ?_ ?_ ?_
        · intro i hi hq
          unfold m_spec_l26Ok_L1
          rw [if_pos (by omega), getI_lt hi, wr (x := (i : Int) + 1) (by omega) (by omega)]
          simp only [obnd, l01In_eq, hq, if_true]; rfl
        · intro i hi hq
          unfold m_spec_l26Ok_L1
          rw [if_pos (by omega), getI_lt hi]
          simp only [obnd, l01In_eq, hq]; rfl
        · unfold m_spec_l26Ok_L1
          rw [if_neg (by omega)]
      rw [if_pos (by omega), decide_eq_true hl, show (0 : Int) = ((0 : Nat) : Int) from rfl, key]
      cases ts.all (fun n => decide (-1 ≤ n ∧ n ≤ 1000000)) <;> rfl
    · rw [if_neg (by omega), decide_eq_false hl]; rfl

/-! ### What a show that is right has -/
structure RightT (s : GShow) (t : GTie) : Prop where
  f0 : 0 ≤ t.from_
  f1 : t.from_ < s.nodes.length
  t0 : 0 ≤ t.to
  t1 : t.to < s.nodes.length
  lo : -20 ≤ t.low
  hi : t.high ≤ 20
  lh : t.low ≤ t.high
structure Right (s : GShow) : Prop where
  tie : ∀ t, t ∈ s.ties → RightT s t
  ties : s.ties.length ≤ 14
  nodes : s.nodes.length ≤ 7
  node1 : 1 ≤ s.nodes.length
  hor : 1 ≤ s.horizon ∧ s.horizon ≤ 10
theorem showOk_right {s : GShow} (h : showOk s = true) : Right s := by
  unfold showOk nodesA at h
  simp only [Bool.and_eq_true, decide_eq_true_eq] at h
  obtain ⟨⟨⟨⟨⟨⟨h1, _⟩, _⟩, h2⟩, h3⟩, h4⟩, _⟩ := h
  refine ⟨?_, h3, h1.2, h1.1, h4⟩
  intro t ht
  obtain ⟨i, hi, rfl⟩ := List.getElem_of_mem ht
  have := h2 i hi
  rw [tieP_lt hi, Bool.and_eq_true] at this
  have hB := this.1
  unfold tieB at hB
  rw [decide_eq_true_eq] at hB
  obtain ⟨⟨a1, a2⟩, ⟨b1, b2⟩, c1, c2, c3, c4⟩ := hB
  exact ⟨a1, a2, b1, b2, c2, c3, c4⟩
structure TimesR (s : GShow) (ts : List Int) : Prop where
  right : Right s
  len : ts.length = s.nodes.length
  all : ∀ n, n ∈ ts → -1 ≤ n ∧ n ≤ 1000000
theorem timesOk_right {s : GShow} {ts : List Int} (h : timesOk s ts = true) : TimesR s ts := by
  unfold timesOk at h
  simp only [Bool.and_eq_true, decide_eq_true_eq, List.all_eq_true] at h
  exact ⟨showOk_right h.1.1, h.1.2, h.2⟩

/-- The time at a place. -/
def tm (ts : List Int) (i : Int) : Int := (ts[i.toNat]?).getD 0
theorem getI_tm {ts : List Int} {i : Int} (h0 : 0 ≤ i) (h1 : i < ts.length) : getI ts i = some (tm ts i) := by
  unfold getI tm
  rw [if_pos h0, List.getElem?_eq_getElem (by omega)]; rfl
theorem tm_mem {ts : List Int} {i : Int} (h0 : 0 ≤ i) (h1 : i < ts.length) : tm ts i ∈ ts := by
  unfold tm
  rw [List.getElem?_eq_getElem (by omega)]
  exact List.getElem_mem _
theorem tm_b {s : GShow} {ts : List Int} (h : TimesR s ts) {i : Int} (h0 : 0 ≤ i) (h1 : i < s.nodes.length) : -1 ≤ tm ts i ∧ tm ts i ≤ 1000000 := h.all _ (tm_mem h0 (by rw [h.len]; exact h1))

/-! ### The places of those of a kind -/
def places (p : Nat → Bool) (n : Nat) : List Int := ((List.range n).filter p).map (fun (i : Nat) => (i : Int))
theorem places_zero (p : Nat → Bool) : places p 0 = [] := rfl
theorem places_yes {p : Nat → Bool} {n : Nat} (h : p n = true) : places p (n + 1) = places p n ++ [(n : Int)] := by
  unfold places
  rw [List.range_succ, List.filter_append, List.map_append]
  simp [h]
theorem places_no {p : Nat → Bool} {n : Nat} (h : p n = false) : places p (n + 1) = places p n := by
  unfold places
  rw [List.range_succ, List.filter_append, List.map_append]
  simp [h]
theorem places_len (p : Nat → Bool) (n : Nat) : (places p n).length ≤ n := by
  unfold places
  rw [List.length_map]
  have := List.length_filter_le p (List.range n)
  simpa using this

def brokenT (ts : List Int) (t : GTie) : Bool := decide (tm ts t.from_ ≠ -1 ∧ tm ts t.to ≠ -1 ∧ (tm ts t.to - tm ts t.from_ < t.low ∨ t.high < tm ts t.to - tm ts t.from_))
def brokenAt (s : GShow) (ts : List Int) (i : Nat) : Bool := (s.ties[i]?).any (brokenT ts)
def broken (s : GShow) (ts : List Int) : List Int := if timesOk s ts = true then places (brokenAt s ts) s.ties.length else []

theorem broken_len (s : GShow) (ts : List Int) (hs : s.ties.length ≤ 1048576) : (broken s ts).length ≤ 1048576 := by
  unfold broken
  split
  · exact Nat.le_trans (places_len _ _) hs
  · simp

theorem BrokenTies_impl (s : GShow) (ts : List Int) (hs : SmallS s) (ht : Cnt ts.length) : m_impl_BrokenTies s ts = some (broken s ts) := by
  unfold m_impl_BrokenTies broken
  rw [areShown_eq s ts hs ht]
  simp only [obnd]
  cases hA : timesOk s ts
  · rfl
  · have hR := timesOk_right hA
    rw [if_pos rfl, if_pos rfl]
    have hlen := hR.right.ties
    have key : loopO (m_impl_BrokenTies_L1 ts s.ties ((s.ties.length : Nat) : Int)) (((0 : Nat) : Int), places (brokenAt s ts) 0) = some (places (brokenAt s ts) s.ties.length) := by
      refine loopO_to s.ties.length (fun i => ((i : Int), places (brokenAt s ts) i)) ?_ ?_
      · intro i hi
        have hT := hR.right.tie _ (List.getElem_mem hi)
        have e : brokenAt s ts i = brokenT ts s.ties[i] := by unfold brokenAt; rw [List.getElem?_eq_getElem hi]; rfl
        have hb1 := tm_b hR hT.f0 hT.f1
        have hb2 := tm_b hR hT.t0 hT.t1
        have hpl := places_len (brokenAt s ts) i
        have hln := hR.len
        unfold m_impl_BrokenTies_L1
        simp only
        rw [if_pos (by omega), getI_lt hi, wr (x := (i : Int) + 1) (by omega) (by omega)]
        simp only [obnd]
        rw [getI_tm hT.f0 (by have := hT.f1; omega), getI_tm hT.t0 (by have := hT.t1; omega)]
        simp only
        rw [wr (x := tm ts s.ties[i].to - tm ts s.ties[i].from_) (by omega) (by omega)]
        unfold brokenT at e
        by_cases h1 : tm ts s.ties[i].from_ = -1
        · rw [if_pos h1, places_no (by rw [e]; exact decide_eq_false (fun h => h.1 h1))]; rfl
        · rw [if_neg h1]
          by_cases h2 : tm ts s.ties[i].to = -1
          · rw [if_pos h2, places_no (by rw [e]; exact decide_eq_false (fun h => h.2.1 h2))]; rfl
          · rw [if_neg h2]
            by_cases h3 : tm ts s.ties[i].to - tm ts s.ties[i].from_ < s.ties[i].low
            · rw [if_pos h3, chk_pos (by omega), chk_pos (by omega), places_yes (by rw [e]; exact decide_eq_true ⟨h1, h2, .inl h3⟩)]; rfl
            · rw [if_neg h3]
              by_cases h4 : s.ties[i].high < tm ts s.ties[i].to - tm ts s.ties[i].from_
              · rw [if_pos h4, chk_pos (by omega), chk_pos (by omega), places_yes (by rw [e]; exact decide_eq_true ⟨h1, h2, .inr h4⟩)]; rfl
              · rw [if_neg h4, places_no (by rw [e]; exact decide_eq_false (fun h => by omega))]; rfl
      · unfold m_impl_BrokenTies_L1
        simp only
        rw [if_neg (by omega)]
    rw [places_zero] at key
    rw [show (0 : Int) = ((0 : Nat) : Int) from rfl, key]

theorem BrokenTies_spec (s : GShow) (ts : List Int) (hs : SmallS s) (ht : Cnt ts.length) : m_spec_BrokenTies s ts = some (broken s ts) := by
  unfold m_spec_BrokenTies broken
  rw [l26Ok_eq s ts hs ht]
  simp only [obnd]
  cases hA : timesOk s ts
  · rfl
  · have hR := timesOk_right hA
    rw [if_pos rfl, if_pos rfl]
    have hlen := hR.right.ties
    have key : loopO (m_spec_BrokenTies_L1 ts s.ties ((s.ties.length : Nat) : Int)) (((0 : Nat) : Int), places (brokenAt s ts) 0) = some (places (brokenAt s ts) s.ties.length) := by
      refine loopO_to s.ties.length (fun i => ((i : Int), places (brokenAt s ts) i)) ?_ ?_
      · intro i hi
        have hT := hR.right.tie _ (List.getElem_mem hi)
        have e : brokenAt s ts i = brokenT ts s.ties[i] := by unfold brokenAt; rw [List.getElem?_eq_getElem hi]; rfl
        have hb1 := tm_b hR hT.f0 hT.f1
        have hb2 := tm_b hR hT.t0 hT.t1
        have hpl := places_len (brokenAt s ts) i
        have hln := hR.len
        unfold m_spec_BrokenTies_L1
        simp only
        rw [if_pos (by omega), getI_lt hi, wr (x := (i : Int) + 1) (by omega) (by omega)]
        simp only [obnd]
        rw [getI_tm hT.f0 (by have := hT.f1; omega), getI_tm hT.t0 (by have := hT.t1; omega)]
        simp only [l01In_eq]
        rw [wr (x := tm ts s.ties[i].to - tm ts s.ties[i].from_) (by omega) (by omega)]
        unfold brokenT at e
        by_cases h1 : tm ts s.ties[i].from_ = -1
        · rw [if_pos h1, places_no (by rw [e]; exact decide_eq_false (fun h => h.1 h1))]; rfl
        · rw [if_neg h1]
          by_cases h2 : tm ts s.ties[i].to = -1
          · rw [if_pos h2, places_no (by rw [e]; exact decide_eq_false (fun h => h.2.1 h2))]; rfl
          · rw [if_neg h2]
            by_cases h3 : s.ties[i].low ≤ tm ts s.ties[i].to - tm ts s.ties[i].from_ ∧ tm ts s.ties[i].to - tm ts s.ties[i].from_ ≤ s.ties[i].high
            · rw [if_pos (decide_eq_true h3), places_no (by rw [e]; exact decide_eq_false (fun h => by omega))]; rfl
            · rw [if_neg (by rw [decide_eq_false h3]; simp), chk_pos (by omega), chk_pos (by omega), places_yes (by rw [e]; exact decide_eq_true ⟨h1, h2, by omega⟩)]; rfl
      · unfold m_spec_BrokenTies_L1
        simp only
        rw [if_neg (by omega)]
    rw [places_zero] at key
    rw [show (0 : Int) = ((0 : Nat) : Int) from rfl, key]

theorem BrokenTies_law (s : GShow) (ts : List Int) (hb : BdS s) : m_laws_FnExactBrokenTies s ts = some true := by
  unfold m_laws_FnExactBrokenTies
  by_cases h1 : ts.length ≤ 1048576
  · rw [if_neg (by omega)]
    obtain ⟨r, hr, hp⟩ := szShow_ok hb
    rw [hr]
    simp only [obnd]
    by_cases h3 : r < 0
    · rw [if_pos h3]
    · rw [if_neg h3]
      have hf : FitS s := by
        rcases hp with hp | hp
        · exact absurd hp h3
        · exact hp
      have hlen := broken_len s ts hf.ties
      have hc : Cnt ts.length := by unfold Cnt; omega
      simp only [toShow_eq s hf, toIntS_eq _ h1, BrokenTies_impl s ts hf.small hc, BrokenTies_spec s ts hf.small hc]
      generalize broken s ts = g at hlen ⊢
      obtain ⟨q, hq, hq1, hq2⟩ := markShow_ok s 1 hf (by omega) (by omega)
      have e1 : m_laws_eqIntS g g = some true := by rw [eqIntS_eq _ _ (by unfold Cnt; omega)]; simp
      have e2 : m_laws_eqIntS ts ts = some true := by rw [eqIntS_eq _ _ hc]; simp
      simp only [e1, e2, eqShow_self s hf, hq, if_true]
      rw [markIntS_eq ts q.1 h1 (by omega) (by omega)]
      simp only
      rw [if_neg (by omega), markIntS_eq g 1 hlen (by omega) (by omega)]
      simp only
      rw [chk_pos (by rw [mkI_length]; omega), mkI_take, heldIntS_eq 1 _ hlen (by omega) (by omega)]
      simp only
      rw [if_neg (by omega)]
      simp
      omega
  · rw [if_pos (by omega)]

/-! ### MarginOf -/
def marginT (ts : List Int) (t : GTie) : Int :=
  if tm ts t.from_ = -1 ∨ tm ts t.to = -1 then -1
  else if t.low ≤ tm ts t.to - tm ts t.from_ ∧ tm ts t.to - tm ts t.from_ ≤ t.high then (if t.high - (tm ts t.to - tm ts t.from_) < tm ts t.to - tm ts t.from_ - t.low then t.high - (tm ts t.to - tm ts t.from_) else tm ts t.to - tm ts t.from_ - t.low) else -1
def margin (s : GShow) (ts : List Int) (k : Int) : Int := if timesOk s ts = true ∧ 0 ≤ k then ((s.ties[k.toNat]?).map (marginT ts)).getD (-1) else -1

theorem MarginOf_impl (s : GShow) (ts : List Int) (k : Int) (hs : SmallS s) (ht : Cnt ts.length) : m_impl_MarginOf s ts k = some (margin s ts k) := by
  unfold m_impl_MarginOf margin
  rw [areShown_eq s ts hs ht]
  simp only [obnd]
  cases hA : timesOk s ts
  · simp
  · have hR := timesOk_right hA
    rw [if_pos rfl, isNode_eq]
    simp only [true_and]
    by_cases hk : 0 ≤ k ∧ k < (s.ties.length : Int)
    · have hi : k.toNat < s.ties.length := by omega
      have hT := hR.right.tie _ (List.getElem_mem hi)
      have hb1 := tm_b hR hT.f0 hT.f1
      have hb2 := tm_b hR hT.t0 hT.t1
      have hln := hR.len
      have e : getI s.ties k = some s.ties[k.toNat] := by unfold getI; rw [if_pos hk.1, List.getElem?_eq_getElem hi]
      rw [if_pos (decide_eq_true hk), if_pos hk.1, e, List.getElem?_eq_getElem hi]
      simp only [Option.map_some, Option.getD_some]
      rw [getI_tm hT.f0 (by have := hT.f1; omega), getI_tm hT.t0 (by have := hT.t1; omega)]
      have hl := hT.lo; have hh := hT.hi; have hlh := hT.lh
      revert hb1 hb2 hl hh hlh
      generalize s.ties[k.toNat] = t
      intro hb1 hb2 hl hh hlh
      unfold marginT
      simp only
      generalize tm ts t.from_ = a at *
      generalize tm ts t.to = b at *
      rw [wr (x := b - a) (by omega) (by omega), wr (x := t.high - (b - a)) (by omega) (by omega), wr (x := b - a - t.low) (by omega) (by omega)]
      by_cases h1 : a = -1
      · rw [if_pos h1, if_pos (.inl h1)]
      · rw [if_neg h1]
        by_cases h2 : b = -1
        · rw [if_pos h2, if_pos (.inr h2)]
        · rw [if_neg h2]
          have hor : ¬ (a = -1 ∨ b = -1) := by omega
          rw [if_neg hor]
          by_cases hm : t.high - (b - a) < b - a - t.low
          · simp only [if_pos hm]
            by_cases h5 : t.low ≤ b - a ∧ b - a ≤ t.high
            · rw [if_pos h5, if_pos (by omega)]
            · rw [if_neg h5, if_neg (by omega)]
          · simp only [if_neg hm]
            by_cases h5 : t.low ≤ b - a ∧ b - a ≤ t.high
            · rw [if_pos h5, if_pos (by omega)]
            · rw [if_neg h5, if_neg (by omega)]
    · rw [if_neg (by rw [decide_eq_false hk]; simp)]
      by_cases h0 : 0 ≤ k
      · rw [if_pos h0, List.getElem?_eq_none (by omega)]; rfl
      · rw [if_neg h0]

theorem MarginOf_spec (s : GShow) (ts : List Int) (k : Int) (hs : SmallS s) (ht : Cnt ts.length) : m_spec_MarginOf s ts k = some (margin s ts k) := by
  have h1 := hs.ties
  unfold m_spec_MarginOf margin
  rw [l26Ok_eq s ts hs ht]
  simp only [obnd]
  cases hA : timesOk s ts
  · simp
  · have hR := timesOk_right hA
    rw [if_pos rfl, l01In_eq, wr (x := (s.ties.length : Int) - 1) (by omega) (by omega)]
    simp only [true_and]
    by_cases hk : 0 ≤ k ∧ k ≤ (s.ties.length : Int) - 1
    · have hi : k.toNat < s.ties.length := by omega
      have hT := hR.right.tie _ (List.getElem_mem hi)
      have hb1 := tm_b hR hT.f0 hT.f1
      have hb2 := tm_b hR hT.t0 hT.t1
      have hln := hR.len
      have e : getI s.ties k = some s.ties[k.toNat] := by unfold getI; rw [if_pos hk.1, List.getElem?_eq_getElem hi]
      rw [if_pos (decide_eq_true hk), if_pos hk.1, e, List.getElem?_eq_getElem hi]
      simp only [Option.map_some, Option.getD_some]
      rw [getI_tm hT.f0 (by have := hT.f1; omega), getI_tm hT.t0 (by have := hT.t1; omega)]
      have hl := hT.lo; have hh := hT.hi; have hlh := hT.lh
      revert hb1 hb2 hl hh hlh
      generalize s.ties[k.toNat] = t
      intro hb1 hb2 hl hh hlh
      unfold marginT
      simp only [l01In_eq]
      generalize tm ts t.from_ = a at *
      generalize tm ts t.to = b at *
      rw [wr (x := b - a) (by omega) (by omega), wr (x := t.high - (b - a)) (by omega) (by omega), wr (x := b - a - t.low) (by omega) (by omega)]
      by_cases h1 : a = -1
      · rw [if_pos h1, if_pos (.inl h1)]
      · rw [if_neg h1]
        by_cases h2 : b = -1
        · rw [if_pos h2, if_pos (.inr h2)]
        · have hor : ¬ (a = -1 ∨ b = -1) := by omega
          rw [if_neg h2, if_neg hor]
          by_cases h3 : t.low ≤ b - a ∧ b - a ≤ t.high
          · rw [if_pos (decide_eq_true h3), if_pos h3]
          · rw [if_neg (by rw [decide_eq_false h3]; simp), if_neg h3]
    · rw [if_neg (by rw [decide_eq_false hk]; simp)]
      by_cases h0 : 0 ≤ k
      · rw [if_pos h0, List.getElem?_eq_none (by omega)]; rfl
      · rw [if_neg h0]

theorem MarginOf_law (s : GShow) (ts : List Int) (k : Int) (hb : BdS s) : m_laws_FnExactMarginOf s ts k = some true := by
  unfold m_laws_FnExactMarginOf
  by_cases h1 : ts.length ≤ 1048576
  · rw [if_neg (by omega)]
    obtain ⟨r, hr, hp⟩ := szShow_ok hb
    rw [hr]
    simp only [obnd]
    by_cases h3 : r < 0
    · rw [if_pos h3]
    · rw [if_neg h3]
      have hf : FitS s := by
        rcases hp with hp | hp
        · exact absurd hp h3
        · exact hp
      have hc : Cnt ts.length := by unfold Cnt; omega
      simp only [toShow_eq s hf, toIntS_eq _ h1, MarginOf_impl s ts k hf.small hc, MarginOf_spec s ts k hf.small hc]
      have e2 : m_laws_eqIntS ts ts = some true := by rw [eqIntS_eq _ _ hc]; simp
      simp only [e2, eqShow_self s hf, if_true]
  · rw [if_pos (by omega)]
end Go.Proofs.YtgmiaokdnpaglaaY
