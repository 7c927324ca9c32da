/- Takes: TakesOk, KeepsAssumptions, ObservedRange. Own work. -/
import Derived.Test.YtgmiaokdnpaglaaYP11
set_option linter.all false
set_option linter.unusedVariables false
set_option linter.unusedSimpArgs false
namespace Go.Proofs.YtgmiaokdnpaglaaY
open Go

/-! ### Copied, weighed, compared -/
theorem toTakeS_eq (a : List GTake) (ha : a.length ≤ 1048576) : m_laws_toTakeS a = some a := by
  unfold m_laws_toTakeS
  rw [chk_pos (by omega), chk_pos (by omega)]
  generalize hz : (GTake.mk 0 0) = z
  have key : loopO (m_laws_toTakeS_L1 a) (((0 : Nat) : Int), half z a 0) = some a := by
    refine loopO_to a.length (fun i => ((i : Int), half z a i)) ?_ ?_
    · intro i hi
      have h2 : getI (half z a i) (i : Int) = some z := by
        unfold getI; rw [if_pos (by omega), Int.toNat_natCast, half_get z a i hi]
      unfold m_laws_toTakeS_L1
      simp only
      rw [if_pos (by omega), getI_lt hi, h2, wr (x := (i : Int) + 1) (by omega) (by omega)]
      simp only [obnd, Int.toNat_natCast, m_laws_toTake]
      rw [half_step z a i hi]; rfl
    · unfold m_laws_toTakeS_L1
      simp only
      rw [if_neg (by omega), half_all]
  rw [half_zero] at key
  rw [show (0 : Int) = ((0 : Nat) : Int) from rfl] at *
  rw [key]; rfl
theorem szTakeS_ok {a : List GTake} {l : Int} (hl : l ≤ 1048576) (h0 : 0 ≤ l) (ha : a.length ≤ maxLen) : m_laws_szTakeS a l = some (if l - a.length < 0 then -1 else l - a.length) := by
  unfold maxLen at ha
  unfold m_laws_szTakeS
  rw [wr (by omega) (by omega)]
  split <;> rfl
theorem eqTakeS_self (a : List GTake) (ha : a.length ≤ 1048576) : m_laws_eqTakeS a a = some true := by
  unfold m_laws_eqTakeS
  rw [if_pos rfl]
  have key : loopO (m_laws_eqTakeS_L1 a a) ((0 : Nat) : Int) = some (.inl ()) := by
    refine loopO_to a.length (fun i => (i : Int)) ?_ ?_
    · intro i hi
      unfold m_laws_eqTakeS_L1
      rw [if_pos (by omega), getI_lt hi, wr (x := (i : Int) + 1) (by omega) (by omega)]
      simp only [obnd, m_laws_eqTake, if_true]; rfl
    · unfold m_laws_eqTakeS_L1
      rw [if_neg (by omega)]
  rw [show (0 : Int) = ((0 : Nat) : Int) from rfl, key]; rfl
/-- A show is weighed: what is left. -/
theorem szShow_left {s : GShow} (hb : BdS s) : ∃ r, m_laws_szShow s 1048576 = some r ∧ (r < 0 ∨ (FitS s ∧ 0 ≤ r ∧ r ≤ 1048576)) := by
  unfold m_laws_szShow
  obtain ⟨r, hr, hp⟩ := szNodeS_ok (l := 1048576) (by omega) (by omega) hb.nodes hb.node
  rw [hr]
  simp only [obnd]
  rcases hp with hp | ⟨h1, h2, h3, h4⟩
  · rw [if_pos hp]; exact ⟨_, rfl, .inl (by omega)⟩
  · rw [if_neg (by omega), szTieS_ok h2 h1 hb.ties]
    simp only
    by_cases h : r - (s.ties.length : Int) < 0
    · rw [if_pos h]; exact ⟨_, rfl, .inl (by omega)⟩
    · rw [if_neg h, if_neg h]
      exact ⟨_, rfl, .inr ⟨⟨by omega, by omega, fun n hn => ⟨by have := (h4 n hn).1; omega, by have := (h4 n hn).2; omega⟩⟩, by omega, by omega⟩⟩

/-! ### TakesOk -/
def takeT (s : GShow) (t : GTake) : Bool := decide (0 ≤ t.tie) && (s.ties[t.tie.toNat]?).any (fun u => u.free && decide (u.low ≤ t.length ∧ t.length ≤ u.high))
def takesOk (s : GShow) (l : List GTake) : Bool := showOk s && decide (l.length ≤ 20) && l.all (takeT s)

theorem TakesOk_impl (s : GShow) (l : List GTake) (hs : SmallS s) (hl : Cnt l.length) : m_impl_TakesOk s l = some (takesOk s l) := by
  unfold m_impl_TakesOk takesOk
  rw [ShowOk_impl s hs]
  simp only [obnd]
  cases hA : showOk s
  · rfl
  · rw [if_pos rfl]
    by_cases h20 : l.length ≤ 20
    · rw [if_neg (by omega), decide_eq_true h20, ContainsFunc_Take l _ (fun t => !takeT s t) hl]
      · simp only [Bool.true_and]
        rw [List.all_eq_not_any_not]
      · intro t _
        unfold m_impl_TakesOk_c1 takeT
        rw [isNode_eq]
        simp only [obnd]
        by_cases hk : 0 ≤ t.tie ∧ t.tie < (s.ties.length : Int)
        · have hi : t.tie.toNat < s.ties.length := by omega
          have e : getI s.ties t.tie = some s.ties[t.tie.toNat] := by unfold getI; rw [if_pos hk.1, List.getElem?_eq_getElem hi]
          rw [if_pos (decide_eq_true hk), decide_eq_true hk.1, e, List.getElem?_eq_getElem hi]
          simp only [Option.any_some, Bool.true_and]
          cases s.ties[t.tie.toNat].free
          · rfl
          · rw [if_pos rfl]
            by_cases h1 : t.length < s.ties[t.tie.toNat].low
            · rw [if_pos h1, decide_eq_false (by omega)]; rfl
            · rw [if_neg h1]
              by_cases h2 : s.ties[t.tie.toNat].high < t.length
              · rw [decide_eq_true h2, decide_eq_false (by omega)]; rfl
              · rw [decide_eq_false h2, decide_eq_true (by omega)]; rfl
        · rw [if_neg (by rw [decide_eq_false hk]; simp)]
          by_cases h0 : 0 ≤ t.tie
          · rw [List.getElem?_eq_none (by omega)]; simp
          · rw [decide_eq_false h0]; rfl
    · rw [if_pos (by omega), decide_eq_false h20]; rfl

theorem TakesOk_spec (s : GShow) (l : List GTake) (hs : SmallS s) (hl : Cnt l.length) : m_spec_TakesOk s l = some (takesOk s l) := by
  have ht := hs.ties
  unfold m_spec_TakesOk takesOk
  rw [ShowOk_spec s hs]
  simp only [obnd]
  cases hA : showOk s
  · rfl
  · rw [if_pos rfl]
    by_cases h20 : l.length ≤ 20
    · have stp : ∀ i (hi : i < l.length), m_spec_TakesOk_L1 l ((l.length : Nat) : Int) s.nodes s.ties s.horizon ((i : Nat) : Int) = some (if takeT s l[i] = true then .next ((i + 1 : Nat) : Int) else .done (.inr false)) := by
        intro i hi
        unfold m_spec_TakesOk_L1
        rw [if_pos (by omega), getI_lt hi, wr (x := (i : Int) + 1) (by omega) (by omega), wr (x := (s.ties.length : Int) - 1) (by omega) (by omega)]
        generalize l[i] = t
        simp only [obnd, l01In_eq]
        unfold takeT
        by_cases hk : 0 ≤ t.tie ∧ t.tie ≤ (s.ties.length : Int) - 1
        · have hi : t.tie.toNat < s.ties.length := by omega
          have e : getI s.ties t.tie = some s.ties[t.tie.toNat] := by unfold getI; rw [if_pos hk.1, List.getElem?_eq_getElem hi]
          rw [if_pos (decide_eq_true hk), decide_eq_true hk.1, e, List.getElem?_eq_getElem hi]
          simp only [Option.any_some, Bool.true_and]
          cases s.ties[t.tie.toNat].free
          · rfl
          · rw [if_pos rfl, Bool.true_and]
            split <;> rfl
        · rw [if_neg (by rw [decide_eq_false hk]; simp)]
          by_cases h0 : 0 ≤ t.tie
          · rw [List.getElem?_eq_none (by omega)]; simp
          · rw [decide_eq_false h0]; rfl
      have key : loopO (m_spec_TakesOk_L1 l ((l.length : Nat) : Int) s.nodes s.ties s.horizon) ((0 : Nat) : Int) = some (if l.all (takeT s) = true then .inl () else .inr false) := by
        refine loopO_allL l (takeT s) (fun i => (i : Int)) ?_ ?_ ?_
        · intro i hi hq
          simp only [stp i hi, hq, if_true]
        · intro i hi hq
          simp only [stp i hi, hq]; rfl
        · unfold m_spec_TakesOk_L1
          rw [if_neg (by omega)]
      rw [if_neg (by omega), decide_eq_true h20, show (0 : Int) = ((0 : Nat) : Int) from rfl, key]
      cases l.all (takeT s) <;> rfl
    · rw [if_pos (by omega), decide_eq_false h20]; rfl

/-- What the laws of a show and takes ask, as far as the arguments go. -/
theorem takes_fit {s : GShow} {l : List GTake} (hb : BdS s) (hl : l.length ≤ maxLen) : ∃ r, m_laws_szShow s 1048576 = some r ∧ (r < 0 ∨ (0 ≤ r ∧ FitS s ∧ ∃ q, m_laws_szTakeS l r = some q ∧ (q < 0 ∨ (0 ≤ q ∧ l.length ≤ 1048576)))) := by
  obtain ⟨r, hr, hp⟩ := szShow_left hb
  refine ⟨r, hr, ?_⟩
  rcases hp with hp | ⟨hf, h0, h1⟩
  · exact .inl hp
  · refine .inr ⟨h0, hf, _, szTakeS_ok h1 h0 hl, ?_⟩
    split
    · exact .inl (by omega)
    · exact .inr ⟨by omega, by omega⟩

theorem TakesOk_law (s : GShow) (l : List GTake) (hb : BdS s) (hl : l.length ≤ maxLen) : m_laws_FnExactTakesOk s l = some true := by
  unfold m_laws_FnExactTakesOk
  obtain ⟨r, hr, hp⟩ := takes_fit hb hl
  rw [hr]
  simp only [obnd]
  rcases hp with hp | ⟨h0, hf, q, hq, hp⟩
  · rw [if_pos hp]
  · rw [if_neg (by omega), hq]
    simp only
    rcases hp with hp | ⟨h1, h2⟩
    · rw [if_pos hp]
    · have hc : Cnt l.length := by unfold Cnt; omega
      rw [if_neg (by omega)]
      simp only [toShow_eq s hf, toTakeS_eq _ h2, TakesOk_impl s l hf.small hc, TakesOk_spec s l hf.small hc, eqShow_self s hf, eqTakeS_self l h2, if_true]
theorem KeepsAssumptions_law (s : GShow) (l : List GTake) (hb : BdS s) (hl : l.length ≤ maxLen) : m_laws_FnExactKeepsAssumptions s l = some true := by
  unfold m_laws_FnExactKeepsAssumptions
  obtain ⟨r, hr, hp⟩ := takes_fit hb hl
  rw [hr]
  simp only [obnd]
  rcases hp with hp | ⟨h0, hf, q, hq, hp⟩
  · rw [if_pos hp]
  · rw [if_neg (by omega), hq]
    simp only
    rcases hp with hp | ⟨h1, h2⟩
    · rw [if_pos hp]
    · have hc : Cnt l.length := by unfold Cnt; omega
      rw [if_neg (by omega)]
      unfold m_impl_KeepsAssumptions m_spec_KeepsAssumptions
      simp only [obnd, toShow_eq s hf, toTakeS_eq _ h2, TakesOk_impl s l hf.small hc, TakesOk_spec s l hf.small hc, eqShow_self s hf, eqTakeS_self l h2, if_true]

/-! ### ObservedRange -/
def lenOf (k : Int) (l : List GTake) : List Int := (l.filter (fun t => decide (t.tie = k))).map (fun t => t.length)
def minL (l : List Int) : Int := match l with | [] => 0 | x :: r => r.foldl (fun m y => if y < m then y else m) x
def maxL (l : List Int) : Int := match l with | [] => 0 | x :: r => r.foldl (fun m y => if m < y then y else m) x

theorem minL_snoc {l : List Int} (h : l ≠ []) (y : Int) : minL (l ++ [y]) = if y < minL l then y else minL l := by
  cases l with
  | nil => exact absurd rfl h
  | cons x r =>
    show (r ++ [y]).foldl _ x = _
    rw [List.foldl_append]; rfl
theorem maxL_snoc {l : List Int} (h : l ≠ []) (y : Int) : maxL (l ++ [y]) = if maxL l < y then y else maxL l := by
  cases l with
  | nil => exact absurd rfl h
  | cons x r =>
    show (r ++ [y]).foldl _ x = _
    rw [List.foldl_append]; rfl
theorem take_succ_of {α : Type} {l : List α} {i : Nat} (h : i < l.length) : l.take (i + 1) = l.take i ++ [l[i]] := by
  rw [List.take_add_one, List.getElem?_eq_getElem h]; rfl
theorem Min_int (l : List Int) (h : l ≠ []) (hl : Cnt l.length) : m_slices_Min_int l = some (minL l) := by
  unfold m_slices_Min_int
  have hp := List.length_pos_iff.2 h
  rw [if_neg (by omega), show (0 : Int) = ((0 : Nat) : Int) from rfl, getI_lt hp]
  simp only [obnd]
  have key : loopO (m_slices_Min_int_L1 l) (minL (l.take (0 + 1)), ((0 + 1 : Nat) : Int)) = some (minL l) := by
    refine loopO_to (l.length - 1) (fun i => (minL (l.take (i + 1)), ((i + 1 : Nat) : Int))) ?_ ?_
    · intro i hi
      unfold m_slices_Min_int_L1
      simp only
      rw [if_pos (by omega), getI_lt (by omega), wr (by omega) (by omega)]
      simp only [obnd]
      rw [take_succ_of (i := i + 1) (by omega), minL_snoc (by intro he; have h9 := congrArg List.length he; rw [List.length_take, List.length_nil] at h9; omega)]; rfl
    · unfold m_slices_Min_int_L1
      simp only
      rw [if_neg (by omega), List.take_of_length_le (by omega)]
  have e : minL (l.take (0 + 1)) = l[0] := by
    cases l with
    | nil => exact absurd rfl h
    | cons x r => rfl
  rw [e] at key
  rw [show (1 : Int) = ((0 + 1 : Nat) : Int) from rfl, key]
theorem Max_int (l : List Int) (h : l ≠ []) (hl : Cnt l.length) : m_slices_Max_int l = some (maxL l) := by
  unfold m_slices_Max_int
  have hp := List.length_pos_iff.2 h
  rw [if_neg (by omega), show (0 : Int) = ((0 : Nat) : Int) from rfl, getI_lt hp]
  simp only [obnd]
  have key : loopO (m_slices_Max_int_L1 l) (maxL (l.take (0 + 1)), ((0 + 1 : Nat) : Int)) = some (maxL l) := by
    refine loopO_to (l.length - 1) (fun i => (maxL (l.take (i + 1)), ((i + 1 : Nat) : Int))) ?_ ?_
    · intro i hi
      unfold m_slices_Max_int_L1
      simp only
      rw [if_pos (by omega), getI_lt (by omega), wr (by omega) (by omega)]
      simp only [obnd]
      rw [take_succ_of (i := i + 1) (by omega), maxL_snoc (by intro he; have h9 := congrArg List.length he; rw [List.length_take, List.length_nil] at h9; omega)]; rfl
    · unfold m_slices_Max_int_L1
      simp only
      rw [if_neg (by omega), List.take_of_length_le (by omega)]
  have e : maxL (l.take (0 + 1)) = l[0] := by
    cases l with
    | nil => exact absurd rfl h
    | cons x r => rfl
  rw [e] at key
  rw [show (1 : Int) = ((0 + 1 : Nat) : Int) from rfl, key]

def rangeOf (s : GShow) (l : List GTake) (k : Int) : GInterval × Bool := if takesOk s l = true then (if lenOf k l = [] then (⟨0, 0⟩, false) else (⟨minL (lenOf k l), maxL (lenOf k l)⟩, true)) else (⟨0, 0⟩, false)

theorem lenOf_len (k : Int) (l : List GTake) : (lenOf k l).length ≤ l.length := by
  unfold lenOf
  rw [List.length_map]
  exact List.length_filter_le _ _
theorem lenOf_yes {k : Int} {l : List GTake} {i : Nat} (h : i < l.length) (hk : l[i].tie = k) : lenOf k (l.take (i + 1)) = lenOf k (l.take i) ++ [l[i].length] := by
  unfold lenOf
  rw [take_succ_of h, List.filter_append, List.map_append]
  simp [hk]
theorem lenOf_no {k : Int} {l : List GTake} {i : Nat} (h : i < l.length) (hk : ¬ l[i].tie = k) : lenOf k (l.take (i + 1)) = lenOf k (l.take i) := by
  unfold lenOf
  rw [take_succ_of h, List.filter_append, List.map_append]
  simp [hk]

theorem ObservedRange_impl (s : GShow) (l : List GTake) (k : Int) (hs : SmallS s) (hl : l.length ≤ 1048576) : m_impl_ObservedRange s l k = some (rangeOf s l k) := by
  have hc : Cnt l.length := by unfold Cnt; omega
  unfold m_impl_ObservedRange rangeOf
  rw [TakesOk_impl s l hs hc]
  simp only [obnd]
  cases takesOk s l
  · rfl
  · rw [if_pos rfl, if_pos rfl]
    have key : loopO (m_impl_ObservedRange_L1 k l ((l.length : Nat) : Int)) (((0 : Nat) : Int), lenOf k (l.take 0)) = some (lenOf k l) := by
      refine loopO_to l.length (fun i => ((i : Int), lenOf k (l.take i))) ?_ ?_
      · intro i hi
        have hln := lenOf_len k (l.take i)
        rw [List.length_take] at hln
        unfold m_impl_ObservedRange_L1
        simp only
        rw [if_pos (by omega), getI_lt hi, wr (x := (i : Int) + 1) (by omega) (by omega)]
        simp only [obnd]
        by_cases h : l[i].tie = k
        · rw [if_pos h, chk_pos (by omega), chk_pos (by omega), lenOf_yes hi h]; rfl
        · rw [if_neg h, lenOf_no hi h]; rfl
      · unfold m_impl_ObservedRange_L1
        simp only
        rw [if_neg (by omega), List.take_length]
    rw [show lenOf k (l.take 0) = [] from rfl] at key
    rw [show (0 : Int) = ((0 : Nat) : Int) from rfl, key]
    simp only
    have hln := lenOf_len k l
    by_cases h : lenOf k l = []
    · rw [if_pos (by rw [h]; rfl), if_pos h]
    · have := List.length_pos_iff.2 h
      rw [if_neg (by omega), if_neg h, Min_int _ h (by unfold Cnt; omega), Max_int _ h (by unfold Cnt; omega)]

theorem l24Range_eq (l : List GTake) (k : Int) (hl : l.length ≤ 1048576) : m_spec_l24Range l k = some (if lenOf k l = [] then (⟨0, 0⟩, false) else (⟨minL (lenOf k l), maxL (lenOf k l)⟩, true)) := by
  unfold m_spec_l24Range
  have key : loopO (m_spec_l24Range_L1 k l ((l.length : Nat) : Int)) (decide (lenOf k (l.take 0) ≠ []), ((0 : Nat) : Int), minL (lenOf k (l.take 0)), maxL (lenOf k (l.take 0))) = some (decide (lenOf k l ≠ []), minL (lenOf k l), maxL (lenOf k l)) := by
    refine loopO_to l.length (fun i => (decide (lenOf k (l.take i) ≠ []), (i : Int), minL (lenOf k (l.take i)), maxL (lenOf k (l.take i)))) ?_ ?_
    · intro i hi
      unfold m_spec_l24Range_L1
      simp only
      rw [if_pos (by omega), getI_lt hi, wr (x := (i : Int) + 1) (by omega) (by omega)]
      simp only [obnd]
      by_cases h : l[i].tie = k
      · rw [if_pos h, lenOf_yes hi h]
        by_cases hn : lenOf k (l.take i) = []
        · rw [hn]
          rw [if_neg (by simp)]; rfl
        · rw [if_pos (by simpa using hn), minL_snoc hn, maxL_snoc hn]
          simp [hn]
      · rw [if_neg h, lenOf_no hi h]; rfl
    · unfold m_spec_l24Range_L1
      simp only
      rw [if_neg (by omega), List.take_length]
  have e0 : lenOf k (l.take 0) = [] := rfl
  rw [e0] at key
  rw [show (false, (0 : Int), (0 : Int), (0 : Int)) = (decide (([] : List Int) ≠ []), ((0 : Nat) : Int), minL [], maxL []) from by simp [minL, maxL], key]
  simp only [obnd]
  by_cases h : lenOf k l = []
  · rw [if_pos h, h]; rfl
  · rw [if_neg h]; simp [h]
theorem ObservedRange_spec (s : GShow) (l : List GTake) (k : Int) (hs : SmallS s) (hl : l.length ≤ 1048576) : m_spec_ObservedRange s l k = some (rangeOf s l k) := by
  have hc : Cnt l.length := by unfold Cnt; omega
  unfold m_spec_ObservedRange rangeOf
  rw [TakesOk_spec s l hs hc, l24Range_eq l k hl]
  simp only [obnd]
  cases takesOk s l <;> rfl
theorem ObservedRange_law (s : GShow) (l : List GTake) (k : Int) (hb : BdS s) (hl : l.length ≤ maxLen) : m_laws_FnExactObservedRange s l k = some true := by
  unfold m_laws_FnExactObservedRange
  obtain ⟨r, hr, hp⟩ := takes_fit hb hl
  rw [hr]
  simp only [obnd]
  rcases hp with hp | ⟨h0, hf, q, hq, hp⟩
  · rw [if_pos hp]
  · rw [if_neg (by omega), hq]
    simp only
    rcases hp with hp | ⟨h1, h2⟩
    · rw [if_pos hp]
    · rw [if_neg (by omega)]
      simp only [toShow_eq s hf, toTakeS_eq _ h2, ObservedRange_impl s l k hf.small h2, ObservedRange_spec s l k hf.small h2, eqShow_self s hf, eqTakeS_self l h2, if_true, m_laws_eqInterval]
end Go.Proofs.YtgmiaokdnpaglaaY
