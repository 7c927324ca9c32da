/- EndingFor. Own work. -/
import Derived.Test.YtgmiaokdnpaglaaXP14
set_option linter.all false
set_option linter.unusedVariables false
set_option linter.unusedSimpArgs false
namespace Go.Proofs.YtgmiaokdnpaglaaX
open Go

/-! ### DeleteFunc -/
theorem take_set_last {l : List Int} {n : Nat} {x : Int} (h : n < l.length) : (l.set n x).take (n + 1) = l.take n ++ [x] := by
  have e : (l.set n x).take n = l.take n := by
    apply List.ext_getElem?
    intro i
    rw [List.getElem?_take, List.getElem?_take]
    split
    · rw [List.getElem?_set_ne (by omega)]
    · rfl
  rw [take_succ_of (by simp; exact h), e]
  simp
theorem putL_take {xs ys : List Int} {i : Nat} (h : i + ys.length ≤ xs.length) : (putL xs i ys).take i = xs.take i := by
  unfold putL
  rw [if_pos h, List.append_assoc, List.take_append_of_le_length (by rw [List.length_take]; omega), List.take_take]
  simp
theorem DeleteFunc_int (xs : List Int) (p : Int → Option Bool) (q : Int → Bool) (hx : Cnt xs.length) (hp : ∀ x, x ∈ xs → p x = some (q x)) : m_slices_DeleteFunc_int xs p = some (xs.filter (fun x => !q x)) := by
  unfold m_slices_DeleteFunc_int
  rw [IndexFunc_int xs p q hx hp]
  simp only [obnd]
  by_cases h0 : 0 ≤ firstI xs q
  · obtain ⟨i0, hi0, he, hq0, hno⟩ := firstI_lt h0
    rw [he, if_neg (by omega), wr (x := (i0 : Int) + 1) (by omega) (by omega)]
    have htake : (xs.take i0).filter (fun x => !q x) = xs.take i0 := by
      rw [List.filter_eq_self]
      intro x hm
      obtain ⟨j, hj, rfl⟩ := List.getElem_of_mem hm
      rw [List.length_take] at hj
      rw [List.getElem_take, hno j (by omega)]; rfl
    have inv : ∃ r, loopO (m_slices_DeleteFunc_int_L1 p) ((i0 : Int), (i0 : Int) + 1, xs) = some r ∧ (r.1 = (((xs.filter (fun x => !q x)).length : Nat) : Int) ∧ r.2.length = xs.length ∧ r.2.take (xs.filter (fun x => !q x)).length = xs.filter (fun x => !q x)) := by
      refine loopO_inv (xs.length - (i0 + 1)) (fun k s => s.2.1 = ((i0 + 1 + k : Nat) : Int) ∧ s.1 = ((((xs.take (i0 + 1 + k)).filter (fun x => !q x)).length : Nat) : Int) ∧ s.2.2.length = xs.length ∧
        s.2.2.take ((xs.take (i0 + 1 + k)).filter (fun x => !q x)).length = (xs.take (i0 + 1 + k)).filter (fun x => !q x) ∧ (∀ j, i0 + 1 + k ≤ j → s.2.2[j]? = xs[j]?) ∧ ((xs.take (i0 + 1 + k)).filter (fun x => !q x)).length < i0 + 1 + k) _ ?_ ?_ ?_
      · have e1 : (xs.take (i0 + 1)).filter (fun x => !q x) = xs.take i0 := by
          rw [take_succ_of hi0, List.filter_append, htake]
          simp [hq0]
        have hl : (xs.take i0).length = i0 := by rw [List.length_take]; omega
        refine ⟨by simp only; omega, ?_, rfl, ?_, fun _ _ => rfl, ?_⟩
        · simp only [Nat.add_zero]; rw [e1, hl]
        · simp only [Nat.add_zero]; rw [e1, hl]
        · simp only [Nat.add_zero]; rw [e1, hl]; omega
      · rintro k ⟨v5, v6, v0⟩ hk ⟨h1, h2, h3, h4, h5, h6⟩
        simp only at h1 h2 h3 h4 h5 h6
        have hj : i0 + 1 + k < xs.length := by omega
        have hg : getI v0 v6 = some xs[i0 + 1 + k] := by
          unfold getI
          rw [h1, if_pos (by omega), Int.toNat_natCast, h5 _ (Nat.le_refl _), List.getElem?_eq_getElem hj]
        left
        unfold m_slices_DeleteFunc_int_L1
        simp only
        rw [if_pos (by omega), hg, wr (x := v6 + 1) (by omega) (by omega)]
        simp only [obnd, hp _ (List.getElem_mem hj)]
        cases hq : q xs[i0 + 1 + k]
        · have e2 : (xs.take (i0 + 1 + (k + 1))).filter (fun x => !q x) = (xs.take (i0 + 1 + k)).filter (fun x => !q x) ++ [xs[i0 + 1 + k]] := by
            rw [show i0 + 1 + (k + 1) = i0 + 1 + k + 1 by omega, take_succ_of hj, List.filter_append]
            simp [hq]
          have hv5 : getI v0 v5 = some v0[((xs.take (i0 + 1 + k)).filter (fun x => !q x)).length] := by rw [h2, getI_lt (by omega)]
          rw [if_neg (by simp), hv5, wr (x := v5 + 1) (by omega) (by omega)]
          refine ⟨_, rfl, by simp only; omega, ?_, ?_, ?_, ?_, ?_⟩
          · simp only; rw [e2, List.length_append, h2]; simp
          · simp only [List.length_set]; exact h3
          · simp only; rw [e2, List.length_append, h2, Int.toNat_natCast]
            simp only [List.length_cons, List.length_nil, Nat.zero_add]
            rw [take_set_last (by omega), h4]
          · intro j hj'
            simp only
            rw [h2, Int.toNat_natCast, List.getElem?_set_ne (by omega)]
            exact h5 j (by omega)
          · rw [e2, List.length_append]; simp; omega
        · have e2 : (xs.take (i0 + 1 + (k + 1))).filter (fun x => !q x) = (xs.take (i0 + 1 + k)).filter (fun x => !q x) := by
            rw [show i0 + 1 + (k + 1) = i0 + 1 + k + 1 by omega, take_succ_of hj, List.filter_append]
            simp [hq]
          rw [if_pos rfl]
          refine ⟨_, rfl, by simp only; omega, ?_, h3, ?_, fun j hj' => h5 j (by omega), ?_⟩
          · simp only; rw [e2]; exact h2
          · simp only; rw [e2]; exact h4
          · rw [e2]; omega
      · rintro ⟨v5, v6, v0⟩ ⟨h1, h2, h3, h4, h5, h6⟩
        simp only at h1 h2 h3 h4
        have hall : i0 + 1 + (xs.length - (i0 + 1)) = xs.length := by omega
        rw [hall] at h1 h2 h4
        rw [List.take_length] at h2 h4
        unfold m_slices_DeleteFunc_int_L1
        simp only
        rw [if_neg (by omega)]
        exact ⟨_, rfl, h2, h3, h4⟩
    obtain ⟨⟨v5, v0⟩, hr, h1, h2, h3⟩ := inv
    rw [hr]
    simp only at h1 h2 h3 ⊢
    have hle := List.length_filter_le (fun x => !q x) xs
    subst h1
    simp only [Int.toNat_natCast]
    rw [chk_pos (by omega), chk_pos (by omega), chk_pos (by omega), putL_take (by rw [List.length_replicate]; omega), h3]
  · have h1 : xs.any q = false := by rw [← firstI_any]; exact decide_eq_false h0
    have h2 : firstI xs q = -1 := by
      unfold firstI at h0 ⊢
      cases hf : xs.findIdx? q with
      | none => rfl
      | some j => rw [hf] at h0; simp at h0
    rw [if_pos h2]
    congr 1
    symm
    rw [List.filter_eq_self]
    intro x hm
    rw [List.any_eq_false] at h1
    have := h1 x hm
    cases hq : q x
    · rfl
    · exact absurd hq this

/-! ### Free and active ties -/
def freeL (s : GShow) : List Int := places (freeAt s) s.ties.length
theorem freeTies_eq (s : GShow) (h : s.ties.length ≤ 1048576) : m_impl_freeTies s = some (freeL s) := by
  unfold m_impl_freeTies freeL
  have key : loopO (m_impl_freeTies_L1 s.ties ((s.ties.length : Nat) : Int)) (((0 : Nat) : Int), places (freeAt s) 0) = some (places (freeAt s) s.ties.length) := by
    refine loopO_to s.ties.length (fun i => ((i : Int), places (freeAt s) i)) ?_ ?_
    · intro i hi
      have hl2 := places_len (freeAt s) i
      have ef : freeAt s i = s.ties[i].free := by unfold freeAt; rw [List.getElem?_eq_getElem hi]; rfl
      unfold m_impl_freeTies_L1
      simp only
      rw [if_pos (by omega), getI_lt hi, wr (x := (i : Int) + 1) (by omega) (by omega)]
      simp only [obnd]
      cases hf : s.ties[i].free
      · rw [if_neg (by simp), places_no (by rw [ef, hf])]; rfl
      · rw [if_pos rfl, chk_pos (by omega), chk_pos (by omega), places_yes (by rw [ef, hf])]; rfl
    · unfold m_impl_freeTies_L1
      simp only
      rw [if_neg (by omega)]
  rw [places_zero] at key
  rw [show (0 : Int) = ((0 : Nat) : Int) from rfl, key]; rfl

def actT (x : GState) (t : GTie) : Bool := t.free && decide (tm x.times t.from_ ≠ -1 ∧ tm x.times t.to = -1)
def actAt (s : GShow) (x : GState) (i : Nat) : Bool := (s.ties[i]?).any (actT x)
def actL (s : GShow) (x : GState) : List Int := places (actAt s x) s.ties.length

theorem active_eq (s : GShow) (x : GState) (hR : StateR s x) : m_impl_active s x = some (actL s x) := by
  have h14 := hR.right.ties
  have hln := hR.len
  unfold m_impl_active actL
  have key : loopO (m_impl_active_L1 s.ties ((s.ties.length : Nat) : Int) x.now x.times x.values) (((0 : Nat) : Int), places (actAt s x) 0) = some (places (actAt s x) s.ties.length) := by
    refine loopO_to s.ties.length (fun i => ((i : Int), places (actAt s x) i)) ?_ ?_
    · intro i hi
      have hT := hR.right.tie _ (List.getElem_mem hi)
      have hl2 := places_len (actAt s x) i
      have ef : actAt s x i = actT x s.ties[i] := by unfold actAt; rw [List.getElem?_eq_getElem hi]; rfl
      unfold m_impl_active_L1
      simp only
      rw [if_pos (by omega), getI_lt hi, wr (x := (i : Int) + 1) (by omega) (by omega)]
      simp only [obnd]
      rw [getI_tm hT.f0 (by have := hT.f1; omega), getI_tm hT.t0 (by have := hT.t1; omega)]
      simp only
      unfold actT at ef
      cases hf : s.ties[i].free
      · rw [if_neg (by simp), places_no (by rw [ef, hf]; rfl)]; rfl
      · rw [hf, Bool.true_and] at ef
        rw [if_pos rfl]
        by_cases ha : tm x.times s.ties[i].from_ = -1
        · rw [if_pos ha, places_no (by rw [ef]; exact decide_eq_false (fun h => h.1 ha))]; rfl
        · rw [if_neg ha]
          by_cases hb : tm x.times s.ties[i].to = -1
          · rw [if_pos hb, chk_pos (by omega), chk_pos (by omega), places_yes (by rw [ef]; exact decide_eq_true ⟨ha, hb⟩)]; rfl
          · rw [if_neg hb, places_no (by rw [ef]; exact decide_eq_false (fun h => hb h.2))]; rfl
    · unfold m_impl_active_L1
      simp only
      rw [if_neg (by omega)]
  rw [places_zero] at key
  rw [show (0 : Int) = ((0 : Nat) : Int) from rfl, key]; rfl
theorem l13Active_eq (s : GShow) (x : GState) (hR : StateR s x) : m_spec_l13Active s x = some (actL s x) := by
  have h14 := hR.right.ties
  have hln := hR.len
  unfold m_spec_l13Active actL
  have key : loopO (m_spec_l13Active_L1 s.ties ((s.ties.length : Nat) : Int) x.now x.times x.values) (((0 : Nat) : Int), places (actAt s x) 0) = some (places (actAt s x) s.ties.length) := by
    refine loopO_to s.ties.length (fun i => ((i : Int), places (actAt s x) i)) ?_ ?_
    · intro i hi
      have hT := hR.right.tie _ (List.getElem_mem hi)
      have hl2 := places_len (actAt s x) i
      have ef : actAt s x i = actT x s.ties[i] := by unfold actAt; rw [List.getElem?_eq_getElem hi]; rfl
      unfold m_spec_l13Active_L1
      simp only
      rw [if_pos (by omega), getI_lt hi, wr (x := (i : Int) + 1) (by omega) (by omega)]
      simp only [obnd]
      rw [getI_tm hT.f0 (by have := hT.f1; omega), getI_tm hT.t0 (by have := hT.t1; omega)]
      simp only
      unfold actT at ef
      cases hf : s.ties[i].free
      · rw [if_neg (by simp), places_no (by rw [ef, hf]; rfl)]; rfl
      · rw [hf, Bool.true_and] at ef
        rw [if_pos rfl]
        by_cases ha : tm x.times s.ties[i].from_ = -1
        · rw [if_pos ha, places_no (by rw [ef]; exact decide_eq_false (fun h => h.1 ha))]; rfl
        · rw [if_neg ha]
          by_cases hb : tm x.times s.ties[i].to = -1
          · rw [if_pos hb, chk_pos (by omega), chk_pos (by omega), places_yes (by rw [ef]; exact decide_eq_true ⟨ha, hb⟩)]; rfl
          · rw [if_neg hb, places_no (by rw [ef]; exact decide_eq_false (fun h => hb h.2))]; rfl
    · unfold m_spec_l13Active_L1
      simp only
      rw [if_neg (by omega)]
  rw [places_zero] at key
  rw [show (0 : Int) = ((0 : Nat) : Int) from rfl, key]; rfl
theorem places_mem {p : Nat → Bool} {n : Nat} {k : Int} : k ∈ places p n ↔ ∃ i, i < n ∧ p i = true ∧ k = (i : Int) := by
  unfold places
  rw [List.mem_map]
  constructor
  · rintro ⟨i, hi, rfl⟩
    rw [List.mem_filter] at hi
    exact ⟨i, by simpa using hi.1, hi.2, rfl⟩
  · rintro ⟨i, hi, hp, rfl⟩
    exact ⟨i, List.mem_filter.2 ⟨by simpa using hi, hp⟩, rfl⟩
theorem act_free {s : GShow} {x : GState} {k : Int} (h : k ∈ actL s x) : k ∈ freeL s ∧ ∃ i, ∃ hi : i < s.ties.length, k = (i : Int) := by
  obtain ⟨i, hi, hp, rfl⟩ := places_mem.1 h
  refine ⟨places_mem.2 ⟨i, hi, ?_, rfl⟩, i, hi, rfl⟩
  unfold actAt at hp
  unfold freeAt
  rw [List.getElem?_eq_getElem hi] at hp ⊢
  simp only [Option.any_some] at hp ⊢
  unfold actT at hp
  rw [Bool.and_eq_true] at hp
  exact hp.1

/-! ### Choices -/
structure FitC (c : GChoice) : Prop where
  lengths : c.lengths.length ≤ 1048576
  values : c.values.length ≤ 1048576
structure BdC (c : GChoice) : Prop where
  lengths : c.lengths.length ≤ maxLen
  values : c.values.length ≤ maxLen
def lenP (s : GShow) (c : GChoice) (j : Nat) : Bool := decide ((tieAt s ((freeL s).getD j 0)).low ≤ c.lengths.getD j 0 ∧ c.lengths.getD j 0 ≤ (tieAt s ((freeL s).getD j 0)).high)
def valP (s : GShow) (c : GChoice) (i : Nat) : Bool := decide (c.values.getD i 0 = 1) || (decide (c.values.getD i 0 = -1) && decide (0 ≤ firstI s.nodes (fun n => decide (n.watch = (i : Int) + 1))))
def choiceOk (s : GShow) (c : GChoice) : Bool := decide (c.lengths.length = (freeL s).length) && decide (c.values.length = 3) && decide (∀ j, j < (freeL s).length → lenP s c j = true) && decide (∀ i, i < nProps → valP s c i = true)
theorem free_tie {s : GShow} {j : Nat} (hj : j < (freeL s).length) : getI s.ties ((freeL s).getD j 0) = some (tieAt s ((freeL s).getD j 0)) := by
  obtain ⟨i, hi, he⟩ := places_get (p := freeAt s) (n := s.ties.length) hj
  have e : (freeL s).getD j 0 = (i : Int) := by
    rw [List.getD_eq_getElem?_getD, List.getElem?_eq_getElem hj]; exact he
  rw [e, getI_lt hi, tieAt_lt hi]
theorem free_len (s : GShow) (h : s.ties.length ≤ 14) : (freeL s).length ≤ 14 := Nat.le_trans (places_len _ _) h

theorem isChoice_eq (s : GShow) (c : GChoice) (hs : SmallS s) (hR : Right s) (h1 : s.ties.length ≤ 1048576) : m_impl_isChoice s c = some (choiceOk s c) := by
  have hfl := free_len s hR.ties
  unfold m_impl_isChoice choiceOk
  rw [freeTies_eq s h1]
  simp only [obnd]
  by_cases hl : c.lengths.length = (freeL s).length
  · rw [if_pos (by omega), decide_eq_true hl, Bool.true_and]
    by_cases hv : c.values.length = 3
    · rw [if_pos (by omega), decide_eq_true hv, Bool.true_and]
      have key : loopO (m_impl_isChoice_L1 (((freeL s).length : Nat) : Int) s.nodes s.ties s.horizon c.lengths c.values (freeL s)) ((0 : Nat) : Int) = some (if ∀ j, j < (freeL s).length → lenP s c j = true then .inl () else .inr false) := by
        refine loopO_all (freeL s).length (fun i => (i : Int)) (lenP s c) ?_ ?_ ?_
        · intro j hj hp
          unfold lenP at hp
          rw [decide_eq_true_eq] at hp
          unfold m_impl_isChoice_L1
          rw [if_pos (by omega), getI_D hj, getI_D (xs := c.lengths) (by omega), wr (x := (j : Int) + 1) (by omega) (by omega)]
          simp only [obnd, free_tie hj]
          rw [if_neg (by omega), if_neg (by omega)]; rfl
        · intro j hj hp
          unfold lenP at hp
          rw [decide_eq_false_iff_not] at hp
          unfold m_impl_isChoice_L1
          rw [if_pos (by omega), getI_D hj, getI_D (xs := c.lengths) (by omega)]
          simp only [obnd, free_tie hj]
          split
          · rfl
          · rw [if_pos (by omega)]
        · unfold m_impl_isChoice_L1
          rw [if_neg (by omega)]
      rw [show (0 : Int) = ((0 : Nat) : Int) from rfl, key]
      by_cases hL : ∀ j, j < (freeL s).length → lenP s c j = true
      · rw [if_pos hL, decide_eq_true hL, Bool.true_and]
        simp only
        have key2 : loopO (m_impl_isChoice_L2 c.values ((c.values.length : Nat) : Int) s.nodes s.ties s.horizon) ((0 : Nat) : Int) = some (if ∀ i, i < nProps → valP s c i = true then .inl () else .inr false) := by
          have hn3 : nProps = 3 := rfl
          have stp : ∀ i, i < nProps → m_impl_isChoice_L2 c.values ((c.values.length : Nat) : Int) s.nodes s.ties s.horizon ((i : Nat) : Int) = some (if valP s c i = true then .next ((i + 1 : Nat) : Int) else .done (.inr false)) := by
            intro i hi
            unfold m_impl_isChoice_L2
            rw [if_pos (by omega), getI_D (by omega), wr (x := (i : Int) + 1) (by omega) (by omega)]
            simp only [obnd]
            rw [watcher_impl _ _ hs.nodes]
            have e : (fun n : GNode => decide (0 < (i : Int) + 1) && decide (n.watch = (i : Int) + 1)) = (fun n : GNode => decide (n.watch = (i : Int) + 1)) := by
              funext n; rw [decide_eq_true (by omega : 0 < (i : Int) + 1), Bool.true_and]
            rw [e]
            unfold valP
            simp only
            generalize firstI s.nodes (fun n => decide (n.watch = (i : Int) + 1)) = w
            generalize c.values.getD i 0 = v
            by_cases h1 : v = 1
            · rw [if_pos h1, if_neg (by omega), decide_eq_true h1]; rfl
            · rw [if_neg h1, decide_eq_false h1, Bool.false_or]
              by_cases h2 : v = -1
              · rw [if_pos h2, decide_eq_true h2, Bool.true_and]
                by_cases h3 : 0 ≤ w
                · rw [if_neg (by omega), decide_eq_true h3]; rfl
                · rw [if_pos (by omega), decide_eq_false h3]; rfl
              · rw [if_neg h2, decide_eq_false h2]; rfl
          refine loopO_all nProps (fun i => (i : Int)) (valP s c) ?_ ?_ ?_
          · intro i hi hp
            simp only [stp i hi, hp, if_true]
          · intro i hi hp
            simp only [stp i hi, hp]; rfl
          · unfold m_impl_isChoice_L2
            rw [if_neg (by omega)]
        rw [key2]
        by_cases hW : ∀ i, i < nProps → valP s c i = true
        · rw [if_pos hW, decide_eq_true hW]
        · rw [if_neg hW, decide_eq_false hW]
      · rw [if_neg hL, decide_eq_false hL]; rfl
    · rw [if_neg (by omega), decide_eq_false hv]; rfl
  · rw [if_neg (by omega), decide_eq_false hl]; rfl

theorem ChoiceOk_spec (s : GShow) (c : GChoice) (hs : SmallS s) (hA : showOk s = true) (h1 : s.ties.length ≤ 1048576) : m_spec_ChoiceOk s c = some (choiceOk s c) := by
  have hR := showOk_right hA
  have hfl := free_len s hR.ties
  unfold m_spec_ChoiceOk choiceOk
  rw [ShowOk_spec s hs, hA]
  simp only [obnd, if_true]
  rw [l10Free_eq s h1]
  simp only
  rw [show places (freeAt s) s.ties.length = freeL s from rfl]
  by_cases hl : c.lengths.length = (freeL s).length
  · rw [if_pos (by omega), decide_eq_true hl, Bool.true_and]
    by_cases hv : c.values.length = 3
    · rw [if_pos (by omega), decide_eq_true hv, Bool.true_and]
      have key : loopO (m_spec_ChoiceOk_L1 (((freeL s).length : Nat) : Int) s.nodes s.ties s.horizon c.lengths c.values (freeL s)) ((0 : Nat) : Int) = some (if ∀ j, j < (freeL s).length → lenP s c j = true then .inl () else .inr false) := by
        refine loopO_all (freeL s).length (fun i => (i : Int)) (lenP s c) ?_ ?_ ?_
        · intro j hj hp
          unfold lenP at hp
          unfold m_spec_ChoiceOk_L1
          rw [if_pos (by omega), getI_D hj, getI_D (xs := c.lengths) (by omega), wr (x := (j : Int) + 1) (by omega) (by omega)]
          simp only [obnd, free_tie hj, l01In_eq]
          rw [if_pos hp]; rfl
        · intro j hj hp
          unfold lenP at hp
          unfold m_spec_ChoiceOk_L1
          rw [if_pos (by omega), getI_D hj, getI_D (xs := c.lengths) (by omega)]
          simp only [obnd, free_tie hj, l01In_eq]
          rw [if_neg (by rw [hp]; simp)]
        · unfold m_spec_ChoiceOk_L1
          rw [if_neg (by omega)]
      rw [show (0 : Int) = ((0 : Nat) : Int) from rfl, key]
      by_cases hL : ∀ j, j < (freeL s).length → lenP s c j = true
      · rw [if_pos hL, decide_eq_true hL, Bool.true_and]
        simp only
        have key2 : loopO (m_spec_ChoiceOk_L2 c.values ((c.values.length : Nat) : Int) s.nodes s.ties s.horizon) ((0 : Nat) : Int) = some (if ∀ i, i < nProps → valP s c i = true then .inl () else .inr false) := by
          have hn3 : nProps = 3 := rfl
          have stp : ∀ i, i < nProps → m_spec_ChoiceOk_L2 c.values ((c.values.length : Nat) : Int) s.nodes s.ties s.horizon ((i : Nat) : Int) = some (if valP s c i = true then .next ((i + 1 : Nat) : Int) else .done (.inr false)) := by
            intro i hi
            unfold m_spec_ChoiceOk_L2
            rw [if_pos (by omega), getI_D (by omega), wr (x := (i : Int) + 1) (by omega) (by omega)]
            simp only [obnd]
            rw [l08Watcher_eq _ _ hs.nodes]
            unfold valP
            simp only
            generalize firstI s.nodes (fun n => decide (n.watch = (i : Int) + 1)) = w
            generalize c.values.getD i 0 = v
            by_cases h1 : v = 1
            · rw [if_pos h1, if_neg (by omega), decide_eq_true h1]; rfl
            · rw [if_neg h1, decide_eq_false h1, Bool.false_or]
              by_cases h2 : v = -1
              · rw [if_pos h2, decide_eq_true h2, Bool.true_and]
                by_cases h3 : 0 ≤ w
                · rw [if_neg (by omega), decide_eq_true h3]; rfl
                · rw [if_pos (by omega), decide_eq_false h3]; rfl
              · rw [if_neg h2, decide_eq_false h2]; rfl
          refine loopO_all nProps (fun i => (i : Int)) (valP s c) ?_ ?_ ?_
          · intro i hi hp
            simp only [stp i hi, hp, if_true]
          · intro i hi hp
            simp only [stp i hi, hp]; rfl
          · unfold m_spec_ChoiceOk_L2
            rw [if_neg (by omega)]
        rw [key2]
        by_cases hW : ∀ i, i < nProps → valP s c i = true
        · rw [if_pos hW, decide_eq_true hW]
        · rw [if_neg hW, decide_eq_false hW]
      · rw [if_neg hL, decide_eq_false hL]; rfl
    · rw [if_neg (by omega), decide_eq_false hv]; rfl
  · rw [if_neg (by omega), decide_eq_false hl]; rfl

/-! ### EndingFor -/
def endLen (s : GShow) (c : GChoice) (k : Int) : Int := (c.lengths[(idxOf (freeL s) k).toNat]?).getD 0
def endP (s : GShow) (x : GState) (c : GChoice) (k : Int) : Bool := decide (x.now - tm x.times (tieAt s k).from_ < endLen s c k)
def endL (s : GShow) (x : GState) (c : GChoice) : List Int := if stateOk s x = true ∧ choiceOk s c = true then (actL s x).filter (fun k => !endP s x c k) else []
theorem choiceOk_len {s : GShow} {c : GChoice} (h : choiceOk s c = true) : c.lengths.length = (freeL s).length := by
  unfold choiceOk at h
  simp only [Bool.and_eq_true, decide_eq_true_eq] at h
  exact h.1.1.1
theorem idxOf_lt {l : List Int} {n : Int} (h : n ∈ l) : 0 ≤ idxOf l n ∧ idxOf l n < l.length := by
  refine ⟨(idxOf_nonneg l n).2 h, ?_⟩
  have h0 := (idxOf_nonneg l n).2 h
  unfold idxOf at h0 ⊢
  cases hf : (List.range l.length).find? (fun i => decide (n = l.getD i 0)) with
  | none => rw [hf] at h0; simp at h0
  | some j =>
    have := List.mem_of_find?_eq_some hf
    have : j < l.length := by simpa using this
    simpa using this
theorem endL_len (s : GShow) (x : GState) (c : GChoice) (hs : s.ties.length ≤ 1048576) : (endL s x c).length ≤ 1048576 := by
  unfold endL
  split
  · exact Nat.le_trans (List.length_filter_le _ _) (Nat.le_trans (places_len _ _) hs)
  · simp
theorem getI_endLen {s : GShow} {c : GChoice} {k : Int} (hk : k ∈ freeL s) (hl : c.lengths.length = (freeL s).length) : getI c.lengths (idxOf (freeL s) k) = some (endLen s c k) := by
  have h := idxOf_lt hk
  unfold endLen getI
  rw [if_pos h.1, List.getElem?_eq_getElem (by omega)]; rfl
theorem now_b {s : GShow} {x : GState} (h : stateOk s x = true) : 0 ≤ x.now ∧ x.now ≤ 11 := by
  have hR := stateOk_right h
  have hh := hR.right.hor
  unfold stateOk at h
  simp only [Bool.and_eq_true, decide_eq_true_eq] at h
  have := h.1.1.1.1.2
  omega

theorem EndingFor_impl (s : GShow) (x : GState) (c : GChoice) (hf : FitS s) (fx : FitX x) : m_impl_EndingFor s x c = some (endL s x c) := by
  have hs := hf.small
  unfold m_impl_EndingFor endL
  rw [StateOk_impl s x hs fx.times fx.values]
  simp only [obnd]
  cases hA : stateOk s x
  · rw [if_neg (by simp), if_neg (by simp)]
  · have hR := stateOk_right hA
    have hnow := now_b hA
    rw [if_pos rfl, isChoice_eq s c hs hR.right hf.ties]
    simp only
    cases hC : choiceOk s c
    · rw [if_neg (by simp), if_neg (by simp)]
    · rw [if_pos rfl, if_pos ⟨trivial, rfl⟩, freeTies_eq s hf.ties, active_eq s x hR]
      simp only
      have hpl : (actL s x).length ≤ 14 := Nat.le_trans (places_len _ _) hR.right.ties
      have hfl := free_len s hR.right.ties
      rw [DeleteFunc_int (actL s x) _ (endP s x c) (by unfold Cnt; omega)]
      intro k hk
      obtain ⟨hkf, i, hi, rfl⟩ := act_free hk
      have hT := hR.right.tie _ (List.getElem_mem hi)
      have hb1 := hR.all _ hT.f0 hT.f1
      have hln := hR.len
      unfold m_impl_EndingFor_c1 endP
      rw [getI_lt hi]
      simp only [obnd]
      rw [getI_tm hT.f0 (by have := hT.f1; omega), Index_eq _ _ (by unfold Cnt; omega)]
      simp only
      rw [getI_endLen hkf (choiceOk_len hC), wr (x := x.now - tm x.times s.ties[i].from_) (by omega) (by omega), tieAt_lt hi]

theorem l10Length_eq (s : GShow) (c : GChoice) (k : Int) (h : s.ties.length ≤ 14) (hk : k ∈ freeL s) (hl : c.lengths.length = (freeL s).length) : m_spec_l10Length s c k = some (endLen s c k) := by
  have hfl := free_len s h
  have hg := getI_endLen hk hl
  have h0 := (idxOf_lt hk).1
  unfold m_spec_l10Length
  rw [l10Free_eq s (by omega)]
  simp only [obnd]
  rw [show places (freeAt s) s.ties.length = freeL s from rfl]
  have key := loopO_find (body := m_spec_l10Length_L1 k (((freeL s).length : Nat) : Int) c.lengths c.values (freeL s)) (freeL s).length (fun i => (i : Int)) (fun i => decide (k = (freeL s).getD i 0)) (rT := .inl ()) (fun i => .inr (c.lengths.getD i 0)) ?_ ?_ ?_
  · rw [show (0 : Int) = ((0 : Nat) : Int) from rfl, key]
    unfold idxOf at h0 hg
    cases hf : (List.range (freeL s).length).find? (fun i => decide (k = (freeL s).getD i 0)) with
    | none => rw [hf] at h0; simp at h0
    | some j =>
      rw [hf] at hg
      have hj := List.mem_of_find?_eq_some hf
      have hj : j < (freeL s).length := by simpa using hj
      simp only at hg ⊢
      rw [getI_D (by omega)] at hg
      exact hg
  · intro i hi hp
    unfold m_spec_l10Length_L1
    rw [if_pos (by omega), getI_D hi, wr (x := (i : Int) + 1) (by omega) (by omega)]
    simp only [obnd]
    rw [if_neg (fun h => by rw [decide_eq_false_iff_not] at hp; exact hp h.symm)]; rfl
  · intro i hi hp
    unfold m_spec_l10Length_L1
    rw [if_pos (by omega), getI_D hi]
    simp only [obnd]
    rw [if_pos (of_decide_eq_true hp).symm, getI_D (by omega)]
  · unfold m_spec_l10Length_L1
    rw [if_neg (by omega)]

theorem EndingFor_spec (s : GShow) (x : GState) (c : GChoice) (hf : FitS s) (fx : FitX x) : m_spec_EndingFor s x c = some (endL s x c) := by
  have hs := hf.small
  unfold m_spec_EndingFor endL
  rw [StateOk_spec s x hs fx.times fx.values]
  simp only [obnd]
  cases hA : stateOk s x
  · rw [if_neg (by simp), if_neg (by simp)]
  · have hR := stateOk_right hA
    have hnow := now_b hA
    have hShow : showOk s = true := by
      unfold stateOk at hA
      simp only [Bool.and_eq_true] at hA
      exact hA.1.1.1.1.1
    rw [if_pos rfl, ChoiceOk_spec s c hs hShow hf.ties]
    simp only
    cases hC : choiceOk s c
    · rw [if_neg (by simp), if_neg (by simp)]
    · rw [if_pos rfl, if_pos ⟨trivial, rfl⟩]
      unfold m_spec_l23Ending
      rw [l13Active_eq s x hR]
      simp only [obnd]
      have hpl : (actL s x).length ≤ 14 := Nat.le_trans (places_len _ _) hR.right.ties
      have hmem : ∀ k, k ∈ actL s x → k ∈ freeL s ∧ ∃ i, ∃ hi : i < s.ties.length, k = (i : Int) := fun k hk => act_free hk
      generalize actL s x = L at hpl hmem
      have key : loopO (m_spec_l23Ending_L1 ((L.length : Nat) : Int) s.nodes s.ties s.horizon x.now x.times x.values c.lengths c.values L) (((0 : Nat) : Int), (L.take 0).filter (fun k => !endP s x c k)) = some (L.filter (fun k => !endP s x c k)) := by
        refine loopO_to L.length (fun i => ((i : Int), (L.take i).filter (fun k => !endP s x c k))) ?_ ?_
        · intro j hj
          have hlen := List.length_filter_le (fun k => !endP s x c k) (L.take j)
          rw [List.length_take] at hlen
          obtain ⟨hkf, i, hi, he⟩ := hmem _ (List.getElem_mem hj)
          have hT := hR.right.tie _ (List.getElem_mem hi)
          have hb1 := hR.all _ hT.f0 hT.f1
          have hln := hR.len
          unfold m_spec_l23Ending_L1
          simp only
          rw [if_pos (by omega), getI_lt hj, wr (x := (j : Int) + 1) (by omega) (by omega), take_succ_of hj, List.filter_append]
          rw [he] at hkf ⊢
          simp only [obnd]
          rw [getI_lt hi]
          simp only
          rw [getI_tm hT.f0 (by have := hT.f1; omega), show (GShow.mk s.nodes s.ties s.horizon) = s from rfl, show (GChoice.mk c.lengths c.values) = c from rfl, l10Length_eq s c _ hR.right.ties hkf (choiceOk_len hC)]
          simp only
          rw [wr (x := x.now - tm x.times s.ties[i].from_) (by omega) (by omega)]
          have ee : endP s x c (i : Int) = decide (x.now - tm x.times s.ties[i].from_ < endLen s c (i : Int)) := by unfold endP; rw [tieAt_lt hi]
          by_cases h : endLen s c (i : Int) ≤ x.now - tm x.times s.ties[i].from_
          · rw [if_pos h, chk_pos (by omega), chk_pos (by omega)]
            have : endP s x c (i : Int) = false := by rw [ee]; exact decide_eq_false (by omega)
            simp [this]
          · rw [if_neg h]
            have : endP s x c (i : Int) = true := by rw [ee]; exact decide_eq_true (by omega)
            simp [this]
        · unfold m_spec_l23Ending_L1
          simp only
          rw [if_neg (by omega), List.take_length]
      rw [show (L.take 0).filter (fun k => !endP s x c k) = [] from rfl] at key
      rw [show (0 : Int) = ((0 : Nat) : Int) from rfl, key]

/-! ### Choices in the laws -/
theorem toChoice_eq (c : GChoice) (h : FitC c) : m_laws_toChoice c = some c := by
  unfold m_laws_toChoice
  rw [toIntS_eq _ h.lengths, toIntS_eq _ h.values]; rfl
theorem szChoice_ok {c : GChoice} {l : Int} (hl : l ≤ 1048576) (h0 : 0 ≤ l) (hb : BdC c) : ∃ r, m_laws_szChoice c l = some r ∧ (r < 0 ∨ (0 ≤ r ∧ r ≤ l ∧ FitC c)) := by
  unfold m_laws_szChoice
  rw [szIntS_ok hl h0 hb.lengths]
  simp only [obnd]
  by_cases h : l - (c.lengths.length : Int) < 0
  · rw [if_pos h]; exact ⟨_, rfl, .inl (by omega)⟩
  · rw [if_neg h, if_neg h, szIntS_ok (by omega) (by omega) hb.values]
    simp only
    by_cases h' : l - (c.lengths.length : Int) - (c.values.length : Int) < 0
    · rw [if_pos h']; exact ⟨_, rfl, .inl (by omega)⟩
    · rw [if_neg h', if_neg h']
      exact ⟨_, rfl, .inr ⟨by omega, by omega, by omega, by omega⟩⟩
theorem eqChoice_self (c : GChoice) (h : FitC c) : m_laws_eqChoice c c = some true := by
  unfold m_laws_eqChoice
  rw [eqIntS_eq _ _ (by have := h.lengths; unfold Cnt; omega), eqIntS_eq _ _ (by have := h.values; unfold Cnt; omega)]
  simp [obnd]
theorem markChoice_ok (c : GChoice) (k : Int) (h : FitC c) (h0 : 0 ≤ k) (hk : k ≤ 1152921504605798400) : ∃ q, m_laws_markChoice c k = some q ∧ 0 ≤ q.1 := by
  unfold m_laws_markChoice
  have h1 := h.lengths
  have h2 := h.values
  rw [markIntS_eq _ k h.lengths h0 (by omega)]
  simp only [obnd]
  rw [markIntS_eq _ _ h.values (by omega) (by omega)]
  exact ⟨_, rfl, by simp only; omega⟩
theorem markState_b (x : GState) (k : Int) (h : FitX x) (h0 : 0 ≤ k) (hk : k ≤ 1152921504600000000) : ∃ q, m_laws_markState x k = some q ∧ 0 ≤ q.1 ∧ q.1 ≤ k + 2097152 := by
  unfold m_laws_markState
  have h1 := h.times
  have h2 := h.values
  rw [markIntS_eq _ k h.times h0 (by omega)]
  simp only [obnd]
  rw [markIntS_eq _ _ h.values (by omega) (by omega)]
  exact ⟨_, rfl, by simp only; omega, by simp only; omega⟩
theorem markShow_b (s : GShow) (k : Int) (h : FitS s) (h0 : 0 ≤ k) (hk : k ≤ 1073741824) : ∃ q, m_laws_markShow s k = some q ∧ k ≤ q.1 ∧ q.1 ≤ 2251799813685248 := by
  unfold m_laws_markShow
  have h1 := h.nodes
  have h2 := h.ties
  obtain ⟨k1, a1, e1, l1, u1⟩ := markNodeS_ok s.nodes k h.nodes h.node h0 (by omega)
  obtain ⟨k2, a2, e2, l2, u2⟩ := markTieS_ok s.ties k1 h.ties (by omega) (by omega)
  rw [e1]
  simp only [obnd, e2]
  exact ⟨_, rfl, by simp only; omega, by simp only; omega⟩

theorem EndingFor_law (s : GShow) (x : GState) (c : GChoice) (hb : BdS s) (hx : BdX x) (hc : BdC c) : m_laws_FnExactEndingFor s x c = some true := by
  unfold m_laws_FnExactEndingFor
  obtain ⟨r, hr, hp⟩ := szShow_left hb
  rw [hr]
  simp only [obnd]
  rcases hp with hp | ⟨hf, h0, h1⟩
  · rw [if_pos hp]
  · obtain ⟨r2, hr2, hp2⟩ := szState_ok h1 h0 hx
    rw [if_neg (by omega), hr2]
    simp only
    rcases hp2 with hp2 | ⟨a2, b2, fx⟩
    · rw [if_pos hp2]
    · obtain ⟨r3, hr3, hp3⟩ := szChoice_ok (by omega) a2 hc
      rw [if_neg (by omega), hr3]
      simp only
      rcases hp3 with hp3 | ⟨_, _, fc⟩
      · rw [if_pos hp3]
      · rw [if_neg (by omega)]
        have hlen := endL_len s x c hf.ties
        simp only [toShow_eq s hf, toState_eq x fx, toChoice_eq c fc, EndingFor_impl s x c hf fx, EndingFor_spec s x c hf fx]
        generalize endL s x c = g at hlen ⊢
        obtain ⟨q, hq, hq1, hq2⟩ := markShow_b s 1 hf (by omega) (by omega)
        obtain ⟨q3, hq3, hq4, hq5⟩ := markState_b x q.1 fx (by omega) (by omega)
        obtain ⟨q6, hq6, hq7⟩ := markChoice_ok c q3.1 fc (by omega) (by omega)
        have e1 : m_laws_eqIntS g g = some true := by rw [eqIntS_eq _ _ (by unfold Cnt; omega)]; simp
        simp only [e1, eqShow_self s hf, eqState_self x fx, eqChoice_self c fc, hq, hq3, hq6, if_true]
        rw [if_neg (by omega), markIntS_eq g 1 hlen (by omega) (by omega)]
        simp only
        rw [chk_pos (by rw [mkI_length]; omega), mkI_take, heldIntS_eq 1 _ hlen (by omega) (by omega)]
        simp only
        rw [if_neg (by omega)]
        simp
        omega
end Go.Proofs.YtgmiaokdnpaglaaX
