/- Sort, Concat, members: what they come to. Own work. -/
import Derived.Test.YteijmljgodikiaaGreatZP24
set_option linter.all false
set_option linter.unusedVariables false
set_option linter.unusedSimpArgs false
set_option maxRecDepth 100000
namespace Go.Proofs.YteijmljgodikiaaGreatZ
open Go

/-! ### Ascending lists -/
def Asc (l : List Int) : Prop := l.Pairwise (fun a b => a < b)
theorem asc_ext : ∀ {a b : List Int}, Asc a → Asc b → (∀ x, x ∈ a ↔ x ∈ b) → a = b
  | [], [], _, _, _ => rfl
  | [], y :: b, _, _, h => absurd ((h y).2 (by simp)) (by simp)
  | x :: a, [], _, _, h => absurd ((h x).1 (by simp)) (by simp)
  | x :: a, y :: b, ha, hb, h => by
    have ha' := List.pairwise_cons.1 ha
    have hb' := List.pairwise_cons.1 hb
    have hxy : x = y := by
      have h1 := (h x).1 (by simp)
      have h2 := (h y).2 (by simp)
      rcases List.mem_cons.1 h1 with h1 | h1
      · exact h1
      · rcases List.mem_cons.1 h2 with h2 | h2
        · exact h2.symm
        · have := hb'.1 x h1
          have := ha'.1 y h2
          omega
    subst hxy
    rw [asc_ext ha'.2 hb'.2 ?_]
    intro z
    have := h z
    simp only [List.mem_cons] at this
    constructor
    · intro hz
      rcases this.1 (.inr hz) with h1 | h1
      · have := ha'.1 z hz; omega
      · exact h1
    · intro hz
      rcases this.2 (.inr hz) with h1 | h1
      · have := hb'.1 z hz; omega
      · exact h1
theorem asc_snoc {l : List Int} {x : Int} (h : Asc l) (hx : ∀ y, y ∈ l → y < x) : Asc (l ++ [x]) := by
  unfold Asc
  rw [List.pairwise_append]
  exact ⟨h, List.pairwise_singleton _ _, fun a ha b hb => by rw [List.mem_singleton.1 hb]; exact hx a ha⟩
theorem asc_of_le {l : List Int} (h : l.Pairwise (fun a b => a ≤ b)) (hn : l.Nodup) : Asc l := by
  unfold Asc List.Nodup at *
  have := h.and hn
  refine this.imp ?_
  intro a b hab
  have := hab.1
  have := hab.2
  omega
theorem Asc.nodup {l : List Int} (h : Asc l) : l.Nodup := by
  unfold List.Nodup
  exact h.imp (fun hab => by omega)
theorem nodup_len {α : Type} [DecidableEq α] : ∀ {l r : List α}, l.Nodup → (∀ x, x ∈ l → x ∈ r) → l.length ≤ r.length
  | [], _, _, _ => by simp
  | x :: l, r, hn, h => by
    have hn' := List.nodup_cons.1 hn
    have hx := h x (by simp)
    have := nodup_len (l := l) (r := r.erase x) hn'.2 (fun y hy => by
      rw [List.mem_erase_of_ne (by intro e; subst e; exact hn'.1 hy)]
      exact h y (by simp [hy]))
    rw [List.length_erase_of_mem hx] at this
    have : 0 < r.length := List.length_pos_of_mem hx
    simp only [List.length_cons]
    omega

/-! ### Sort -/
theorem getI_at {α : Type} (A : List α) (b : α) (C : List α) : getI (A ++ b :: C) ((A.length : Nat) : Int) = some b := by
  rw [getI_lt (by simp)]
  simp
theorem set_at {α : Type} (A : List α) (b z : α) (C : List α) : (A ++ b :: C).set A.length z = A ++ z :: C := by
  rw [List.set_append_right _ _ (Nat.le_refl _), Nat.sub_self]; rfl
theorem Less_eq (x y : Int) : m_cmp_Less_int x y = some (decide (x < y)) := by
  unfold m_cmp_Less_int m_cmp_isNaN_int
  simp [obnd]

theorem sort_inner (b i : Int) (x : Int) : ∀ (n : Nat) (P : List Int), P.length = n → n ≤ 1000 → ∀ Q : List Int, ∃ P1 P2, P = P1 ++ P2 ∧ (∀ y, y ∈ P2 → x < y) ∧ (∀ A y, P1 = A ++ [y] → y ≤ x) ∧
    loopO (m_slices_insertionSortOrdered_int_L1 0 b i) (((P.length : Nat) : Int), P ++ x :: Q) = some (P1 ++ x :: P2 ++ Q) := by
  intro n
  induction n with
  | zero =>
    intro P hP _ Q
    obtain rfl := List.length_eq_zero_iff.1 hP
    refine ⟨[], [], rfl, by simp, fun A y h => by simp at h, ?_⟩
    rw [loopO_eq]
    unfold m_slices_insertionSortOrdered_int_L1
    simp
  | succ n ih =>
    intro P hP hn Q
    rcases List.eq_nil_or_concat P with rfl | ⟨A, y, rfl⟩
    · simp at hP
    rw [List.concat_eq_append] at *
    have hA : A.length = n := by simpa using hP
    rw [loopO_eq]
    have e1 : getI (A ++ [y] ++ x :: Q) (((A ++ [y]).length : Nat) : Int) = some x := getI_at _ _ _
    have e2 : (((A ++ [y]).length : Nat) : Int) - 1 = ((A.length : Nat) : Int) := by simp
    have e3 : getI (A ++ [y] ++ x :: Q) ((A.length : Nat) : Int) = some y := by
      rw [List.append_assoc]; exact getI_at _ _ _
    have e4 : (A ++ [y] ++ x :: Q).set (A ++ [y]).length y = A ++ y :: (y :: Q) := by
      rw [set_at]; simp
    by_cases hxy : x < y
    · obtain ⟨P1, P2, h1, h2, h3, h4⟩ := ih A hA (by omega) (y :: Q)
      refine ⟨P1, P2 ++ [y], by rw [h1]; simp, ?_, h3, ?_⟩
      · intro z hz
        rcases List.mem_append.1 hz with hz | hz
        · exact h2 z hz
        · rw [List.mem_singleton.1 hz]; exact hxy
      · have step : m_slices_insertionSortOrdered_int_L1 0 b i (((A ++ [y]).length : Nat), A ++ [y] ++ x :: Q) = some (.next (((A.length : Nat) : Int), A ++ x :: (y :: Q))) := by
          unfold m_slices_insertionSortOrdered_int_L1
          simp only
          rw [if_pos (by rw [List.length_append, List.length_singleton]; omega), e1]
          simp only [obnd]
          rw [wr (x := (((A ++ [y]).length : Nat) : Int) - 1) (by rw [List.length_append, List.length_singleton]; omega) (by rw [List.length_append, List.length_singleton]; omega), e2, e3]
          simp only
          rw [Less_eq]
          simp only
          rw [if_pos (decide_eq_true hxy), Int.toNat_natCast, e4, getI_at]
          simp only
          rw [Int.toNat_natCast, set_at]
        rw [step]
        simp only
        rw [h4]
        simp
    · refine ⟨A ++ [y], [], by simp, by simp, ?_, ?_⟩
      · intro B z hz
        have := List.append_inj_right' hz rfl
        simp at this
        omega
      · have step : m_slices_insertionSortOrdered_int_L1 0 b i (((A ++ [y]).length : Nat), A ++ [y] ++ x :: Q) = some (.done (A ++ [y] ++ x :: Q)) := by
          unfold m_slices_insertionSortOrdered_int_L1
          simp only
          rw [if_pos (by rw [List.length_append, List.length_singleton]; omega), e1]
          simp only [obnd]
          rw [wr (x := (((A ++ [y]).length : Nat) : Int) - 1) (by rw [List.length_append, List.length_singleton]; omega) (by rw [List.length_append, List.length_singleton]; omega), e2, e3]
          simp only
          rw [Less_eq]
          simp only
          rw [if_neg (by rw [decide_eq_false hxy]; simp)]
        rw [step]
        simp

theorem insertion_ok (l : List Int) (h : l.length ≤ 12) : ∃ r, m_slices_insertionSortOrdered_int l 0 ((l.length : Nat) : Int) = some r ∧ r.Perm l ∧ r.Pairwise (fun a b => a ≤ b) := by
  unfold m_slices_insertionSortOrdered_int
  have key : ∃ r, loopO (m_slices_insertionSortOrdered_int_L2 0 ((l.length : Nat) : Int)) (1, l) = some r ∧ (r.Perm l ∧ r.Pairwise (fun a b => a ≤ b)) := by
    by_cases h0 : l.length = 0
    · obtain rfl := List.length_eq_zero_iff.1 h0
      refine ⟨[], ?_, List.Perm.refl _, List.Pairwise.nil⟩
      rw [loopO_eq]
      unfold m_slices_insertionSortOrdered_int_L2
      simp
    refine loopO_inv (l.length - 1) (fun i st => st.1 = (i : Int) + 1 ∧ st.2.Perm l ∧ (st.2.take (i + 1)).Pairwise (fun a b => a ≤ b)) _ ⟨rfl, List.Perm.refl _, ?_⟩ ?_ ?_
    · cases l with
      | nil => simp
      | cons x l => simp
    · rintro i ⟨j, L⟩ hi ⟨hj, hp, hs⟩
      simp only at hj hp hs
      subst hj
      have hL := hp.length_eq
      have hd : L.drop (i + 1) = L[i + 1]'(by omega) :: L.drop (i + 2) := List.drop_eq_getElem_cons (by omega)
      have hsplit : L = L.take (i + 1) ++ L[i + 1]'(by omega) :: L.drop (i + 2) := by rw [← hd, List.take_append_drop]
      generalize hx : L[i + 1]'(by omega) = x at hd hsplit
      generalize hA : L.take (i + 1) = A at hs hsplit
      generalize hC : L.drop (i + 2) = C at hsplit
      have hAl : A.length = i + 1 := by rw [← hA, List.length_take]; omega
      obtain ⟨P1, P2, h1, h2, h3, h4⟩ := sort_inner ((l.length : Nat) : Int) ((i : Int) + 1) x A.length A rfl (by omega) C
      left
      refine ⟨((i : Int) + 1 + 1, P1 ++ x :: P2 ++ C), ?_, ?_, ?_, ?_⟩
      · unfold m_slices_insertionSortOrdered_int_L2
        simp only
        rw [if_pos (by omega), hsplit, show (i : Int) + 1 = ((A.length : Nat) : Int) by omega] at *
        rw [h4]
        simp only [obnd]
        rw [wr (by omega) (by omega)]
      · simp only; omega
      · refine List.Perm.trans ?_ hp
        rw [hsplit, h1]
        simp only [List.append_assoc, List.cons_append]
        refine List.Perm.append_left P1 ?_
        exact (List.perm_middle (a := x) (l₁ := P2) (l₂ := C)).symm
      · simp only
        have hlen : (P1 ++ x :: P2).length = i + 1 + 1 := by
          rw [h1] at hAl
          simp at hAl ⊢
          omega
        rw [← hlen, List.take_left]
        rw [h1] at hs
        obtain ⟨s1, s2, s3⟩ := List.pairwise_append.1 hs
        rw [List.pairwise_append]
        refine ⟨s1, List.pairwise_cons.2 ⟨fun y hy => Int.le_of_lt (h2 y hy), s2⟩, ?_⟩
        intro a ha b hb
        have hax : a ≤ x := by
          rcases List.eq_nil_or_concat P1 with rfl | ⟨B, y, rfl⟩
          · simp at ha
          · rw [List.concat_eq_append] at *
            have hy := h3 B y rfl
            rcases List.mem_append.1 ha with ha | ha
            · have := (List.pairwise_append.1 s1).2.2 a ha y (by simp)
              omega
            · rw [List.mem_singleton.1 ha]; exact hy
        rcases List.mem_cons.1 hb with rfl | hb
        · exact hax
        · have := h2 b hb; omega
    · rintro ⟨j, L⟩ ⟨hj, hp, hs⟩
      simp only at hj hp hs
      subst hj
      have hL := hp.length_eq
      unfold m_slices_insertionSortOrdered_int_L2
      simp only
      rw [if_neg (by omega)]
      refine ⟨_, rfl, hp, ?_⟩
      rw [List.take_of_length_le (by omega)] at hs
      exact hs
  obtain ⟨r, e, hr⟩ := key
  rw [show IntKind.wrap .i64 (0 + 1) = 1 from wr (by omega) (by omega), e]
  exact ⟨r, rfl, hr⟩

theorem bitsLen_some : ∀ n : Nat, n < 13 → (m_bits_Len (IntKind.wrap .u64 (n : Int))).isSome = true := by decide +kernel

theorem Sort_ok (l : List Int) (h : l.length ≤ 12) : ∃ r, m_slices_Sort_int l = some r ∧ r.Perm l ∧ r.Pairwise (fun a b => a ≤ b) := by
  unfold m_slices_Sort_int
  obtain ⟨b, hb⟩ := Option.isSome_iff_exists.1 (bitsLen_some l.length (by omega))
  rw [hb]
  simp only [obnd]
  obtain ⟨r, e, hr⟩ := insertion_ok l h
  have : m_slices_pdqsortOrdered_int l 0 ((l.length : Nat) : Int) b = some r := by
    unfold m_slices_pdqsortOrdered_int
    rw [loopO_eq]
    unfold m_slices_pdqsortOrdered_int_L1
    rw [wr (by omega) (by omega), if_pos (by omega), e]
    rfl
  rw [this]
  exact ⟨r, rfl, hr⟩

/-! ### Concat -/
theorem Grow_ok (n : Nat) (h : n ≤ 1048576) : m_slices_Grow_int (n : Int) = some (List.replicate n 0, 0) := by
  unfold m_slices_Grow_int
  rw [if_neg (by omega), wr (x := (0 : Int) - 0) (by omega) (by omega), wr (x := (n : Int) - (0 - 0)) (by omega) (by omega)]
  by_cases h0 : 0 < n
  · rw [if_pos (by omega), chk_pos (by omega), chk_pos (by omega), chk_pos (by omega), show ((n : Int) - (0 - 0)).toNat = n by omega]
  · obtain rfl : n = 0 := by omega
    rw [if_neg (by omega)]; rfl

theorem flat_succ (xs : List (List Int)) (i : Nat) (hi : i < xs.length) : (xs.take (i + 1)).flatten = (xs.take i).flatten ++ xs[i] := by
  rw [List.take_succ_eq_append_getElem hi, List.flatten_append]
  simp
theorem flat_le (xs : List (List Int)) (i : Nat) : (xs.take i).flatten.length ≤ xs.flatten.length := by
  have : xs.flatten = (xs.take i).flatten ++ (xs.drop i).flatten := by rw [← List.flatten_append, List.take_append_drop]
  rw [this, List.length_append]; omega

theorem Concat_ok (xs : List (List Int)) (h : xs.length ≤ 1048576) (hf : xs.flatten.length ≤ 1048576) : m_slices_Concat_int xs = some xs.flatten := by
  unfold m_slices_Concat_int
  have k1 : loopO (m_slices_Concat_int_L1 xs ((xs.length : Nat) : Int)) ((((xs.take 0).flatten.length : Nat) : Int), ((0 : Nat) : Int)) = some ((xs.flatten.length : Nat) : Int) := by
    refine loopO_to xs.length (fun i => ((((xs.take i).flatten.length : Nat) : Int), (i : Int))) ?_ ?_
    · intro i hi
      have e := flat_succ xs i hi
      have l1 := flat_le xs (i + 1)
      have e' := congrArg List.length e
      rw [List.length_append] at e'
      unfold m_slices_Concat_int_L1
      simp only
      rw [if_pos (by omega), getI_lt hi]
      simp only [obnd]
      rw [wr (x := (((xs.take i).flatten.length : Nat) : Int) + ((xs[i].length : Nat) : Int)) (by omega) (by omega), if_neg (by omega), wr (x := (i : Int) + 1) (by omega) (by omega)]
      congr 3
      omega
    · unfold m_slices_Concat_int_L1
      simp only
      rw [if_neg (by omega), List.take_length]
  simp only [List.take_zero, List.flatten_nil, List.length_nil, Int.natCast_zero] at k1
  rw [k1]
  simp only [obnd]
  rw [Grow_ok _ hf]
  simp only
  have k2 : ∃ q, loopO (m_slices_Concat_int_L2 xs ((xs.length : Nat) : Int)) (0, 0, List.replicate xs.flatten.length 0) = some q ∧ (q.1 ≤ q.2.length ∧ q.2.length ≤ xs.flatten.length ∧ q.2.take q.1 = xs.flatten) := by
    refine loopO_inv xs.length (fun i st => st.1 = (xs.take i).flatten.length ∧ st.2.1 = (i : Int) ∧ st.1 ≤ st.2.2.length ∧ st.2.2.length ≤ xs.flatten.length ∧ st.2.2.take st.1 = (xs.take i).flatten) _ ⟨by simp, rfl, by simp, by simp, by simp⟩ ?_ ?_
    · rintro i ⟨n, j, L⟩ hi ⟨hn, hj, hl, hz, ht⟩
      simp only at hn hj hl hz ht
      subst hj
      have e := flat_succ xs i hi
      have l1 := flat_le xs (i + 1)
      have e' := congrArg List.length e
      rw [List.length_append] at e'
      unfold m_slices_Concat_int_L2
      simp only
      rw [if_pos (by omega), getI_lt hi, wr (x := (i : Int) + 1) (by omega) (by omega)]
      simp only [obnd]
      left
      by_cases h1 : n = L.length
      · rw [if_pos h1, chk_pos (by omega), chk_pos (by omega)]
        refine ⟨_, rfl, by omega, rfl, by simp; omega, by simp only [List.length_append]; omega, ?_⟩
        rw [h1, List.take_length] at ht
        rw [List.take_of_length_le (by simp; omega), ht, e]
      · rw [if_neg h1, chk_pos (by omega)]
        by_cases h2 : xs[i].length = 0
        · rw [if_pos h2]
          have h3 := List.length_eq_zero_iff.1 h2
          refine ⟨_, rfl, by omega, rfl, hl, hz, ?_⟩
          rw [e, h3, List.append_nil]; exact ht
        · rw [if_neg h2, chk_pos (by omega), chk_pos (by omega)]
          refine ⟨_, rfl, by omega, rfl, by simp; omega, by simp only [List.length_append, List.length_take]; omega, ?_⟩
          rw [ht, e, List.take_of_length_le (by rw [List.length_append]; omega)]
    · rintro ⟨n, j, L⟩ ⟨hn, hj, hl, hz, ht⟩
      simp only at hn hj hl hz ht
      subst hj
      unfold m_slices_Concat_int_L2
      simp only
      rw [if_neg (by omega)]
      rw [List.take_length] at ht
      exact ⟨_, rfl, hl, hz, ht⟩
  obtain ⟨q, e, hl, hz, hq⟩ := k2
  have hq' := congrArg List.length hq
  rw [List.length_take] at hq'
  rw [e]
  simp only
  rw [chk_pos hl, chk_pos (by omega), hq]

/-! ### Those whose bits are set -/
def bitOn (set : Int) (i : Nat) : Bool := decide ((IntKind.wrap .i64 (((BitVec.ofInt (IntKind.bits .i64) (Int.fdiv set (2 ^ (min i 64))) &&& BitVec.ofInt (IntKind.bits .i64) 1).toNat : Nat) : Int)) = 1)
def sel (p : Nat → Bool) (l : List Int) (n : Nat) : List Int := ((List.range n).filter p).map (fun j => l.getD j 0)
theorem sel_yes {p : Nat → Bool} {l : List Int} {n : Nat} (h : p n = true) : sel p l (n + 1) = sel p l n ++ [l.getD n 0] := by
  unfold sel
  rw [List.range_succ, List.filter_append, List.map_append]
  simp [h]
theorem sel_no {p : Nat → Bool} {l : List Int} {n : Nat} (h : p n = false) : sel p l (n + 1) = sel p l n := by
  unfold sel
  rw [List.range_succ, List.filter_append, List.map_append]
  simp [h]
theorem sel_len (p : Nat → Bool) (l : List Int) (n : Nat) : (sel p l n).length ≤ n := by
  unfold sel
  rw [List.length_map]
  have := List.length_filter_le p (List.range n)
  simpa using this
theorem sel_mem {p : Nat → Bool} {l : List Int} {n : Nat} {x : Int} (h : x ∈ sel p l n) : ∃ i, i < n ∧ p i = true ∧ x = l.getD i 0 := by
  unfold sel at h
  simp only [List.mem_map, List.mem_filter, List.mem_range] at h
  obtain ⟨i, ⟨h1, h2⟩, rfl⟩ := h
  exact ⟨i, h1, h2, rfl⟩
theorem sel_in {p : Nat → Bool} {l : List Int} {x : Int} (h : x ∈ sel p l l.length) : x ∈ l := by
  obtain ⟨i, hi, _, rfl⟩ := sel_mem h
  rw [List.getD_eq_getElem?_getD, List.getElem?_eq_getElem hi]
  exact List.getElem_mem hi
theorem sel_asc {p : Nat → Bool} {l : List Int} (h : Asc l) : ∀ n, n ≤ l.length → Asc (sel p l n)
  | 0, _ => List.Pairwise.nil
  | n + 1, hn => by
    have ih := sel_asc (p := p) h n (by omega)
    cases hp : p n
    · rw [sel_no hp]; exact ih
    · rw [sel_yes hp]
      refine asc_snoc ih ?_
      intro y hy
      obtain ⟨i, hi, _, rfl⟩ := sel_mem hy
      rw [List.getD_eq_getElem?_getD, List.getElem?_eq_getElem (by omega), List.getD_eq_getElem?_getD, List.getElem?_eq_getElem (by omega)]
      exact List.pairwise_iff_getElem.1 h i n (by omega) (by omega) hi

theorem members_eq (l : List Int) (n : Int) (h : l.length ≤ 1000) : m_impl_members l n = some (sel (bitOn n) l l.length) := by
  unfold m_impl_members
  have key : loopO (m_impl_members_L1 n l ((l.length : Nat) : Int)) (((0 : Nat) : Int), sel (bitOn n) l 0) = some (sel (bitOn n) l l.length) := by
    refine loopO_to l.length (fun i => ((i : Int), sel (bitOn n) l i)) ?_ ?_
    · intro i hi
      have hs := sel_len (bitOn n) l i
      unfold m_impl_members_L1
      simp only
      rw [if_pos (by omega), getI_D hi]
      simp only [obnd]
      rw [chk_pos (by omega), wr (x := (i : Int) + 1) (by omega) (by omega), Int.toNat_natCast]
      cases hb : bitOn n i
      · rw [sel_no hb]
        unfold bitOn at hb
        rw [if_neg (of_decide_eq_false hb)]; rfl
      · rw [sel_yes hb]
        unfold bitOn at hb
        rw [if_pos (of_decide_eq_true hb), chk_pos (by omega), chk_pos (by omega)]; rfl
    · unfold m_impl_members_L1
      simp only
      rw [if_neg (by omega)]
  rw [show (0 : Int) = ((0 : Nat) : Int) from rfl, show ([] : List Int) = sel (bitOn n) l 0 from rfl, key]; rfl

theorem wru {n : Nat} (h : n ≤ 1000000) : IntKind.wrap .u64 (n : Int) = n := by
  show (n : Int) % 18446744073709551616 = n
  omega

theorem l14Some_eq (l : List Int) (n : Int) (h : l.length ≤ 1000) : m_spec_l14Some l n = some (sel (bitOn n) l l.length) := by
  unfold m_spec_l14Some
  have key : loopO (m_spec_l14Some_L1 n l ((l.length : Nat) : Int)) (((0 : Nat) : Int), sel (bitOn n) l 0) = some (sel (bitOn n) l l.length) := by
    refine loopO_to l.length (fun i => ((i : Int), sel (bitOn n) l i)) ?_ ?_
    · intro i hi
      have hs := sel_len (bitOn n) l i
      unfold m_spec_l14Some_L1
      simp only
      rw [if_pos (by omega), getI_D hi, wru (by omega)]
      simp only [obnd]
      rw [chk_pos (by omega), wr (x := (i : Int) + 1) (by omega) (by omega), Int.toNat_natCast]
      cases hb : bitOn n i
      · rw [sel_no hb]
        unfold bitOn at hb
        rw [if_neg (of_decide_eq_false hb)]; rfl
      · rw [sel_yes hb]
        unfold bitOn at hb
        rw [if_pos (of_decide_eq_true hb), chk_pos (by omega), chk_pos (by omega)]; rfl
    · unfold m_spec_l14Some_L1
      simp only
      rw [if_neg (by omega)]
  rw [show (0 : Int) = ((0 : Nat) : Int) from rfl, show ([] : List Int) = sel (bitOn n) l 0 from rfl, key]; rfl

/-! ### Two ascending lists in one -/
noncomputable def mrg (a b : List Int) : List Int := (m_slices_Sort_int (a ++ b)).getD []
theorem mrg_facts {a b : List Int} (ha : Asc a) (hb : Asc b) (hd : ∀ x, x ∈ a → x ∈ b → False) (h : a.length + b.length ≤ 12) :
    m_slices_Sort_int (a ++ b) = some (mrg a b) ∧ Asc (mrg a b) ∧ (∀ x, x ∈ mrg a b ↔ x ∈ a ∨ x ∈ b) ∧ (mrg a b).length = a.length + b.length := by
  obtain ⟨r, e, hp, hs⟩ := Sort_ok (a ++ b) (by simpa using h)
  have hm : mrg a b = r := by unfold mrg; rw [e]; rfl
  rw [hm]
  refine ⟨e, asc_of_le hs ?_, ?_, by rw [hp.length_eq, List.length_append]⟩
  · refine hp.nodup_iff.2 ?_
    rw [List.nodup_append]
    exact ⟨ha.nodup, hb.nodup, fun x hx y hy he => hd x hx (he ▸ hy)⟩
  · intro x
    rw [hp.mem_iff, List.mem_append]

theorem l14Merge_eq {a b : List Int} (ha : Asc a) (hb : Asc b) (hd : ∀ x, x ∈ a → x ∈ b → False) (h : a.length + b.length ≤ 12) : m_spec_l14Merge a b = some (mrg a b) := by
  obtain ⟨_, m1, m2, _⟩ := mrg_facts ha hb hd h
  unfold m_spec_l14Merge
  have key : ∃ r, loopO (m_spec_l14Merge_L1 a b) (0, 0, []) = some r ∧ (Asc r ∧ ∀ x, x ∈ r ↔ x ∈ a ∨ x ∈ b) := by
    refine loopO_inv (a.length + b.length) (fun n st => ∃ i k : Nat, st.1 = (i : Int) ∧ st.2.1 = (k : Int) ∧ i + k = n ∧ i ≤ a.length ∧ k ≤ b.length ∧ st.2.2.length = n ∧ Asc st.2.2 ∧ (∀ x, x ∈ st.2.2 ↔ x ∈ a.take i ∨ x ∈ b.take k) ∧
      (∀ x, x ∈ st.2.2 → (∀ hi : i < a.length, x < a[i]) ∧ (∀ hk : k < b.length, x < b[k]))) (fun r => Asc r ∧ ∀ x, x ∈ r ↔ x ∈ a ∨ x ∈ b) ?_ ?_ ?_
    · exact ⟨0, 0, rfl, rfl, rfl, Nat.zero_le _, Nat.zero_le _, rfl, List.Pairwise.nil, by simp, by simp⟩
    · rintro n ⟨i', k', out⟩ hn ⟨i, k, h1, h2, h3, h4, h5, h6, h7, h8, h9⟩
      simp only at h1 h2 h6 h7 h8 h9
      subst h1 h2
      left
      have takeA : ∀ hi : i < a.length, (∀ hk : k < b.length, a[i] < b[k]) → ∃ s', (some (Step.next ((i : Int) + 1, (k : Int), out ++ [a[i]])) : Option (Step (Int × Int × List Int) (List Int))) = some (.next s') ∧ ∃ i2 k2 : Nat, s'.1 = (i2 : Int) ∧ s'.2.1 = (k2 : Int) ∧ i2 + k2 = n + 1 ∧ i2 ≤ a.length ∧ k2 ≤ b.length ∧ s'.2.2.length = n + 1 ∧ Asc s'.2.2 ∧ (∀ x, x ∈ s'.2.2 ↔ x ∈ a.take i2 ∨ x ∈ b.take k2) ∧
          (∀ x, x ∈ s'.2.2 → (∀ hi : i2 < a.length, x < a[i2]) ∧ (∀ hk : k2 < b.length, x < b[k2])) := by
        intro hi hlt
        refine ⟨_, rfl, i + 1, k, by simp, rfl, by omega, hi, h5, by simp [h6], asc_snoc h7 (fun y hy => (h9 y hy).1 hi), ?_, ?_⟩
        · intro x
          rw [List.take_succ_eq_append_getElem hi]
          simp only [List.mem_append, List.mem_singleton, h8]
          constructor
          · rintro ((hx | hx) | hx)
            · exact .inl (.inl hx)
            · exact .inr hx
            · exact .inl (.inr hx)
          · rintro ((hx | hx) | hx)
            · exact .inl (.inl hx)
            · exact .inr hx
            · exact .inl (.inr hx)
        · intro x hx
          rcases List.mem_append.1 hx with hx | hx
          · refine ⟨fun hi2 => ?_, fun hk => (h9 x hx).2 hk⟩
            have := (h9 x hx).1 hi
            have := List.pairwise_iff_getElem.1 ha i (i + 1) hi hi2 (by omega)
            omega
          · rw [List.mem_singleton.1 hx]
            exact ⟨fun hi2 => List.pairwise_iff_getElem.1 ha i (i + 1) hi hi2 (by omega), fun hk => hlt hk⟩
      have takeB : ∀ hk : k < b.length, (∀ hi : i < a.length, b[k] < a[i]) → ∃ s', (some (Step.next ((i : Int), (k : Int) + 1, out ++ [b[k]])) : Option (Step (Int × Int × List Int) (List Int))) = some (.next s') ∧ ∃ i2 k2 : Nat, s'.1 = (i2 : Int) ∧ s'.2.1 = (k2 : Int) ∧ i2 + k2 = n + 1 ∧ i2 ≤ a.length ∧ k2 ≤ b.length ∧ s'.2.2.length = n + 1 ∧ Asc s'.2.2 ∧ (∀ x, x ∈ s'.2.2 ↔ x ∈ a.take i2 ∨ x ∈ b.take k2) ∧
          (∀ x, x ∈ s'.2.2 → (∀ hi : i2 < a.length, x < a[i2]) ∧ (∀ hk : k2 < b.length, x < b[k2])) := by
        intro hk hlt
        refine ⟨_, rfl, i, k + 1, rfl, by simp, by omega, h4, hk, by simp [h6], asc_snoc h7 (fun y hy => (h9 y hy).2 hk), ?_, ?_⟩
        · intro x
          rw [List.take_succ_eq_append_getElem hk]
          simp only [List.mem_append, List.mem_singleton, h8]
          constructor
          · rintro ((hx | hx) | hx)
            · exact .inl hx
            · exact .inr (.inl hx)
            · exact .inr (.inr hx)
          · rintro (hx | hx | hx)
            · exact .inl (.inl hx)
            · exact .inl (.inr hx)
            · exact .inr hx
        · intro x hx
          rcases List.mem_append.1 hx with hx | hx
          · refine ⟨fun hi => (h9 x hx).1 hi, fun hk2 => ?_⟩
            have := (h9 x hx).2 hk
            have := List.pairwise_iff_getElem.1 hb k (k + 1) hk hk2 (by omega)
            omega
          · rw [List.mem_singleton.1 hx]
            exact ⟨fun hi => hlt hi, fun hk2 => List.pairwise_iff_getElem.1 hb k (k + 1) hk hk2 (by omega)⟩
      unfold m_spec_l14Merge_L1
      simp only
      have c1 : (out.length + 1) * 8 ≤ 140737488355328 := by omega
      have c2 : out.length + 1 ≤ 9223372036854775807 := by omega
      simp only [chk_pos c1, chk_pos c2]
      rw [wr (x := (i : Int) + 1) (by omega) (by omega), wr (x := (k : Int) + 1) (by omega) (by omega)]
      by_cases hi : i < a.length
      · rw [if_pos (by omega)]
        by_cases hk : k < b.length
        · rw [if_neg (by omega), getI_lt hi, getI_lt hk]
          simp only [obnd]
          by_cases hlt : a[i] < b[k]
          · rw [if_pos hlt]; exact takeA hi (fun _ => hlt)
          · rw [if_neg hlt]
            refine takeB hk (fun _ => ?_)
            have : a[i] ≠ b[k] := fun e => hd a[i] (List.getElem_mem hi) (e ▸ List.getElem_mem hk)
            omega
        · rw [if_pos (by omega), getI_lt hi]
          simp only [obnd]
          exact takeA hi (fun hk' => absurd hk' hk)
      · have hk : k < b.length := by omega
        rw [if_neg (by omega), if_pos (by omega), if_neg (by omega), getI_lt hk]
        simp only [obnd]
        exact takeB hk (fun hi' => absurd hi' hi)
    · rintro ⟨i', k', out⟩ ⟨i, k, h1, h2, h3, h4, h5, h6, h7, h8, h9⟩
      simp only at h1 h2 h6 h7 h8 h9
      subst h1 h2
      obtain rfl : i = a.length := by omega
      obtain rfl : k = b.length := by omega
      unfold m_spec_l14Merge_L1
      simp only
      rw [if_neg (by omega), if_neg (by omega)]
      refine ⟨_, rfl, h7, ?_⟩
      simpa using h8
  obtain ⟨r, e, r1, r2⟩ := key
  rw [e]
  simp only [obnd]
  rw [asc_ext r1 m1 (fun x => by rw [r2, m2])]
end Go.Proofs.YteijmljgodikiaaGreatZ
