/- Marked and held. Own work. -/
import Derived.Test.YtgmiaokdnpaglaaP7
set_option linter.all false
set_option linter.unusedVariables false
set_option linter.unusedSimpArgs false
namespace Go.Proofs.YtgmiaokdnpaglaaV
open Go

def mkI (k : Int) (n : Nat) : List Int := (List.range n).map (fun (j : Nat) => k + (j : Int))
def mkA (k : Int) (a : List Int) (i : Nat) : List Int := a.mapIdx (fun j x => if j < i then k + (j : Int) else x)
theorem mkA_length (k : Int) (a : List Int) (i : Nat) : (mkA k a i).length = a.length := by simp [mkA]
theorem mkA_zero (k : Int) (a : List Int) : mkA k a 0 = a := by
  apply List.ext_getElem (by simp [mkA])
  intro j h1 h2
  simp [mkA]
theorem mkA_all (k : Int) (a : List Int) : mkA k a a.length = mkI k a.length := by
  apply List.ext_getElem (by simp [mkA, mkI])
  intro j h1 h2
  simp [mkA_length] at h1
  simp [mkA, mkI, h1]
theorem mkA_step (k : Int) (a : List Int) (i : Nat) (hi : i < a.length) : (mkA k a i).set i (k + (i : Int)) = mkA k a (i + 1) := by
  apply List.ext_getElem (by simp [mkA])
  intro j h1 h2
  rw [List.getElem_set]
  simp only [mkA, List.getElem_mapIdx]
  by_cases h : i = j
  · subst h; simp
  · rw [if_neg h]
    by_cases h3 : j < i
    · rw [if_pos h3, if_pos (by omega)]
    · rw [if_neg h3, if_neg (by omega)]

theorem markIntS_eq (a : List Int) (k : Int) (ha : a.length ≤ 1048576) (h0 : 0 ≤ k) (hk : k ≤ 1152921504606846976) : m_laws_markIntS a k = some (k + a.length, mkI k a.length) := by
  unfold m_laws_markIntS
  have key : loopO m_laws_markIntS_L1 (k + ((0 : Nat) : Int), ((0 : Nat) : Int), mkA k a 0) = some (k + a.length, mkI k a.length) := by
    refine loopO_to a.length (fun i => (k + (i : Int), (i : Int), mkA k a i)) ?_ ?_
    · intro i hi
      have hl := mkA_length k a i
      unfold m_laws_markIntS_L1
      simp only
      rw [if_pos (by omega), getI_lt (by omega), wr (by omega) (by omega), wr (by omega) (by omega)]
      simp only [obnd, Int.toNat_natCast]
      rw [mkA_step k a i hi]
      rw [show k + (i : Int) + 1 = k + ((i + 1 : Nat) : Int) by omega, show (i : Int) + 1 = ((i + 1 : Nat) : Int) by omega]
    · have hl := mkA_length k a a.length
      unfold m_laws_markIntS_L1
      simp only
      rw [if_neg (by omega), mkA_all]
  rw [mkA_zero, show k + ((0 : Nat) : Int) = k by omega, show ((0 : Nat) : Int) = 0 from rfl] at key
  rw [key]; rfl

theorem heldIntS_eq (k : Int) (n : Nat) (hn : n ≤ 1048576) (h0 : 0 ≤ k) (hk : k ≤ 1152921504606846976) : m_laws_heldIntS (mkI k n) k = some (k + n) := by
  unfold m_laws_heldIntS
  have hl : (mkI k n).length = n := by simp [mkI]
  have key : loopO (m_laws_heldIntS_L1 (mkI k n)) (k + ((0 : Nat) : Int), ((0 : Nat) : Int)) = some (.inl (k + n)) := by
    refine loopO_to n (fun i => (k + (i : Int), (i : Int))) ?_ ?_
    · intro i hi
      unfold m_laws_heldIntS_L1
      simp only
      rw [if_pos (by omega), getI_lt (by omega), wr (by omega) (by omega), wr (by omega) (by omega)]
      simp only [obnd]
      rw [if_pos (by simp [mkI])]
      rw [show k + (i : Int) + 1 = k + ((i + 1 : Nat) : Int) by omega, show (i : Int) + 1 = ((i + 1 : Nat) : Int) by omega]
    · unfold m_laws_heldIntS_L1
      simp only
      rw [if_neg (by omega)]
  rw [show k + ((0 : Nat) : Int) = k by omega, show ((0 : Nat) : Int) = 0 from rfl] at key
  rw [key]; rfl

theorem strOf_one (n : Int) : (strOf [n]).size = 1 := rfl

theorem markText_ok (k : Int) (hk : k ≤ 2305843009213693952) : ∃ r, m_laws_markText k = some r := by
  unfold m_laws_markText
  split
  · exact ⟨_, rfl⟩
  · have key : ∀ (n : Nat) (k : Int) (out : ByteArray), k.toNat ≤ n → (out.size : Int) + k ≤ 4611686018427387904 → k ≤ 2305843009213693952 → 0 ≤ k → ∃ r, loopO m_laws_markText_L1 (k, out) = some r ∧ (r.size : Int) ≤ out.size + k := by
      intro n
      induction n with
      | zero =>
        intro k out h1 h2 h3 h4
        refine ⟨out, ?_, by omega⟩
        rw [loopO_eq]
        unfold m_laws_markText_L1
        simp only
        rw [if_neg (by omega)]
      | succ n ih =>
        intro k out h1 h2 h3 h4
        by_cases hk : 0 < k
        · have hd : Int.tdiv k 10 = k / 10 := Int.tdiv_eq_ediv_of_nonneg h4
          have hw : IntKind.wrap .i64 (Int.tdiv k 10) = k / 10 := by rw [hd, wr (by omega) (by omega)]
          obtain ⟨r, hr, hp⟩ := ih (k / 10) (strOf [IntKind.wrap .u8 (IntKind.wrap .i64 (48 + (Int.tmod k 10)))] ++ out) (by omega) (by rw [ByteArray.size_append, strOf_one]; omega) (by omega) (by omega)
          rw [ByteArray.size_append, strOf_one] at hp
          refine ⟨r, ?_, by omega⟩
          rw [loopO_eq]
          unfold m_laws_markText_L1
          simp only
          rw [if_pos hk, chk_pos (by rw [strOf_one]; omega), hw]
          exact hr
        · refine ⟨out, ?_, by omega⟩
          rw [loopO_eq]
          unfold m_laws_markText_L1
          simp only
          rw [if_neg hk]
    obtain ⟨r, hr, hp⟩ := key k.toNat k (ByteArray.mk #[]) (Nat.le_refl _) (by
      have : (ByteArray.mk #[]).size = 0 := rfl
      omega) hk (by omega)
    have h0 : (ByteArray.mk #[]).size = 0 := rfl
    rw [hr]
    simp only [obnd]
    rw [chk_pos (by omega)]
    exact ⟨_, rfl⟩

theorem markNodeS_ok (a : List GNode) (k : Int) (ha : a.length ≤ 1048576) (hn : ∀ n, n ∈ a → FitN n) (h0 : 0 ≤ k) (hk : k ≤ 1125899906842624) : ∃ k' a', m_laws_markNodeS a k = some (k', a') ∧ k ≤ k' ∧ k' ≤ k + (a.length : Int) * 1048578 := by
  unfold m_laws_markNodeS
  have inv : ∃ q, loopO m_laws_markNodeS_L1 (k, 0, a) = some q ∧ (k ≤ q.1 ∧ q.1 ≤ k + (a.length : Int) * 1048578) := by
    refine loopO_inv a.length (fun i s => s.2.1 = (i : Int) ∧ s.2.2.length = a.length ∧ (∀ j, i ≤ j → s.2.2[j]? = a[j]?) ∧ k ≤ s.1 ∧ s.1 ≤ k + (i : Int) * 1048578) _ ⟨rfl, rfl, fun _ _ => rfl, by simp only; omega, by simp only; omega⟩ ?_ ?_
    · rintro i ⟨k', i', a'⟩ hi ⟨h1, h2, h3, h4, h5⟩
      simp only at h1 h2 h3 h4 h5
      subst h1
      left
      unfold m_laws_markNodeS_L1
      simp only
      have hi' : i < a'.length := by omega
      have e : a'[i] = a[i] := by
        have := h3 i (Nat.le_refl _)
        rw [List.getElem?_eq_getElem hi', List.getElem?_eq_getElem hi] at this
        exact Option.some.inj this
      obtain ⟨t, ht⟩ := markText_ok k' (by omega)
      have hl : a[i].label.length ≤ 1048576 := (hn _ (List.getElem_mem hi)).label
      rw [if_pos (by omega), ht, getI_lt hi', e]
      simp only [obnd, Int.toNat_natCast]
      have hlen : ∀ z : GNode, i < (a'.set i z).length := fun z => by simp; omega
      rw [getI_lt (hlen _)]
      simp only [List.getElem_set_self]
      rw [wr (x := k' + 1) (by omega) (by omega), markIntS_eq _ _ hl (by omega) (by omega)]
      simp only
      rw [chk_pos (by simp [mkI]), getI_lt (by simp; omega)]
      simp only [List.getElem_set_self]
      rw [wr (x := k' + 1 + (a[i].label.length : Int) + 1) (by omega) (by omega), wr (x := (i : Int) + 1) (by omega) (by omega)]
      refine ⟨_, rfl, by simp only; omega, by simp only [List.length_set]; exact h2, fun j hj => ?_, by simp only; omega, by simp only; omega⟩
      simp only [List.set_set]
      rw [List.getElem?_set_ne (by omega)]
      exact h3 j (by omega)
    · rintro ⟨k', i', a'⟩ ⟨h1, h2, h3, h4, h5⟩
      simp only at h1 h2 h3 h4 h5
      subst h1
      unfold m_laws_markNodeS_L1
      simp only
      rw [if_neg (by omega)]
      exact ⟨_, rfl, h4, h5⟩
  obtain ⟨⟨k', a'⟩, hr, hp⟩ := inv
  rw [hr]
  exact ⟨_, _, rfl, hp⟩

theorem markTieS_ok (a : List GTie) (k : Int) (ha : a.length ≤ 1048576) (h0 : 0 ≤ k) (hk : k ≤ 1152921504606846976) : ∃ k' a', m_laws_markTieS a k = some (k', a') ∧ k ≤ k' ∧ k' ≤ k + (a.length : Int) * 5 := by
  unfold m_laws_markTieS
  have inv : ∃ q, loopO m_laws_markTieS_L1 (k, 0, a) = some q ∧ (k ≤ q.1 ∧ q.1 ≤ k + (a.length : Int) * 5) := by
    refine loopO_inv a.length (fun i s => s.2.1 = (i : Int) ∧ s.2.2.length = a.length ∧ k ≤ s.1 ∧ s.1 ≤ k + (i : Int) * 5) _ ⟨rfl, rfl, by simp only; omega, by simp only; omega⟩ ?_ ?_
    · rintro i ⟨k', i', a'⟩ hi ⟨h1, h2, h4, h5⟩
      simp only at h1 h2 h4 h5
      subst h1
      left
      unfold m_laws_markTieS_L1
      simp only
      have hi' : i < a'.length := by omega
      rw [if_pos (by omega), getI_lt hi']
      simp only [obnd, Int.toNat_natCast]
      rw [wr (x := k' + 1) (by omega) (by omega), wr (x := k' + 1 + 1) (by omega) (by omega), wr (x := k' + 1 + 1 + 1) (by omega) (by omega), wr (x := k' + 1 + 1 + 1 + 1) (by omega) (by omega), wr (x := k' + 1 + 1 + 1 + 1 + 1) (by omega) (by omega), wr (x := (i : Int) + 1) (by omega) (by omega)]
      rw [getI_lt (by simp; omega)]
      simp only
      rw [getI_lt (by simp; omega)]
      simp only
      rw [getI_lt (by simp; omega)]
      simp only
      rw [getI_lt (by simp; omega)]
      simp only
      exact ⟨_, rfl, by simp only; omega, by simp only [List.length_set]; exact h2, by simp only; omega, by simp only; omega⟩
    · rintro ⟨k', i', a'⟩ ⟨h1, h2, h4, h5⟩
      simp only at h1 h2 h4 h5
      subst h1
      unfold m_laws_markTieS_L1
      simp only
      rw [if_neg (by omega)]
      exact ⟨_, rfl, h4, h5⟩
  obtain ⟨⟨k', a'⟩, hr, hp⟩ := inv
  rw [hr]
  exact ⟨_, _, rfl, hp⟩

theorem markShow_ok (s : GShow) (k : Int) (h : FitS s) (h0 : 0 ≤ k) (hk : k ≤ 1073741824) : ∃ q, m_laws_markShow s k = some q ∧ k ≤ q.1 ∧ q.1 ≤ 1152921504606846976 - 1048576 := by
  unfold m_laws_markShow
  have h1 := h.nodes
  have h2 := h.ties
  obtain ⟨k1, a1, e1, l1, u1⟩ := markNodeS_ok s.nodes k h.nodes h.node h0 (by omega)
  obtain ⟨k2, a2, e2, l2, u2⟩ := markTieS_ok s.ties k1 h.ties (by omega) (by omega)
  rw [e1]
  simp only [obnd, e2]
  exact ⟨_, rfl, by simp only; omega, by simp only; omega⟩
end Go.Proofs.YtgmiaokdnpaglaaV
