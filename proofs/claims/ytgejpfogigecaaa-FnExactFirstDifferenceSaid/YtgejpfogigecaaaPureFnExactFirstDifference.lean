/- For every two lists of whole numbers, the program's first difference and the reference's are the same, and both lists read afterwards as before. No condition beyond the form's own reach. -/
import Derived.Test.YtgejpfogigecaaaPFnExactFirstDifferencex2
namespace Go.Proofs.Ytgejpfogigecaaa.Pure
open Go.RowKit Go.Proofs.Ytgejpfogigecaaa.PFnExactFirstDifference Go.Proofs.YtgejpfogigecaaaW.PrintWords Go.Proofs.YtgejpfogigecaaaW.PrintLast

theorem diff_same (k : Nat) : (∀ (a b : List Int) (i : Int), impl_FirstDifference.l0 k a b i = spec_FirstDifference.l0 k a b i) ∧
    ∀ (a b : List Int) (i : Int) (t : Bool), impl_FirstDifference.j1 k a b i t = spec_FirstDifference.j1 k a b i t := by
  induction k with
  | zero => exact ⟨fun _ _ _ => rfl, fun _ _ _ _ => rfl⟩
  | succ k ih =>
    obtain ⟨ih0, ih1⟩ := ih
    exact ⟨fun a b i => by simp only [impl_FirstDifference.l0, spec_FirstDifference.l0, ih1], fun a b i t => by simp only [impl_FirstDifference.j1, spec_FirstDifference.j1, ih0]⟩

theorem wrap_next {i : Int} {n : Nat} (h0 : 0 ≤ i) (h : i < (n : Int)) (hn : n * 8 ≤ 140737488351232) : wrap64 (i + 1) = i + 1 := by
  unfold wrap64; omega

theorem diff_tells (a b : List Int) (ha : a.length * 8 ≤ 140737488351232) (d : Nat) : ∀ (k : Nat) (i : Int), 0 ≤ i → i ≤ a.length → (a.length : Int) - i = d → 2 * d + 2 ≤ k →
    ∃ r, spec_FirstDifference.l0 k a b i = some r := by
  induction d with
  | zero =>
    intro k i h0 h1 hd hk
    obtain ⟨k, rfl⟩ : ∃ m, k = m + 2 := ⟨k - 2, by omega⟩
    simp only [spec_FirstDifference.l0, spec_FirstDifference.j1]
    rw [if_neg (by omega)]
    by_cases hlt : i < (b.length : Int)
    · rw [if_pos (by simp [hlt]), if_pos (by omega)]; exact ⟨_, rfl⟩
    · rw [if_neg (by simp [hlt])]; exact ⟨_, rfl⟩
  | succ d ih =>
    intro k i h0 h1 hd hk
    obtain ⟨k, rfl⟩ : ∃ m, k = m + 2 := ⟨k - 2, by omega⟩
    have hlt : i < (a.length : Int) := by omega
    simp only [spec_FirstDifference.l0, spec_FirstDifference.j1]
    rw [if_pos hlt, if_pos trivial, if_neg (by omega)]
    by_cases hb' : i ≥ (b.length : Int)
    · rw [if_pos hb']; exact ⟨_, rfl⟩
    · rw [if_neg hb', if_pos h0, if_pos hlt, if_pos (by omega)]
      by_cases he : rd a i = rd b i
      · rw [if_pos he, wrap_next h0 hlt ha]; exact ih k (i + 1) (by omega) (by omega) (by omega) (by omega)
      · rw [if_neg he]; exact ⟨_, rfl⟩

theorem rd_get (l : List Int) (j : Nat) (h : j < l.length) : rd l (j : Int) = l[j] := by
  simp [rd, h]

theorem copy_tells (a : List Int) (ha : a.length * 8 ≤ 140737488351232) (d : Nat) : ∀ (k j : Nat) (x : List Int), x.length = a.length → x.take j = a.take j → j + d = a.length → d < k →
    laws_toIntS.l0 k a x (j : Int) = some a := by
  induction d with
  | zero =>
    intro k j x hx ht hj hk
    obtain ⟨k, rfl⟩ : ∃ m, k = m + 1 := ⟨k - 1, by omega⟩
    simp only [laws_toIntS.l0]; rw [if_neg (by omega)]
    rw [List.take_of_length_le (by omega), List.take_of_length_le (by omega)] at ht
    rw [ht]
  | succ d ih =>
    intro k j x hx ht hj hk
    obtain ⟨k, rfl⟩ : ∃ m, k = m + 1 := ⟨k - 1, by omega⟩
    have hlt : (j : Int) < (a.length : Int) := by omega
    simp only [laws_toIntS.l0]
    rw [if_pos hlt, if_pos (by omega), if_pos (by omega), wrap_next (by omega) hlt ha, rd_get a j (by omega)]
    have := ih k (j + 1) (x.set j a[j]) (by simp [hx]) (by
      rw [List.take_succ_eq_append_getElem (by simp; omega), List.take_succ_eq_append_getElem (by omega)]
      rw [List.getElem_set_self, List.take_set_of_le (Nat.le_refl _), ht]) (by omega) (by omega)
    simpa using this

theorem copy_all (a : List Int) (ha : a.length * 8 ≤ 140737488351232) (k : Nat) (hk : a.length < k) : laws_toIntS.f k a = some a := by
  unfold laws_toIntS.f
  rw [if_pos (by omega), if_pos (by omega)]
  exact copy_tells a ha a.length k 0 _ (by simp) rfl (by omega) hk

theorem eq_tells (a : List Int) (ha : a.length * 8 ≤ 140737488351232) (d : Nat) : ∀ (k : Nat) (i : Int), 0 ≤ i → i ≤ a.length → (a.length : Int) - i = d → d < k →
    laws_eqIntS.l0 k a a i = some true := by
  induction d with
  | zero =>
    intro k i h0 h1 hd hk
    obtain ⟨k, rfl⟩ : ∃ m, k = m + 1 := ⟨k - 1, by omega⟩
    simp only [laws_eqIntS.l0]; rw [if_neg (by omega)]
  | succ d ih =>
    intro k i h0 h1 hd hk
    obtain ⟨k, rfl⟩ : ∃ m, k = m + 1 := ⟨k - 1, by omega⟩
    have hlt : i < (a.length : Int) := by omega
    simp only [laws_eqIntS.l0]
    rw [if_pos hlt, if_pos h0, if_pos hlt, if_pos trivial, wrap_next h0 hlt ha]
    exact ih k (i + 1) (by omega) (by omega) (by omega) (by omega)

theorem eq_all (a : List Int) (ha : a.length * 8 ≤ 140737488351232) (k : Nat) (hk : a.length < k) : laws_eqIntS.f k a a = some true := by
  unfold laws_eqIntS.f
  rw [if_pos rfl]
  exact eq_tells a ha a.length k 0 (by omega) (by omega) (by omega) hk

theorem FnExactFirstDifference : laws_FnExactFirstDifference.Pure := by
  intro a b _ ha _ _ hb _
  refine ⟨2 * a.length + 2 + b.length, ?_⟩
  obtain ⟨r, hr⟩ := diff_tells a b ha a.length (2 * a.length + 2 + b.length) 0 (by omega) (by omega) (by omega) (by omega)
  unfold laws_FnExactFirstDifference.f spec_FirstDifference.f impl_FirstDifference.f
  simp only [copy_all a ha _ (show a.length < 2 * a.length + 2 + b.length by omega), copy_all b hb _ (show b.length < 2 * a.length + 2 + b.length by omega),
    eq_all a ha _ (show a.length < 2 * a.length + 2 + b.length by omega), eq_all b hb _ (show b.length < 2 * a.length + 2 + b.length by omega),
    Option.bind_some, (diff_same _).1, hr, if_true, ite_self]

end Go.Proofs.Ytgejpfogigecaaa.Pure
