/- For every text, the program's checksum of the text and the reference's are the same number. No condition beyond the form's own reach. -/
import Derived.Test.YtgejpfogigecaaaPFnExactSumOfTextx1
namespace Go.Proofs.Ytgejpfogigecaaa.Pure
open Go.RowKit Go.Proofs.Ytgejpfogigecaaa.PFnExactSumOfText Go.Proofs.YtgejpfogigecaaaW.PrintWords Go.Proofs.YtgejpfogigecaaaW.PrintLast

theorem sum_same (k : Nat) : ∀ (s : ByteArray) (h i : Int), impl_SumOfText.l0 k s h i = spec_SumOfText.l0 k s h i := by
  induction k with
  | zero => intro s h i; rfl
  | succ k ih => intro s h i; simp only [impl_SumOfText.l0, spec_SumOfText.l0, ih]

theorem sum_tells (s : ByteArray) (hn : s.size ≤ 140737488351232) (d : Nat) : ∀ (k : Nat) (h i : Int), 0 ≤ i → i ≤ s.size → (s.size : Int) - i = d → d < k →
    ∃ r, spec_SumOfText.l0 k s h i = some r := by
  induction d with
  | zero =>
    intro k h i h0 h1 hd hk
    obtain ⟨k, rfl⟩ : ∃ m, k = m + 1 := ⟨k - 1, by omega⟩
    exact ⟨h, by simp only [spec_SumOfText.l0]; rw [if_neg (by omega)]⟩
  | succ d ih =>
    intro k h i h0 h1 hd hk
    obtain ⟨k, rfl⟩ : ∃ m, k = m + 1 := ⟨k - 1, by omega⟩
    have hw : wrap64 (i + 1) = i + 1 := by unfold wrap64; omega
    obtain ⟨r, hr⟩ := ih k (Int.tmod (wrap64 ((wrap64 (31 * h)) + (wrap64 (bt s i)))) 65521) (i + 1) (by omega) (by omega) (by omega) (by omega)
    refine ⟨r, ?_⟩
    simp only [spec_SumOfText.l0]; rw [if_pos (by omega), if_pos h0, hw]; exact hr

theorem FnExactSumOfText : laws_FnExactSumOfText.Pure := by
  intro s hn
  obtain ⟨r, hr⟩ := sum_tells s hn s.size (s.size + 1) 7 0 (by omega) (by omega) (by omega) (by omega)
  refine ⟨s.size + 1, ?_⟩
  unfold laws_FnExactSumOfText.f impl_SumOfText.f spec_SumOfText.f
  rw [sum_same, hr]
  simp

end Go.Proofs.Ytgejpfogigecaaa.Pure
