/- From trees that fit to the things they are. Own work. -/
import Derived.Test.YtgmiaokdnpaglaaY27
import Derived.Test.YtgmiaokdnpaglaaYP9
import Derived.Test.YtgmiaokdnpaglaaRows
set_option linter.all false
set_option linter.unusedVariables false
set_option maxRecDepth 100000
namespace Go.Proofs.YtgmiaokdnpaglaaY
open Go
theorem fitL_cons {s : Sh} {ss : List Sh} {aa : List AV} (h : FitL (s :: ss) aa) : ∃ a r, aa = a :: r ∧ Fit s a ∧ FitL ss r := by
  cases aa with
  | nil => simp [FitL] at h
  | cons a r => simp only [FitL] at h; exact ⟨a, r, rfl, h.1, h.2⟩
theorem fitL_nil {aa : List AV} (h : FitL [] aa) : aa = [] := by
  cases aa with
  | nil => rfl
  | cons a r => simp [FitL] at h
theorem fit_rows {α : Type} {e : α → List AV} {p : α → Prop} {cs : List Sh} (hx : ∀ r, FitL cs r → ∃ x, r = e x ∧ p x) : ∀ {rows : List (List AV)}, (∀ r, r ∈ rows → FitL cs r) → ∃ xs : List α, rows = rowsOf e xs ∧ ∀ x, x ∈ xs → p x
  | [], _ => ⟨[], rfl, by simp⟩
  | r :: rows, h => by
    obtain ⟨x, rfl, hp⟩ := hx r (h r (by simp))
    obtain ⟨xs, rfl, hps⟩ := fit_rows hx (rows := rows) (fun r hr => h r (by simp [hr]))
    refine ⟨x :: xs, rfl, fun y hy => ?_⟩
    rcases List.mem_cons.1 hy with rfl | hy
    · exact hp
    · exact hps y hy
theorem fit_sl {α : Type} {e : α → List AV} {p : α → Prop} {cs : List Sh} {av : AV} (hx : ∀ r, FitL cs r → ∃ x, r = e x ∧ p x) (h : Fit (.sl cs) av) : ∃ xs : List α, av = .sl (rowsOf e xs) ∧ xs.length ≤ maxLen ∧ ∀ x, x ∈ xs → p x := by
  simp only [Fit] at h
  obtain ⟨rows, rfl, hl, hr⟩ := h
  obtain ⟨xs, rfl, hp⟩ := fit_rows hx hr
  exact ⟨xs, rfl, by simpa [rowsOf] using hl, hp⟩
theorem fit_int {k : IntKind} {av : AV} (h : Fit (.int k) av) : ∃ n, av = .lit (.int k n) := by
  simp only [Fit] at h; obtain ⟨n, rfl, _⟩ := h; exact ⟨n, rfl⟩
theorem fit_bool {av : AV} (h : Fit .bool av) : ∃ b, av = .lit (.bool b) := by simpa only [Fit] using h
theorem fit_str {av : AV} (h : Fit .str av) : ∃ s : ByteArray, av = .lit (.string s) ∧ s.size ≤ maxLen := by simpa only [Fit] using h
theorem fit_eI (r : List AV) (h : FitL [.int .i64] r) : ∃ x, r = eI x ∧ True := by
  obtain ⟨a, r, rfl, ha, hr⟩ := fitL_cons h
  obtain rfl := fitL_nil hr
  obtain ⟨n, rfl⟩ := fit_int ha
  exact ⟨n, rfl, trivial⟩
theorem fit_ints {av : AV} (h : Fit (.sl [.int .i64]) av) : ∃ xs : List Int, av = .sl (rowsOf eI xs) ∧ xs.length ≤ maxLen := by
  obtain ⟨xs, h1, h2, _⟩ := fit_sl fit_eI h
  exact ⟨xs, h1, h2⟩
def shTie : List Sh := [.int .i64, .int .i64, .int .i64, .int .i64, .bool]
def shNode : List Sh := [.str, .sl [.int .i64], .int .i64]
def shShow : List Sh := [.sl shNode, .sl shTie, .int .i64]
theorem fit_tie (r : List AV) (h : FitL shTie r) : ∃ x, r = GTie.enc x ∧ True := by
  obtain ⟨a1, r, rfl, h1, h⟩ := fitL_cons h
  obtain ⟨a2, r, rfl, h2, h⟩ := fitL_cons h
  obtain ⟨a3, r, rfl, h3, h⟩ := fitL_cons h
  obtain ⟨a4, r, rfl, h4, h⟩ := fitL_cons h
  obtain ⟨a5, r, rfl, h5, h⟩ := fitL_cons h
  obtain rfl := fitL_nil h
  obtain ⟨n1, rfl⟩ := fit_int h1
  obtain ⟨n2, rfl⟩ := fit_int h2
  obtain ⟨n3, rfl⟩ := fit_int h3
  obtain ⟨n4, rfl⟩ := fit_int h4
  obtain ⟨n5, rfl⟩ := fit_bool h5
  exact ⟨⟨n1, n2, n3, n4, n5⟩, rfl, trivial⟩
theorem fit_node (r : List AV) (h : FitL shNode r) : ∃ x, r = GNode.encS x ∧ BdN x := by
  obtain ⟨a1, r, rfl, h1, h⟩ := fitL_cons h
  obtain ⟨a2, r, rfl, h2, h⟩ := fitL_cons h
  obtain ⟨a3, r, rfl, h3, h⟩ := fitL_cons h
  obtain rfl := fitL_nil h
  obtain ⟨n1, rfl, l1⟩ := fit_str h1
  obtain ⟨n2, rfl, l2⟩ := fit_ints h2
  obtain ⟨n3, rfl⟩ := fit_int h3
  exact ⟨⟨n1, n2, n3⟩, rfl, ⟨l1, l2⟩⟩
theorem fit_show (r : List AV) (h : FitL shShow r) : ∃ x, r = GShow.encS x ∧ BdS x := by
  obtain ⟨a1, r, rfl, h1, h⟩ := fitL_cons h
  obtain ⟨a2, r, rfl, h2, h⟩ := fitL_cons h
  obtain ⟨a3, r, rfl, h3, h⟩ := fitL_cons h
  obtain rfl := fitL_nil h
  obtain ⟨n1, rfl, l1, p1⟩ := fit_sl fit_node h1
  obtain ⟨n2, rfl, l2, _⟩ := fit_sl fit_tie h2
  obtain ⟨n3, rfl⟩ := fit_int h3
  exact ⟨⟨n1, n2, n3⟩, rfl, ⟨l1, l2, p1⟩⟩
theorem argsFit_cons {T : Nat → Ty} {t : Nat} {ts : List Nat} {aa : List AV} (h : ArgsFit T (t :: ts) aa) : ∃ a r, aa = a :: r ∧ ArgFit T t a ∧ ArgsFit T ts r := by
  cases aa with
  | nil => simp [ArgsFit] at h
  | cons a r => simp only [ArgsFit] at h; exact ⟨a, r, rfl, h.1, h.2⟩
theorem argsFit_nil {T : Nat → Ty} {aa : List AV} (h : ArgsFit T [] aa) : aa = [] := by
  cases aa with
  | nil => rfl
  | cons a r => simp [ArgsFit] at h
theorem argFit_struct {T : Nat → Ty} {t : Nat} {a : AV} {s : List Sh} {fs : List (Nat × Nat)} (h : ArgFit T t a) (hs : shapeOf T 20 t = some s) (hk : (T t).kind = .struct fs) : ∃ aa, a = .agg aa ∧ FitL s aa := by
  obtain ⟨s', h1, h2⟩ := h
  rw [hs] at h1
  cases h1
  simpa only [hk] using h2
theorem argFit_one {T : Nat → Ty} {t : Nat} {a : AV} {s : Sh} (h : ArgFit T t a) (hs : shapeOf T 20 t = some [s]) (hk : ∀ fs, (T t).kind ≠ .struct fs) : Fit s a := by
  obtain ⟨s', h1, h2⟩ := h
  rw [hs] at h1
  cases h1
  revert h2
  split
  · rename_i fs hf; exact absurd hf (hk fs)
  · intro h; simp only [FitL] at h; exact h.1
end Go.Proofs.YtgmiaokdnpaglaaY
