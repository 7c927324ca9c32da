/- From trees that fit to takes and states. Own work. -/
import Derived.Test.YtgmiaokdnpaglaaYP10
set_option linter.all false
set_option linter.unusedVariables false
set_option maxRecDepth 100000
namespace Go.Proofs.YtgmiaokdnpaglaaY
open Go
theorem fit_take (r : List AV) (h : FitL [.int .i64, .int .i64] r) : ∃ x, r = GTake.enc x ∧ True := by
  obtain ⟨a1, r, rfl, h1, h⟩ := fitL_cons h
  obtain ⟨a2, r, rfl, h2, h⟩ := fitL_cons h
  obtain rfl := fitL_nil h
  obtain ⟨n1, rfl⟩ := fit_int h1
  obtain ⟨n2, rfl⟩ := fit_int h2
  exact ⟨⟨n1, n2⟩, rfl, trivial⟩
def shState : List Sh := [.int .i64, .sl [.int .i64], .sl [.int .i64]]
structure BdX (x : GState) : Prop where
  times : x.times.length ≤ maxLen
  values : x.values.length ≤ maxLen
theorem fit_state (r : List AV) (h : FitL shState r) : ∃ x, r = GState.encS x ∧ BdX x := by
  obtain ⟨a1, r, rfl, h1, h⟩ := fitL_cons h
  obtain ⟨a2, r, rfl, h2, h⟩ := fitL_cons h
  obtain ⟨a3, r, rfl, h3, h⟩ := fitL_cons h
  obtain rfl := fitL_nil h
  obtain ⟨n1, rfl⟩ := fit_int h1
  obtain ⟨n2, rfl, l2⟩ := fit_ints h2
  obtain ⟨n3, rfl, l3⟩ := fit_ints h3
  exact ⟨⟨n1, n2, n3⟩, rfl, ⟨l2, l3⟩⟩
end Go.Proofs.YtgmiaokdnpaglaaY
