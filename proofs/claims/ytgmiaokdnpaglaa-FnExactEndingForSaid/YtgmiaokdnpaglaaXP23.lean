/- From trees that fit to choices. Own work. -/
import Derived.Test.YtgmiaokdnpaglaaXP20
import Derived.Test.YtgmiaokdnpaglaaXP22
set_option linter.all false
set_option linter.unusedVariables false
set_option maxRecDepth 100000
namespace Go.Proofs.YtgmiaokdnpaglaaX
open Go
def shChoice : List Sh := [.sl [.int .i64], .sl [.int .i64]]
theorem fit_choice (r : List AV) (h : FitL shChoice r) : ∃ x, r = GChoice.encS x ∧ BdC x := by
  obtain ⟨a1, r, rfl, h1, h⟩ := fitL_cons h
  obtain ⟨a2, r, rfl, h2, h⟩ := fitL_cons h
  obtain rfl := fitL_nil h
  obtain ⟨n1, rfl, l1⟩ := fit_ints h1
  obtain ⟨n2, rfl, l2⟩ := fit_ints h2
  exact ⟨⟨n1, n2⟩, rfl, ⟨l1, l2⟩⟩
end Go.Proofs.YtgmiaokdnpaglaaX
