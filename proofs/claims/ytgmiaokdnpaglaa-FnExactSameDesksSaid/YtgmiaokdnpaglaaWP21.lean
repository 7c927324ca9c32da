/- From trees that fit to desks. Own work. -/
import Derived.Test.YtgmiaokdnpaglaaWP20
import Derived.Test.YtgmiaokdnpaglaaWP18
set_option linter.all false
set_option linter.unusedVariables false
set_option maxRecDepth 100000
namespace Go.Proofs.YtgmiaokdnpaglaaW
open Go
def shEntry : List Sh := [.int .i64, .sl [.int .i64], .sl [.int .i64], .sl [.int .i64]]
theorem fit_entry (r : List AV) (h : FitL shEntry r) : ∃ x, r = GEntry.encS x ∧ BdE x := by
  obtain ⟨a1, r, rfl, h1, h⟩ := fitL_cons h
  obtain ⟨a2, r, rfl, h2, h⟩ := fitL_cons h
  obtain ⟨a3, r, rfl, h3, h⟩ := fitL_cons h
  obtain ⟨a4, r, rfl, h4, h⟩ := fitL_cons h
  obtain rfl := fitL_nil h
  obtain ⟨n1, rfl⟩ := fit_int h1
  obtain ⟨n2, rfl, l2⟩ := fit_ints h2
  obtain ⟨n3, rfl, l3⟩ := fit_ints h3
  obtain ⟨n4, rfl, l4⟩ := fit_ints h4
  exact ⟨⟨n1, n2, n3, n4⟩, rfl, ⟨l2, l3, l4⟩⟩
def shDesk : List Sh := [.sl shNode, .sl shTie, .int .i64, .int .i64, .sl [.int .i64], .sl [.int .i64], .bool, .sl shEntry]
def encD (d : GDesk) : List AV := [.sl (rowsOf GNode.encS d.show_.nodes), .sl (rowsOf GTie.enc d.show_.ties), .lit (.int .i64 d.show_.horizon), .lit (.int .i64 d.state.now), .sl (rowsOf eI d.state.times), .sl (rowsOf eI d.state.values), .lit (.bool d.lazy), .sl (rowsOf GEntry.encS d.log)]
theorem fit_desk (r : List AV) (h : FitL shDesk r) : ∃ x, r = encD x ∧ BdD x := by
  obtain ⟨a1, r, rfl, h1, h⟩ := fitL_cons h
  obtain ⟨a2, r, rfl, h2, h⟩ := fitL_cons h
  obtain ⟨a3, r, rfl, h3, h⟩ := fitL_cons h
  obtain ⟨a4, r, rfl, h4, h⟩ := fitL_cons h
  obtain ⟨a5, r, rfl, h5, h⟩ := fitL_cons h
  obtain ⟨a6, r, rfl, h6, h⟩ := fitL_cons h
  obtain ⟨a7, r, rfl, h7, h⟩ := fitL_cons h
  obtain ⟨a8, r, rfl, h8, h⟩ := fitL_cons h
  obtain rfl := fitL_nil h
  obtain ⟨n1, rfl, l1, p1⟩ := fit_sl fit_node h1
  obtain ⟨n2, rfl, l2, _⟩ := fit_sl fit_tie h2
  obtain ⟨n3, rfl⟩ := fit_int h3
  obtain ⟨n4, rfl⟩ := fit_int h4
  obtain ⟨n5, rfl, l5⟩ := fit_ints h5
  obtain ⟨n6, rfl, l6⟩ := fit_ints h6
  obtain ⟨n7, rfl⟩ := fit_bool h7
  obtain ⟨n8, rfl, l8, p8⟩ := fit_sl fit_entry h8
  exact ⟨⟨⟨n1, n2, n3⟩, ⟨n4, n5, n6⟩, n7, n8⟩, rfl, ⟨⟨l1, l2, p1⟩, ⟨l5, l6⟩, l8, p8⟩⟩
end Go.Proofs.YtgmiaokdnpaglaaW
