/-
  No cell of these rows narrows 'for every input' (looked for: loops, veiled, ifaces, maps, wideKeys, modest, calm, conditions, laid).
  DERIVED. THE GIVEN ROWS OF THIS SEAT. 15 by the template 'for every input the law returns true; each argument reads behind the call as it read before'; 0 by the template 'total and deterministic' (their statements: YtgmiaokdnpaglaaTotals.lean).
  GIVEN WITH THE SEED: the statements are not yours to turn. If you find one false, say at which input.
  Laid BY PROGRAM, IN A SANDBOX (cutbox-rows.mjs): the forced cells as the released guide's own fill.sh prints them over the translation ceab2aa69a70232f… (all of the seat's roots in one cut). By AI agents, Wed Nov 11 2026. No macro, syntax, notation, axiom, sorry.
-/
import Derived.Test.YtgmiaokdnpaglaaChecked
import GoSem.Claim
import GoSem.ClaimJoined
import GoSem.ClaimMapViews
import Derived.JoinedTies
import Derived.KernelRfl
namespace Go.Proofs.Ytgmiaokdnpaglaa
/- THE CELL 'sum', in the pinned program and in every row, IS THE sha256 OF THE DUMP (.gsa) THAT YtgmiaokdnpaglaaProg.lean LOADS. Nothing in Lean hashes anything: it is a label: what it is worth is what the hold of that sum in a sandbox is worth. -/
noncomputable def Try.pinned : Pinned := { name := "ytgmiaokdnpaglaa", sum := "ceab2aa69a70232f488f21a2a561ff154f9f21cc6c579111392cb999915ed39f", checked := Try.checked }
namespace Rows
def none {H : Type} : Left H := { results := [], args := [] }

/-- 'laws.FnExactShiftTimes': WHATEVER THE INPUT: true; the input reads as it did. -/
def fnExactShiftTimesSpec : ChangeSpec := { name := "fnExactShiftTimes", fn := fun _ => fun
  | [d1, d2, d3, d4] => { results := [.lit (.bool true)], args := [d1, d2, d3, d4] }
  | _ => none }
def fnExactShiftTimesRow : OpenClaim := { program := "ytgmiaokdnpaglaa", sum := "ceab2aa69a70232f488f21a2a561ff154f9f21cc6c579111392cb999915ed39f", func := "loop.example/g00827/laws.FnExactShiftTimes", spec := "fnExactShiftTimes", apart := false }
def FnExactShiftTimesSaid : Prop := fnExactShiftTimesRow.holds Try.pinned (OpenSpec.ofChange fnExactShiftTimesSpec)

/-- ITS FALSE NEIGHBOUR: 'it returns false'. Refute it at one input. -/
def fnExactShiftTimesWrong : ChangeSpec := { name := "fnExactShiftTimes", fn := fun _ => fun
  | [d1, d2, d3, d4] => { results := [.lit (.bool false)], args := [d1, d2, d3, d4] }
  | _ => none }
def FnExactShiftTimesWrongFalsely : Prop := fnExactShiftTimesRow.holds Try.pinned (OpenSpec.ofChange fnExactShiftTimesWrong)

/-- 'laws.FnSkewed': WHATEVER THE INPUT: true; the input reads as it did. -/
def fnSkewedSpec : ChangeSpec := { name := "fnSkewed", fn := fun _ => fun
  | [d] => { results := [.lit (.bool true)], args := [d] }
  | _ => none }
def fnSkewedRow : OpenClaim := { program := "ytgmiaokdnpaglaa", sum := "ceab2aa69a70232f488f21a2a561ff154f9f21cc6c579111392cb999915ed39f", func := "loop.example/g00827/laws.FnSkewed", spec := "fnSkewed", unfollowed := true, recurses := true, apart := false }
def FnSkewedSaid : Prop := fnSkewedRow.holds Try.pinned (OpenSpec.ofChange fnSkewedSpec)

/-- ITS FALSE NEIGHBOUR: 'it returns false'. Refute it at one input. -/
def fnSkewedWrong : ChangeSpec := { name := "fnSkewed", fn := fun _ => fun
  | [d] => { results := [.lit (.bool false)], args := [d] }
  | _ => none }
def FnSkewedWrongFalsely : Prop := fnSkewedRow.holds Try.pinned (OpenSpec.ofChange fnSkewedWrong)

/-- 'laws.FnExactSameDesks': WHATEVER THE INPUT: true; the input reads as it did. -/
def fnExactSameDesksSpec : ChangeSpec := { name := "fnExactSameDesks", fn := fun _ => fun
  | [d1, d2] => { results := [.lit (.bool true)], args := [d1, d2] }
  | _ => none }
def fnExactSameDesksRow : OpenClaim := { program := "ytgmiaokdnpaglaa", sum := "ceab2aa69a70232f488f21a2a561ff154f9f21cc6c579111392cb999915ed39f", func := "loop.example/g00827/laws.FnExactSameDesks", spec := "fnExactSameDesks", unfollowed := true, recurses := true, apart := false }
def FnExactSameDesksSaid : Prop := fnExactSameDesksRow.holds Try.pinned (OpenSpec.ofChange fnExactSameDesksSpec)

/-- ITS FALSE NEIGHBOUR: 'it returns false'. Refute it at one input. -/
def fnExactSameDesksWrong : ChangeSpec := { name := "fnExactSameDesks", fn := fun _ => fun
  | [d1, d2] => { results := [.lit (.bool false)], args := [d1, d2] }
  | _ => none }
def FnExactSameDesksWrongFalsely : Prop := fnExactSameDesksRow.holds Try.pinned (OpenSpec.ofChange fnExactSameDesksWrong)

/-- 'laws.FnExactMarginOf': WHATEVER THE INPUT: true; the input reads as it did. -/
def fnExactMarginOfSpec : ChangeSpec := { name := "fnExactMarginOf", fn := fun _ => fun
  | [d1, d2, d3] => { results := [.lit (.bool true)], args := [d1, d2, d3] }
  | _ => none }
def fnExactMarginOfRow : OpenClaim := { program := "ytgmiaokdnpaglaa", sum := "ceab2aa69a70232f488f21a2a561ff154f9f21cc6c579111392cb999915ed39f", func := "loop.example/g00827/laws.FnExactMarginOf", spec := "fnExactMarginOf", unfollowed := true, recurses := true, apart := false }
def FnExactMarginOfSaid : Prop := fnExactMarginOfRow.holds Try.pinned (OpenSpec.ofChange fnExactMarginOfSpec)

/-- ITS FALSE NEIGHBOUR: 'it returns false'. Refute it at one input. -/
def fnExactMarginOfWrong : ChangeSpec := { name := "fnExactMarginOf", fn := fun _ => fun
  | [d1, d2, d3] => { results := [.lit (.bool false)], args := [d1, d2, d3] }
  | _ => none }
def FnExactMarginOfWrongFalsely : Prop := fnExactMarginOfRow.holds Try.pinned (OpenSpec.ofChange fnExactMarginOfWrong)

/-- 'laws.FnExactTimeLine': WHATEVER THE INPUT: true; the input reads as it did. -/
def fnExactTimeLineSpec : ChangeSpec := { name := "fnExactTimeLine", fn := fun _ => fun
  | [d1, d2, d3] => { results := [.lit (.bool true)], args := [d1, d2, d3] }
  | _ => none }
def fnExactTimeLineRow : OpenClaim := { program := "ytgmiaokdnpaglaa", sum := "ceab2aa69a70232f488f21a2a561ff154f9f21cc6c579111392cb999915ed39f", func := "loop.example/g00827/laws.FnExactTimeLine", spec := "fnExactTimeLine", unfollowed := true, recurses := true, apart := false }
def FnExactTimeLineSaid : Prop := fnExactTimeLineRow.holds Try.pinned (OpenSpec.ofChange fnExactTimeLineSpec)

/-- ITS FALSE NEIGHBOUR: 'it returns false'. Refute it at one input. -/
def fnExactTimeLineWrong : ChangeSpec := { name := "fnExactTimeLine", fn := fun _ => fun
  | [d1, d2, d3] => { results := [.lit (.bool false)], args := [d1, d2, d3] }
  | _ => none }
def FnExactTimeLineWrongFalsely : Prop := fnExactTimeLineRow.holds Try.pinned (OpenSpec.ofChange fnExactTimeLineWrong)

/-- 'laws.FnExactTakesOk': WHATEVER THE INPUT: true; the input reads as it did. -/
def fnExactTakesOkSpec : ChangeSpec := { name := "fnExactTakesOk", fn := fun _ => fun
  | [d1, d2] => { results := [.lit (.bool true)], args := [d1, d2] }
  | _ => none }
def fnExactTakesOkRow : OpenClaim := { program := "ytgmiaokdnpaglaa", sum := "ceab2aa69a70232f488f21a2a561ff154f9f21cc6c579111392cb999915ed39f", func := "loop.example/g00827/laws.FnExactTakesOk", spec := "fnExactTakesOk", unfollowed := true, recurses := true, apart := false }
def FnExactTakesOkSaid : Prop := fnExactTakesOkRow.holds Try.pinned (OpenSpec.ofChange fnExactTakesOkSpec)

/-- ITS FALSE NEIGHBOUR: 'it returns false'. Refute it at one input. -/
def fnExactTakesOkWrong : ChangeSpec := { name := "fnExactTakesOk", fn := fun _ => fun
  | [d1, d2] => { results := [.lit (.bool false)], args := [d1, d2] }
  | _ => none }
def FnExactTakesOkWrongFalsely : Prop := fnExactTakesOkRow.holds Try.pinned (OpenSpec.ofChange fnExactTakesOkWrong)

/-- 'laws.FnExactKeepsAssumptions': WHATEVER THE INPUT: true; the input reads as it did. -/
def fnExactKeepsAssumptionsSpec : ChangeSpec := { name := "fnExactKeepsAssumptions", fn := fun _ => fun
  | [d1, d2] => { results := [.lit (.bool true)], args := [d1, d2] }
  | _ => none }
def fnExactKeepsAssumptionsRow : OpenClaim := { program := "ytgmiaokdnpaglaa", sum := "ceab2aa69a70232f488f21a2a561ff154f9f21cc6c579111392cb999915ed39f", func := "loop.example/g00827/laws.FnExactKeepsAssumptions", spec := "fnExactKeepsAssumptions", unfollowed := true, recurses := true, apart := false }
def FnExactKeepsAssumptionsSaid : Prop := fnExactKeepsAssumptionsRow.holds Try.pinned (OpenSpec.ofChange fnExactKeepsAssumptionsSpec)

/-- ITS FALSE NEIGHBOUR: 'it returns false'. Refute it at one input. -/
def fnExactKeepsAssumptionsWrong : ChangeSpec := { name := "fnExactKeepsAssumptions", fn := fun _ => fun
  | [d1, d2] => { results := [.lit (.bool false)], args := [d1, d2] }
  | _ => none }
def FnExactKeepsAssumptionsWrongFalsely : Prop := fnExactKeepsAssumptionsRow.holds Try.pinned (OpenSpec.ofChange fnExactKeepsAssumptionsWrong)

/-- 'laws.FnExactBrokenTies': WHATEVER THE INPUT: true; the input reads as it did. -/
def fnExactBrokenTiesSpec : ChangeSpec := { name := "fnExactBrokenTies", fn := fun _ => fun
  | [d1, d2] => { results := [.lit (.bool true)], args := [d1, d2] }
  | _ => none }
def fnExactBrokenTiesRow : OpenClaim := { program := "ytgmiaokdnpaglaa", sum := "ceab2aa69a70232f488f21a2a561ff154f9f21cc6c579111392cb999915ed39f", func := "loop.example/g00827/laws.FnExactBrokenTies", spec := "fnExactBrokenTies", unfollowed := true, recurses := true, apart := false }
def FnExactBrokenTiesSaid : Prop := fnExactBrokenTiesRow.holds Try.pinned (OpenSpec.ofChange fnExactBrokenTiesSpec)

/-- ITS FALSE NEIGHBOUR: 'it returns false'. Refute it at one input. -/
def fnExactBrokenTiesWrong : ChangeSpec := { name := "fnExactBrokenTies", fn := fun _ => fun
  | [d1, d2] => { results := [.lit (.bool false)], args := [d1, d2] }
  | _ => none }
def FnExactBrokenTiesWrongFalsely : Prop := fnExactBrokenTiesRow.holds Try.pinned (OpenSpec.ofChange fnExactBrokenTiesWrong)

/-- 'laws.FnExactObservedRange': WHATEVER THE INPUT: true; the input reads as it did. -/
def fnExactObservedRangeSpec : ChangeSpec := { name := "fnExactObservedRange", fn := fun _ => fun
  | [d1, d2, d3] => { results := [.lit (.bool true)], args := [d1, d2, d3] }
  | _ => none }
def fnExactObservedRangeRow : OpenClaim := { program := "ytgmiaokdnpaglaa", sum := "ceab2aa69a70232f488f21a2a561ff154f9f21cc6c579111392cb999915ed39f", func := "loop.example/g00827/laws.FnExactObservedRange", spec := "fnExactObservedRange", unfollowed := true, recurses := true, apart := false }
def FnExactObservedRangeSaid : Prop := fnExactObservedRangeRow.holds Try.pinned (OpenSpec.ofChange fnExactObservedRangeSpec)

/-- ITS FALSE NEIGHBOUR: 'it returns false'. Refute it at one input. -/
def fnExactObservedRangeWrong : ChangeSpec := { name := "fnExactObservedRange", fn := fun _ => fun
  | [d1, d2, d3] => { results := [.lit (.bool false)], args := [d1, d2, d3] }
  | _ => none }
def FnExactObservedRangeWrongFalsely : Prop := fnExactObservedRangeRow.holds Try.pinned (OpenSpec.ofChange fnExactObservedRangeWrong)

/-- 'laws.FnExactNewConsole': WHATEVER THE INPUT: true; the input reads as it did. -/
def fnExactNewConsoleSpec : ChangeSpec := { name := "fnExactNewConsole", fn := fun _ => fun
  | [] => { results := [.lit (.bool true)], args := [] }
  | _ => none }
def fnExactNewConsoleRow : OpenClaim := { program := "ytgmiaokdnpaglaa", sum := "ceab2aa69a70232f488f21a2a561ff154f9f21cc6c579111392cb999915ed39f", func := "loop.example/g00827/laws.FnExactNewConsole", spec := "fnExactNewConsole", apart := false }
def FnExactNewConsoleSaid : Prop := fnExactNewConsoleRow.holds Try.pinned (OpenSpec.ofChange fnExactNewConsoleSpec)

/-- ITS FALSE NEIGHBOUR: 'it returns false'. Refute it at one input. -/
def fnExactNewConsoleWrong : ChangeSpec := { name := "fnExactNewConsole", fn := fun _ => fun
  | [] => { results := [.lit (.bool false)], args := [] }
  | _ => none }
def FnExactNewConsoleWrongFalsely : Prop := fnExactNewConsoleRow.holds Try.pinned (OpenSpec.ofChange fnExactNewConsoleWrong)

/-- 'laws.FnExactSkewShow': WHATEVER THE INPUT: true; the input reads as it did. -/
def fnExactSkewShowSpec : ChangeSpec := { name := "fnExactSkewShow", fn := fun _ => fun
  | [d1, d2, d3] => { results := [.lit (.bool true)], args := [d1, d2, d3] }
  | _ => none }
def fnExactSkewShowRow : OpenClaim := { program := "ytgmiaokdnpaglaa", sum := "ceab2aa69a70232f488f21a2a561ff154f9f21cc6c579111392cb999915ed39f", func := "loop.example/g00827/laws.FnExactSkewShow", spec := "fnExactSkewShow", unfollowed := true, recurses := true, apart := false }
def FnExactSkewShowSaid : Prop := fnExactSkewShowRow.holds Try.pinned (OpenSpec.ofChange fnExactSkewShowSpec)

/-- ITS FALSE NEIGHBOUR: 'it returns false'. Refute it at one input. -/
def fnExactSkewShowWrong : ChangeSpec := { name := "fnExactSkewShow", fn := fun _ => fun
  | [d1, d2, d3] => { results := [.lit (.bool false)], args := [d1, d2, d3] }
  | _ => none }
def FnExactSkewShowWrongFalsely : Prop := fnExactSkewShowRow.holds Try.pinned (OpenSpec.ofChange fnExactSkewShowWrong)

/-- 'laws.FnExactTakesOf': WHATEVER THE INPUT: true; the input reads as it did. -/
def fnExactTakesOfSpec : ChangeSpec := { name := "fnExactTakesOf", fn := fun _ => fun
  | [d1, d2] => { results := [.lit (.bool true)], args := [d1, d2] }
  | _ => none }
def fnExactTakesOfRow : OpenClaim := { program := "ytgmiaokdnpaglaa", sum := "ceab2aa69a70232f488f21a2a561ff154f9f21cc6c579111392cb999915ed39f", func := "loop.example/g00827/laws.FnExactTakesOf", spec := "fnExactTakesOf", unfollowed := true, recurses := true, apart := false }
def FnExactTakesOfSaid : Prop := fnExactTakesOfRow.holds Try.pinned (OpenSpec.ofChange fnExactTakesOfSpec)

/-- ITS FALSE NEIGHBOUR: 'it returns false'. Refute it at one input. -/
def fnExactTakesOfWrong : ChangeSpec := { name := "fnExactTakesOf", fn := fun _ => fun
  | [d1, d2] => { results := [.lit (.bool false)], args := [d1, d2] }
  | _ => none }
def FnExactTakesOfWrongFalsely : Prop := fnExactTakesOfRow.holds Try.pinned (OpenSpec.ofChange fnExactTakesOfWrong)

/-- 'laws.FnExactTightenShow': WHATEVER THE INPUT: true; the input reads as it did. -/
def fnExactTightenShowSpec : ChangeSpec := { name := "fnExactTightenShow", fn := fun _ => fun
  | [d1, d2, d3] => { results := [.lit (.bool true)], args := [d1, d2, d3] }
  | _ => none }
def fnExactTightenShowRow : OpenClaim := { program := "ytgmiaokdnpaglaa", sum := "ceab2aa69a70232f488f21a2a561ff154f9f21cc6c579111392cb999915ed39f", func := "loop.example/g00827/laws.FnExactTightenShow", spec := "fnExactTightenShow", unfollowed := true, recurses := true, apart := false }
def FnExactTightenShowSaid : Prop := fnExactTightenShowRow.holds Try.pinned (OpenSpec.ofChange fnExactTightenShowSpec)

/-- ITS FALSE NEIGHBOUR: 'it returns false'. Refute it at one input. -/
def fnExactTightenShowWrong : ChangeSpec := { name := "fnExactTightenShow", fn := fun _ => fun
  | [d1, d2, d3] => { results := [.lit (.bool false)], args := [d1, d2, d3] }
  | _ => none }
def FnExactTightenShowWrongFalsely : Prop := fnExactTightenShowRow.holds Try.pinned (OpenSpec.ofChange fnExactTightenShowWrong)

/-- 'laws.FnExactEndingFor': WHATEVER THE INPUT: true; the input reads as it did. -/
def fnExactEndingForSpec : ChangeSpec := { name := "fnExactEndingFor", fn := fun _ => fun
  | [d1, d2, d3] => { results := [.lit (.bool true)], args := [d1, d2, d3] }
  | _ => none }
def fnExactEndingForRow : OpenClaim := { program := "ytgmiaokdnpaglaa", sum := "ceab2aa69a70232f488f21a2a561ff154f9f21cc6c579111392cb999915ed39f", func := "loop.example/g00827/laws.FnExactEndingFor", spec := "fnExactEndingFor", unfollowed := true, recurses := true, apart := false }
def FnExactEndingForSaid : Prop := fnExactEndingForRow.holds Try.pinned (OpenSpec.ofChange fnExactEndingForSpec)

/-- ITS FALSE NEIGHBOUR: 'it returns false'. Refute it at one input. -/
def fnExactEndingForWrong : ChangeSpec := { name := "fnExactEndingFor", fn := fun _ => fun
  | [d1, d2, d3] => { results := [.lit (.bool false)], args := [d1, d2, d3] }
  | _ => none }
def FnExactEndingForWrongFalsely : Prop := fnExactEndingForRow.holds Try.pinned (OpenSpec.ofChange fnExactEndingForWrong)

/-- 'laws.FnExactNewDesk': WHATEVER THE INPUT: true; the input reads as it did. -/
def fnExactNewDeskSpec : ChangeSpec := { name := "fnExactNewDesk", fn := fun _ => fun
  | [d1, d2] => { results := [.lit (.bool true)], args := [d1, d2] }
  | _ => none }
def fnExactNewDeskRow : OpenClaim := { program := "ytgmiaokdnpaglaa", sum := "ceab2aa69a70232f488f21a2a561ff154f9f21cc6c579111392cb999915ed39f", func := "loop.example/g00827/laws.FnExactNewDesk", spec := "fnExactNewDesk", unfollowed := true, recurses := true, apart := false }
def FnExactNewDeskSaid : Prop := fnExactNewDeskRow.holds Try.pinned (OpenSpec.ofChange fnExactNewDeskSpec)

/-- ITS FALSE NEIGHBOUR: 'it returns false'. Refute it at one input. -/
def fnExactNewDeskWrong : ChangeSpec := { name := "fnExactNewDesk", fn := fun _ => fun
  | [d1, d2] => { results := [.lit (.bool false)], args := [d1, d2] }
  | _ => none }
def FnExactNewDeskWrongFalsely : Prop := fnExactNewDeskRow.holds Try.pinned (OpenSpec.ofChange fnExactNewDeskWrong)

/- THE SECOND FORM. 'bulk': how many values and letters a reading holds, each counted each time it is reached (what is shared counts as often as it is met; a slice's spare places count too). A statement '..UptoSaid' is the law's where the arguments, and the package variables that the reading takes, are together of bulk at most 1048576: NARROWER than '..Said'. Prove '..Said' where nothing that the law and all that it calls make is longer than what came in: it says more and counts as full. Else prove '..UptoSaid'. A law counts once. -/
mutual
def uptoBulk {H : Type} : DataW H → Nat
  | .lit (.string bytes) => bytes.length + 1
  | .lit _ => 1
  | .nil => 1
  | .ptr d => uptoBulk d + 1
  | .slice elems spare => uptoBulkAll elems + uptoBulkAll spare + 1
  | .agg parts => uptoBulkAll parts + 1
  | .iface _ d => uptoBulk d + 1
  | .map entries => uptoBulkEntries entries + 1
  | .held _ => 1
def uptoBulkAll {H : Type} : List (DataW H) → Nat
  | [] => 0
  | d :: r => uptoBulk d + uptoBulkAll r
def uptoBulkEntries {H : Type} : List (Lit × DataW H) → Nat
  | [] => 0
  | x :: r => uptoBulkEntry x + uptoBulkEntries r
def uptoBulkEntry {H : Type} : Lit × DataW H → Nat
  | (.string bytes, d) => bytes.length + uptoBulk d + 1
  | (_, d) => uptoBulk d + 1
 end
def uptoSmall : (H : Type) → List (DataW H) → Bool := fun _ ds => decide (uptoBulkAll ds ≤ 1048576)
def OpenSpec.upto (s : _root_.Go.ChangeSpec) : _root_.Go.OpenSpec := { _root_.Go.OpenSpec.ofChange s with cond := some uptoSmall }

/-- 'laws.FnExactShiftTimes', WHERE WHAT IT READS IS OF BULK AT MOST 1048576: true; the input reads as it did. -/
def fnExactShiftTimesUptoRow : OpenClaim := { program := "ytgmiaokdnpaglaa", sum := "ceab2aa69a70232f488f21a2a561ff154f9f21cc6c579111392cb999915ed39f", func := "loop.example/g00827/laws.FnExactShiftTimes", spec := "fnExactShiftTimes", apart := false, narrowed := true }
def FnExactShiftTimesUptoSaid : Prop := fnExactShiftTimesUptoRow.holds Try.pinned (OpenSpec.upto fnExactShiftTimesSpec)

/-- 'laws.FnSkewed', WHERE WHAT IT READS IS OF BULK AT MOST 1048576: true; the input reads as it did. -/
def fnSkewedUptoRow : OpenClaim := { program := "ytgmiaokdnpaglaa", sum := "ceab2aa69a70232f488f21a2a561ff154f9f21cc6c579111392cb999915ed39f", func := "loop.example/g00827/laws.FnSkewed", spec := "fnSkewed", unfollowed := true, recurses := true, apart := false, narrowed := true }
def FnSkewedUptoSaid : Prop := fnSkewedUptoRow.holds Try.pinned (OpenSpec.upto fnSkewedSpec)

/-- 'laws.FnExactSameDesks', WHERE WHAT IT READS IS OF BULK AT MOST 1048576: true; the input reads as it did. -/
def fnExactSameDesksUptoRow : OpenClaim := { program := "ytgmiaokdnpaglaa", sum := "ceab2aa69a70232f488f21a2a561ff154f9f21cc6c579111392cb999915ed39f", func := "loop.example/g00827/laws.FnExactSameDesks", spec := "fnExactSameDesks", unfollowed := true, recurses := true, apart := false, narrowed := true }
def FnExactSameDesksUptoSaid : Prop := fnExactSameDesksUptoRow.holds Try.pinned (OpenSpec.upto fnExactSameDesksSpec)

/-- 'laws.FnExactMarginOf', WHERE WHAT IT READS IS OF BULK AT MOST 1048576: true; the input reads as it did. -/
def fnExactMarginOfUptoRow : OpenClaim := { program := "ytgmiaokdnpaglaa", sum := "ceab2aa69a70232f488f21a2a561ff154f9f21cc6c579111392cb999915ed39f", func := "loop.example/g00827/laws.FnExactMarginOf", spec := "fnExactMarginOf", unfollowed := true, recurses := true, apart := false, narrowed := true }
def FnExactMarginOfUptoSaid : Prop := fnExactMarginOfUptoRow.holds Try.pinned (OpenSpec.upto fnExactMarginOfSpec)

/-- 'laws.FnExactTimeLine', WHERE WHAT IT READS IS OF BULK AT MOST 1048576: true; the input reads as it did. -/
def fnExactTimeLineUptoRow : OpenClaim := { program := "ytgmiaokdnpaglaa", sum := "ceab2aa69a70232f488f21a2a561ff154f9f21cc6c579111392cb999915ed39f", func := "loop.example/g00827/laws.FnExactTimeLine", spec := "fnExactTimeLine", unfollowed := true, recurses := true, apart := false, narrowed := true }
def FnExactTimeLineUptoSaid : Prop := fnExactTimeLineUptoRow.holds Try.pinned (OpenSpec.upto fnExactTimeLineSpec)

/-- 'laws.FnExactTakesOk', WHERE WHAT IT READS IS OF BULK AT MOST 1048576: true; the input reads as it did. -/
def fnExactTakesOkUptoRow : OpenClaim := { program := "ytgmiaokdnpaglaa", sum := "ceab2aa69a70232f488f21a2a561ff154f9f21cc6c579111392cb999915ed39f", func := "loop.example/g00827/laws.FnExactTakesOk", spec := "fnExactTakesOk", unfollowed := true, recurses := true, apart := false, narrowed := true }
def FnExactTakesOkUptoSaid : Prop := fnExactTakesOkUptoRow.holds Try.pinned (OpenSpec.upto fnExactTakesOkSpec)

/-- 'laws.FnExactKeepsAssumptions', WHERE WHAT IT READS IS OF BULK AT MOST 1048576: true; the input reads as it did. -/
def fnExactKeepsAssumptionsUptoRow : OpenClaim := { program := "ytgmiaokdnpaglaa", sum := "ceab2aa69a70232f488f21a2a561ff154f9f21cc6c579111392cb999915ed39f", func := "loop.example/g00827/laws.FnExactKeepsAssumptions", spec := "fnExactKeepsAssumptions", unfollowed := true, recurses := true, apart := false, narrowed := true }
def FnExactKeepsAssumptionsUptoSaid : Prop := fnExactKeepsAssumptionsUptoRow.holds Try.pinned (OpenSpec.upto fnExactKeepsAssumptionsSpec)

/-- 'laws.FnExactBrokenTies', WHERE WHAT IT READS IS OF BULK AT MOST 1048576: true; the input reads as it did. -/
def fnExactBrokenTiesUptoRow : OpenClaim := { program := "ytgmiaokdnpaglaa", sum := "ceab2aa69a70232f488f21a2a561ff154f9f21cc6c579111392cb999915ed39f", func := "loop.example/g00827/laws.FnExactBrokenTies", spec := "fnExactBrokenTies", unfollowed := true, recurses := true, apart := false, narrowed := true }
def FnExactBrokenTiesUptoSaid : Prop := fnExactBrokenTiesUptoRow.holds Try.pinned (OpenSpec.upto fnExactBrokenTiesSpec)

/-- 'laws.FnExactObservedRange', WHERE WHAT IT READS IS OF BULK AT MOST 1048576: true; the input reads as it did. -/
def fnExactObservedRangeUptoRow : OpenClaim := { program := "ytgmiaokdnpaglaa", sum := "ceab2aa69a70232f488f21a2a561ff154f9f21cc6c579111392cb999915ed39f", func := "loop.example/g00827/laws.FnExactObservedRange", spec := "fnExactObservedRange", unfollowed := true, recurses := true, apart := false, narrowed := true }
def FnExactObservedRangeUptoSaid : Prop := fnExactObservedRangeUptoRow.holds Try.pinned (OpenSpec.upto fnExactObservedRangeSpec)

/-- 'laws.FnExactNewConsole', WHERE WHAT IT READS IS OF BULK AT MOST 1048576: true; the input reads as it did. -/
def fnExactNewConsoleUptoRow : OpenClaim := { program := "ytgmiaokdnpaglaa", sum := "ceab2aa69a70232f488f21a2a561ff154f9f21cc6c579111392cb999915ed39f", func := "loop.example/g00827/laws.FnExactNewConsole", spec := "fnExactNewConsole", apart := false, narrowed := true }
def FnExactNewConsoleUptoSaid : Prop := fnExactNewConsoleUptoRow.holds Try.pinned (OpenSpec.upto fnExactNewConsoleSpec)

/-- 'laws.FnExactSkewShow', WHERE WHAT IT READS IS OF BULK AT MOST 1048576: true; the input reads as it did. -/
def fnExactSkewShowUptoRow : OpenClaim := { program := "ytgmiaokdnpaglaa", sum := "ceab2aa69a70232f488f21a2a561ff154f9f21cc6c579111392cb999915ed39f", func := "loop.example/g00827/laws.FnExactSkewShow", spec := "fnExactSkewShow", unfollowed := true, recurses := true, apart := false, narrowed := true }
def FnExactSkewShowUptoSaid : Prop := fnExactSkewShowUptoRow.holds Try.pinned (OpenSpec.upto fnExactSkewShowSpec)

/-- 'laws.FnExactTakesOf', WHERE WHAT IT READS IS OF BULK AT MOST 1048576: true; the input reads as it did. -/
def fnExactTakesOfUptoRow : OpenClaim := { program := "ytgmiaokdnpaglaa", sum := "ceab2aa69a70232f488f21a2a561ff154f9f21cc6c579111392cb999915ed39f", func := "loop.example/g00827/laws.FnExactTakesOf", spec := "fnExactTakesOf", unfollowed := true, recurses := true, apart := false, narrowed := true }
def FnExactTakesOfUptoSaid : Prop := fnExactTakesOfUptoRow.holds Try.pinned (OpenSpec.upto fnExactTakesOfSpec)

/-- 'laws.FnExactTightenShow', WHERE WHAT IT READS IS OF BULK AT MOST 1048576: true; the input reads as it did. -/
def fnExactTightenShowUptoRow : OpenClaim := { program := "ytgmiaokdnpaglaa", sum := "ceab2aa69a70232f488f21a2a561ff154f9f21cc6c579111392cb999915ed39f", func := "loop.example/g00827/laws.FnExactTightenShow", spec := "fnExactTightenShow", unfollowed := true, recurses := true, apart := false, narrowed := true }
def FnExactTightenShowUptoSaid : Prop := fnExactTightenShowUptoRow.holds Try.pinned (OpenSpec.upto fnExactTightenShowSpec)

/-- 'laws.FnExactEndingFor', WHERE WHAT IT READS IS OF BULK AT MOST 1048576: true; the input reads as it did. -/
def fnExactEndingForUptoRow : OpenClaim := { program := "ytgmiaokdnpaglaa", sum := "ceab2aa69a70232f488f21a2a561ff154f9f21cc6c579111392cb999915ed39f", func := "loop.example/g00827/laws.FnExactEndingFor", spec := "fnExactEndingFor", unfollowed := true, recurses := true, apart := false, narrowed := true }
def FnExactEndingForUptoSaid : Prop := fnExactEndingForUptoRow.holds Try.pinned (OpenSpec.upto fnExactEndingForSpec)

/-- 'laws.FnExactNewDesk', WHERE WHAT IT READS IS OF BULK AT MOST 1048576: true; the input reads as it did. -/
def fnExactNewDeskUptoRow : OpenClaim := { program := "ytgmiaokdnpaglaa", sum := "ceab2aa69a70232f488f21a2a561ff154f9f21cc6c579111392cb999915ed39f", func := "loop.example/g00827/laws.FnExactNewDesk", spec := "fnExactNewDesk", unfollowed := true, recurses := true, apart := false, narrowed := true }
def FnExactNewDeskUptoSaid : Prop := fnExactNewDeskUptoRow.holds Try.pinned (OpenSpec.upto fnExactNewDeskSpec)

end Rows
end Go.Proofs.Ytgmiaokdnpaglaa
