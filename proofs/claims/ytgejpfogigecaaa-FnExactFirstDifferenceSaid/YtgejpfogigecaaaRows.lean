/-
  No cell of these rows narrows 'for every input' (looked for: loops, veiled, ifaces, maps, wideKeys, modest, calm, conditions, laid).
  DERIVED. THE GIVEN ROWS OF THIS SEAT. 5 by the template 'for every input the law returns true; each argument reads behind the call as it read before'; 0 by the template 'total and deterministic' (their statements: YtgejpfogigecaaaTotals.lean).
  GIVEN WITH THE SEED: the statements are not yours to turn. If you find one false, say at which input.
  Laid BY PROGRAM, IN A SANDBOX (cutbox-rows.mjs): the forced cells as the released guide's own fill.sh prints them over the translation 91bac3672dfb8a7b… (all of the seat's roots in one cut). By AI agents, Wed Nov 11 2026. No macro, syntax, notation, axiom, sorry.
-/
import Derived.Test.YtgejpfogigecaaaChecked
import GoSem.Claim
import GoSem.ClaimJoined
import GoSem.ClaimMapViews
import Derived.JoinedTies
import Derived.KernelRfl
namespace Go.Proofs.Ytgejpfogigecaaa
/- THE CELL 'sum', in the pinned program and in every row, IS THE sha256 OF THE DUMP (.gsa) THAT YtgejpfogigecaaaProg.lean LOADS. Nothing in Lean hashes anything: it is a label: what it is worth is what the hold of that sum in a sandbox is worth. -/
noncomputable def Try.pinned : Pinned := { name := "ytgejpfogigecaaa", sum := "91bac3672dfb8a7b3bac623914b273acd42ff11b09db0dbfa79388c5c23fd365", checked := Try.checked }
namespace Rows
def none {H : Type} : Left H := { results := [], args := [] }

/-- 'laws.FnExactSumOfText': WHATEVER THE INPUT: true; the input reads as it did. -/
def fnExactSumOfTextSpec : ChangeSpec := { name := "fnExactSumOfText", fn := fun _ => fun
  | [d] => { results := [.lit (.bool true)], args := [d] }
  | _ => none }
def fnExactSumOfTextRow : OpenClaim := { program := "ytgejpfogigecaaa", sum := "91bac3672dfb8a7b3bac623914b273acd42ff11b09db0dbfa79388c5c23fd365", func := "loop.example/g00827/laws.FnExactSumOfText", spec := "fnExactSumOfText", apart := false }
def FnExactSumOfTextSaid : Prop := fnExactSumOfTextRow.holds Try.pinned (OpenSpec.ofChange fnExactSumOfTextSpec)

/-- ITS FALSE NEIGHBOUR: 'it returns false'. Refute it at one input. -/
def fnExactSumOfTextWrong : ChangeSpec := { name := "fnExactSumOfText", fn := fun _ => fun
  | [d] => { results := [.lit (.bool false)], args := [d] }
  | _ => none }
def FnExactSumOfTextWrongFalsely : Prop := fnExactSumOfTextRow.holds Try.pinned (OpenSpec.ofChange fnExactSumOfTextWrong)

/-- 'laws.FnExactFirstDifference': WHATEVER THE INPUT: true; the input reads as it did. -/
def fnExactFirstDifferenceSpec : ChangeSpec := { name := "fnExactFirstDifference", fn := fun _ => fun
  | [d1, d2] => { results := [.lit (.bool true)], args := [d1, d2] }
  | _ => none }
def fnExactFirstDifferenceRow : OpenClaim := { program := "ytgejpfogigecaaa", sum := "91bac3672dfb8a7b3bac623914b273acd42ff11b09db0dbfa79388c5c23fd365", func := "loop.example/g00827/laws.FnExactFirstDifference", spec := "fnExactFirstDifference", apart := false }
def FnExactFirstDifferenceSaid : Prop := fnExactFirstDifferenceRow.holds Try.pinned (OpenSpec.ofChange fnExactFirstDifferenceSpec)

/-- ITS FALSE NEIGHBOUR: 'it returns false'. Refute it at one input. -/
def fnExactFirstDifferenceWrong : ChangeSpec := { name := "fnExactFirstDifference", fn := fun _ => fun
  | [d1, d2] => { results := [.lit (.bool false)], args := [d1, d2] }
  | _ => none }
def FnExactFirstDifferenceWrongFalsely : Prop := fnExactFirstDifferenceRow.holds Try.pinned (OpenSpec.ofChange fnExactFirstDifferenceWrong)

/-- 'laws.FnExactShiftTimes': WHATEVER THE INPUT: true; the input reads as it did. -/
def fnExactShiftTimesSpec : ChangeSpec := { name := "fnExactShiftTimes", fn := fun _ => fun
  | [d1, d2, d3, d4] => { results := [.lit (.bool true)], args := [d1, d2, d3, d4] }
  | _ => none }
def fnExactShiftTimesRow : OpenClaim := { program := "ytgejpfogigecaaa", sum := "91bac3672dfb8a7b3bac623914b273acd42ff11b09db0dbfa79388c5c23fd365", func := "loop.example/g00827/laws.FnExactShiftTimes", spec := "fnExactShiftTimes", apart := false }
def FnExactShiftTimesSaid : Prop := fnExactShiftTimesRow.holds Try.pinned (OpenSpec.ofChange fnExactShiftTimesSpec)

/-- ITS FALSE NEIGHBOUR: 'it returns false'. Refute it at one input. -/
def fnExactShiftTimesWrong : ChangeSpec := { name := "fnExactShiftTimes", fn := fun _ => fun
  | [d1, d2, d3, d4] => { results := [.lit (.bool false)], args := [d1, d2, d3, d4] }
  | _ => none }
def FnExactShiftTimesWrongFalsely : Prop := fnExactShiftTimesRow.holds Try.pinned (OpenSpec.ofChange fnExactShiftTimesWrong)

/-- 'laws.FnSkewed': WHATEVER THE INPUT: true; the input reads as it did. -/
def fnSkewedSpec : ChangeSpec := { name := "fnSkewed", fn := fun _ => fun
  | [d] => { results := [.lit (.bool true)], args := [d] }
  | _ => none }
def fnSkewedRow : OpenClaim := { program := "ytgejpfogigecaaa", sum := "91bac3672dfb8a7b3bac623914b273acd42ff11b09db0dbfa79388c5c23fd365", func := "loop.example/g00827/laws.FnSkewed", spec := "fnSkewed", unfollowed := true, recurses := true, apart := false }
def FnSkewedSaid : Prop := fnSkewedRow.holds Try.pinned (OpenSpec.ofChange fnSkewedSpec)

/-- ITS FALSE NEIGHBOUR: 'it returns false'. Refute it at one input. -/
def fnSkewedWrong : ChangeSpec := { name := "fnSkewed", fn := fun _ => fun
  | [d] => { results := [.lit (.bool false)], args := [d] }
  | _ => none }
def FnSkewedWrongFalsely : Prop := fnSkewedRow.holds Try.pinned (OpenSpec.ofChange fnSkewedWrong)

/-- 'laws.FnExactSameDesks': WHATEVER THE INPUT: true; the input reads as it did. -/
def fnExactSameDesksSpec : ChangeSpec := { name := "fnExactSameDesks", fn := fun _ => fun
  | [d1, d2] => { results := [.lit (.bool true)], args := [d1, d2] }
  | _ => none }
def fnExactSameDesksRow : OpenClaim := { program := "ytgejpfogigecaaa", sum := "91bac3672dfb8a7b3bac623914b273acd42ff11b09db0dbfa79388c5c23fd365", func := "loop.example/g00827/laws.FnExactSameDesks", spec := "fnExactSameDesks", unfollowed := true, recurses := true, apart := false }
def FnExactSameDesksSaid : Prop := fnExactSameDesksRow.holds Try.pinned (OpenSpec.ofChange fnExactSameDesksSpec)

/-- ITS FALSE NEIGHBOUR: 'it returns false'. Refute it at one input. -/
def fnExactSameDesksWrong : ChangeSpec := { name := "fnExactSameDesks", fn := fun _ => fun
  | [d1, d2] => { results := [.lit (.bool false)], args := [d1, d2] }
  | _ => none }
def FnExactSameDesksWrongFalsely : Prop := fnExactSameDesksRow.holds Try.pinned (OpenSpec.ofChange fnExactSameDesksWrong)

/- THE SECOND FORM. 'bulk': how many values and letters a reading holds, each counted each time it is reached (what is shared counts as often as it is met; a slice's spare places count too). A statement '..UptoSaid' is the law's where the arguments, and the package variables that the reading takes, are together of bulk at most 1048576: NARROWER than '..Said'. Prove '..Said' where nothing that the law and all that it calls make is longer than what came in: it says more and counts as full. Else prove '..UptoSaid'. A law counts once. -/
mutual
def uptoBulk {H : Type} : DataW H → Nat
  | .lit (.string bytes) => bytes.length + 1
  | .lit _ => 1
  | .nil => 1
  | .ptr d => uptoBulk d + 1
  | .slice elems spare => uptoBulkAll elems + uptoBulkAll spare + 1
  | .agg parts => uptoBulkAll parts + 1
  | .iface _ d => uptoBulk d + 1
  | .map entries => uptoBulkEntries entries + 1
  | .held _ => 1
def uptoBulkAll {H : Type} : List (DataW H) → Nat
  | [] => 0
  | d :: r => uptoBulk d + uptoBulkAll r
def uptoBulkEntries {H : Type} : List (Lit × DataW H) → Nat
  | [] => 0
  | x :: r => uptoBulkEntry x + uptoBulkEntries r
def uptoBulkEntry {H : Type} : Lit × DataW H → Nat
  | (.string bytes, d) => bytes.length + uptoBulk d + 1
  | (_, d) => uptoBulk d + 1
 end
def uptoSmall : (H : Type) → List (DataW H) → Bool := fun _ ds => decide (uptoBulkAll ds ≤ 1048576)
def OpenSpec.upto (s : _root_.Go.ChangeSpec) : _root_.Go.OpenSpec := { _root_.Go.OpenSpec.ofChange s with cond := some uptoSmall }

/-- 'laws.FnExactSumOfText', WHERE WHAT IT READS IS OF BULK AT MOST 1048576: true; the input reads as it did. -/
def fnExactSumOfTextUptoRow : OpenClaim := { program := "ytgejpfogigecaaa", sum := "91bac3672dfb8a7b3bac623914b273acd42ff11b09db0dbfa79388c5c23fd365", func := "loop.example/g00827/laws.FnExactSumOfText", spec := "fnExactSumOfText", apart := false, narrowed := true }
def FnExactSumOfTextUptoSaid : Prop := fnExactSumOfTextUptoRow.holds Try.pinned (OpenSpec.upto fnExactSumOfTextSpec)

/-- 'laws.FnExactFirstDifference', WHERE WHAT IT READS IS OF BULK AT MOST 1048576: true; the input reads as it did. -/
def fnExactFirstDifferenceUptoRow : OpenClaim := { program := "ytgejpfogigecaaa", sum := "91bac3672dfb8a7b3bac623914b273acd42ff11b09db0dbfa79388c5c23fd365", func := "loop.example/g00827/laws.FnExactFirstDifference", spec := "fnExactFirstDifference", apart := false, narrowed := true }
def FnExactFirstDifferenceUptoSaid : Prop := fnExactFirstDifferenceUptoRow.holds Try.pinned (OpenSpec.upto fnExactFirstDifferenceSpec)

/-- 'laws.FnExactShiftTimes', WHERE WHAT IT READS IS OF BULK AT MOST 1048576: true; the input reads as it did. -/
def fnExactShiftTimesUptoRow : OpenClaim := { program := "ytgejpfogigecaaa", sum := "91bac3672dfb8a7b3bac623914b273acd42ff11b09db0dbfa79388c5c23fd365", func := "loop.example/g00827/laws.FnExactShiftTimes", spec := "fnExactShiftTimes", apart := false, narrowed := true }
def FnExactShiftTimesUptoSaid : Prop := fnExactShiftTimesUptoRow.holds Try.pinned (OpenSpec.upto fnExactShiftTimesSpec)

/-- 'laws.FnSkewed', WHERE WHAT IT READS IS OF BULK AT MOST 1048576: true; the input reads as it did. -/
def fnSkewedUptoRow : OpenClaim := { program := "ytgejpfogigecaaa", sum := "91bac3672dfb8a7b3bac623914b273acd42ff11b09db0dbfa79388c5c23fd365", func := "loop.example/g00827/laws.FnSkewed", spec := "fnSkewed", unfollowed := true, recurses := true, apart := false, narrowed := true }
def FnSkewedUptoSaid : Prop := fnSkewedUptoRow.holds Try.pinned (OpenSpec.upto fnSkewedSpec)

/-- 'laws.FnExactSameDesks', WHERE WHAT IT READS IS OF BULK AT MOST 1048576: true; the input reads as it did. -/
def fnExactSameDesksUptoRow : OpenClaim := { program := "ytgejpfogigecaaa", sum := "91bac3672dfb8a7b3bac623914b273acd42ff11b09db0dbfa79388c5c23fd365", func := "loop.example/g00827/laws.FnExactSameDesks", spec := "fnExactSameDesks", unfollowed := true, recurses := true, apart := false, narrowed := true }
def FnExactSameDesksUptoSaid : Prop := fnExactSameDesksUptoRow.holds Try.pinned (OpenSpec.upto fnExactSameDesksSpec)

end Rows
end Go.Proofs.Ytgejpfogigecaaa
