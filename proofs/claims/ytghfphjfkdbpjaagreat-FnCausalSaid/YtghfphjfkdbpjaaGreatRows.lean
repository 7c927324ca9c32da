/-
  No cell of these rows narrows 'for every input' (looked for: loops, veiled, ifaces, maps, wideKeys, modest, calm, conditions, laid).
  DERIVED. THE GIVEN ROWS OF THIS SEAT. 8 by the template 'for every input the law returns true; each argument reads behind the call as it read before'; 0 by the template 'total and deterministic' (their statements: YtghfphjfkdbpjaaGreatTotals.lean).
  GIVEN WITH THE SEED: the statements are not yours to turn. If you find one false, say at which input.
  Laid BY PROGRAM, IN A SANDBOX (cutbox-rows.mjs): the forced cells as the released guide's own fill.sh prints them over the translation 1156ae9ae020ba5f… (all of the seat's roots in one cut). By AI agents, Wed Nov 11 2026. No macro, syntax, notation, axiom, sorry.
-/
import Derived.Test.YtghfphjfkdbpjaaGreatChecked
import GoSem.Claim
import GoSem.ClaimJoined
import GoSem.ClaimMapViews
import Derived.JoinedTies
import Derived.KernelRfl
namespace Go.Proofs.YtghfphjfkdbpjaaGreat
/- THE CELL 'sum', in the pinned program and in every row, IS THE sha256 OF THE DUMP (.gsa) THAT YtghfphjfkdbpjaaGreatProg.lean LOADS. Nothing in Lean hashes anything: it is a label: what it is worth is what the hold of that sum in a sandbox is worth. -/
noncomputable def Tryz.pinned : Pinned := { name := "ytghfphjfkdbpjaagreat", sum := "1156ae9ae020ba5f7af73002186ca1ac10721fe47ed6b1068b082a2af6329d66", checked := Tryz.checked }
namespace Rows
def none {H : Type} : Left H := { results := [], args := [] }

/-- 'laws.FnCausal': WHATEVER THE INPUT: true; the input reads as it did. -/
def fnCausalSpec : ChangeSpec := { name := "fnCausal", fn := fun _ => fun
  | [d] => { results := [.lit (.bool true)], args := [d] }
  | _ => none }
def fnCausalRow : OpenClaim := { program := "ytghfphjfkdbpjaagreat", sum := "1156ae9ae020ba5f7af73002186ca1ac10721fe47ed6b1068b082a2af6329d66", func := "loop.example/g00827/laws.FnCausal", spec := "fnCausal", unfollowed := true, recurses := true, apart := false }
def FnCausalSaid : Prop := fnCausalRow.holds Tryz.pinned (OpenSpec.ofChange fnCausalSpec)

/-- ITS FALSE NEIGHBOUR: 'it returns false'. Refute it at one input. -/
def fnCausalWrong : ChangeSpec := { name := "fnCausal", fn := fun _ => fun
  | [d] => { results := [.lit (.bool false)], args := [d] }
  | _ => none }
def FnCausalWrongFalsely : Prop := fnCausalRow.holds Tryz.pinned (OpenSpec.ofChange fnCausalWrong)

/-- 'laws.FnOverrides': WHATEVER THE INPUT: true; the input reads as it did. -/
def fnOverridesSpec : ChangeSpec := { name := "fnOverrides", fn := fun _ => fun
  | [d] => { results := [.lit (.bool true)], args := [d] }
  | _ => none }
def fnOverridesRow : OpenClaim := { program := "ytghfphjfkdbpjaagreat", sum := "1156ae9ae020ba5f7af73002186ca1ac10721fe47ed6b1068b082a2af6329d66", func := "loop.example/g00827/laws.FnOverrides", spec := "fnOverrides", unfollowed := true, recurses := true, apart := false }
def FnOverridesSaid : Prop := fnOverridesRow.holds Tryz.pinned (OpenSpec.ofChange fnOverridesSpec)

/-- ITS FALSE NEIGHBOUR: 'it returns false'. Refute it at one input. -/
def fnOverridesWrong : ChangeSpec := { name := "fnOverrides", fn := fun _ => fun
  | [d] => { results := [.lit (.bool false)], args := [d] }
  | _ => none }
def FnOverridesWrongFalsely : Prop := fnOverridesRow.holds Tryz.pinned (OpenSpec.ofChange fnOverridesWrong)

/-- 'laws.FnHeld': WHATEVER THE INPUT: true; the input reads as it did. -/
def fnHeldSpec : ChangeSpec := { name := "fnHeld", fn := fun _ => fun
  | [d] => { results := [.lit (.bool true)], args := [d] }
  | _ => none }
def fnHeldRow : OpenClaim := { program := "ytghfphjfkdbpjaagreat", sum := "1156ae9ae020ba5f7af73002186ca1ac10721fe47ed6b1068b082a2af6329d66", func := "loop.example/g00827/laws.FnHeld", spec := "fnHeld", unfollowed := true, recurses := true, apart := false }
def FnHeldSaid : Prop := fnHeldRow.holds Tryz.pinned (OpenSpec.ofChange fnHeldSpec)

/-- ITS FALSE NEIGHBOUR: 'it returns false'. Refute it at one input. -/
def fnHeldWrong : ChangeSpec := { name := "fnHeld", fn := fun _ => fun
  | [d] => { results := [.lit (.bool false)], args := [d] }
  | _ => none }
def FnHeldWrongFalsely : Prop := fnHeldRow.holds Tryz.pinned (OpenSpec.ofChange fnHeldWrong)

/-- 'laws.FnExactRunShow': WHATEVER THE INPUT: true; the input reads as it did. -/
def fnExactRunShowSpec : ChangeSpec := { name := "fnExactRunShow", fn := fun _ => fun
  | [d1, d2, d3] => { results := [.lit (.bool true)], args := [d1, d2, d3] }
  | _ => none }
def fnExactRunShowRow : OpenClaim := { program := "ytghfphjfkdbpjaagreat", sum := "1156ae9ae020ba5f7af73002186ca1ac10721fe47ed6b1068b082a2af6329d66", func := "loop.example/g00827/laws.FnExactRunShow", spec := "fnExactRunShow", unfollowed := true, recurses := true, apart := false }
def FnExactRunShowSaid : Prop := fnExactRunShowRow.holds Tryz.pinned (OpenSpec.ofChange fnExactRunShowSpec)

/-- ITS FALSE NEIGHBOUR: 'it returns false'. Refute it at one input. -/
def fnExactRunShowWrong : ChangeSpec := { name := "fnExactRunShow", fn := fun _ => fun
  | [d1, d2, d3] => { results := [.lit (.bool false)], args := [d1, d2, d3] }
  | _ => none }
def FnExactRunShowWrongFalsely : Prop := fnExactRunShowRow.holds Tryz.pinned (OpenSpec.ofChange fnExactRunShowWrong)

/-- 'laws.FnExactManualTick': WHATEVER THE INPUT: true; the input reads as it did. -/
def fnExactManualTickSpec : ChangeSpec := { name := "fnExactManualTick", fn := fun _ => fun
  | [d1, d2, d3, d4] => { results := [.lit (.bool true)], args := [d1, d2, d3, d4] }
  | _ => none }
def fnExactManualTickRow : OpenClaim := { program := "ytghfphjfkdbpjaagreat", sum := "1156ae9ae020ba5f7af73002186ca1ac10721fe47ed6b1068b082a2af6329d66", func := "loop.example/g00827/laws.FnExactManualTick", spec := "fnExactManualTick", unfollowed := true, recurses := true, apart := false }
def FnExactManualTickSaid : Prop := fnExactManualTickRow.holds Tryz.pinned (OpenSpec.ofChange fnExactManualTickSpec)

/-- ITS FALSE NEIGHBOUR: 'it returns false'. Refute it at one input. -/
def fnExactManualTickWrong : ChangeSpec := { name := "fnExactManualTick", fn := fun _ => fun
  | [d1, d2, d3, d4] => { results := [.lit (.bool false)], args := [d1, d2, d3, d4] }
  | _ => none }
def FnExactManualTickWrongFalsely : Prop := fnExactManualTickRow.holds Tryz.pinned (OpenSpec.ofChange fnExactManualTickWrong)

/-- 'laws.FnExactHoldTick': WHATEVER THE INPUT: true; the input reads as it did. -/
def fnExactHoldTickSpec : ChangeSpec := { name := "fnExactHoldTick", fn := fun _ => fun
  | [d1, d2, d3, d4] => { results := [.lit (.bool true)], args := [d1, d2, d3, d4] }
  | _ => none }
def fnExactHoldTickRow : OpenClaim := { program := "ytghfphjfkdbpjaagreat", sum := "1156ae9ae020ba5f7af73002186ca1ac10721fe47ed6b1068b082a2af6329d66", func := "loop.example/g00827/laws.FnExactHoldTick", spec := "fnExactHoldTick", unfollowed := true, recurses := true, apart := false }
def FnExactHoldTickSaid : Prop := fnExactHoldTickRow.holds Tryz.pinned (OpenSpec.ofChange fnExactHoldTickSpec)

/-- ITS FALSE NEIGHBOUR: 'it returns false'. Refute it at one input. -/
def fnExactHoldTickWrong : ChangeSpec := { name := "fnExactHoldTick", fn := fun _ => fun
  | [d1, d2, d3, d4] => { results := [.lit (.bool false)], args := [d1, d2, d3, d4] }
  | _ => none }
def FnExactHoldTickWrongFalsely : Prop := fnExactHoldTickRow.holds Tryz.pinned (OpenSpec.ofChange fnExactHoldTickWrong)

/-- 'laws.FnExactTickDesk': WHATEVER THE INPUT: true; the input reads as it did. -/
def fnExactTickDeskSpec : ChangeSpec := { name := "fnExactTickDesk", fn := fun _ => fun
  | [d1, d2, d3] => { results := [.lit (.bool true)], args := [d1, d2, d3] }
  | _ => none }
def fnExactTickDeskRow : OpenClaim := { program := "ytghfphjfkdbpjaagreat", sum := "1156ae9ae020ba5f7af73002186ca1ac10721fe47ed6b1068b082a2af6329d66", func := "loop.example/g00827/laws.FnExactTickDesk", spec := "fnExactTickDesk", unfollowed := true, recurses := true, apart := false }
def FnExactTickDeskSaid : Prop := fnExactTickDeskRow.holds Tryz.pinned (OpenSpec.ofChange fnExactTickDeskSpec)

/-- ITS FALSE NEIGHBOUR: 'it returns false'. Refute it at one input. -/
def fnExactTickDeskWrong : ChangeSpec := { name := "fnExactTickDesk", fn := fun _ => fun
  | [d1, d2, d3] => { results := [.lit (.bool false)], args := [d1, d2, d3] }
  | _ => none }
def FnExactTickDeskWrongFalsely : Prop := fnExactTickDeskRow.holds Tryz.pinned (OpenSpec.ofChange fnExactTickDeskWrong)

/-- 'laws.FnExactRunDesk': WHATEVER THE INPUT: true; the input reads as it did. -/
def fnExactRunDeskSpec : ChangeSpec := { name := "fnExactRunDesk", fn := fun _ => fun
  | [d1, d2] => { results := [.lit (.bool true)], args := [d1, d2] }
  | _ => none }
def fnExactRunDeskRow : OpenClaim := { program := "ytghfphjfkdbpjaagreat", sum := "1156ae9ae020ba5f7af73002186ca1ac10721fe47ed6b1068b082a2af6329d66", func := "loop.example/g00827/laws.FnExactRunDesk", spec := "fnExactRunDesk", unfollowed := true, recurses := true, apart := false }
def FnExactRunDeskSaid : Prop := fnExactRunDeskRow.holds Tryz.pinned (OpenSpec.ofChange fnExactRunDeskSpec)

/-- ITS FALSE NEIGHBOUR: 'it returns false'. Refute it at one input. -/
def fnExactRunDeskWrong : ChangeSpec := { name := "fnExactRunDesk", fn := fun _ => fun
  | [d1, d2] => { results := [.lit (.bool false)], args := [d1, d2] }
  | _ => none }
def FnExactRunDeskWrongFalsely : Prop := fnExactRunDeskRow.holds Tryz.pinned (OpenSpec.ofChange fnExactRunDeskWrong)

/- THE SECOND FORM. 'bulk': how many values and letters a reading holds, each counted each time it is reached (what is shared counts as often as it is met; a slice's spare places count too). A statement '..UptoSaid' is the law's where the arguments, and the package variables that the reading takes, are together of bulk at most 1048576: NARROWER than '..Said'. Prove '..Said' where nothing that the law and all that it calls make is longer than what came in: it says more and counts as full. Else prove '..UptoSaid'. A law counts once. -/
mutual
def uptoBulk {H : Type} : DataW H → Nat
  | .lit (.string bytes) => bytes.length + 1
  | .lit _ => 1
  | .nil => 1
  | .ptr d => uptoBulk d + 1
  | .slice elems spare => uptoBulkAll elems + uptoBulkAll spare + 1
  | .agg parts => uptoBulkAll parts + 1
  | .iface _ d => uptoBulk d + 1
  | .map entries => uptoBulkEntries entries + 1
  | .held _ => 1
def uptoBulkAll {H : Type} : List (DataW H) → Nat
  | [] => 0
  | d :: r => uptoBulk d + uptoBulkAll r
def uptoBulkEntries {H : Type} : List (Lit × DataW H) → Nat
  | [] => 0
  | x :: r => uptoBulkEntry x + uptoBulkEntries r
def uptoBulkEntry {H : Type} : Lit × DataW H → Nat
  | (.string bytes, d) => bytes.length + uptoBulk d + 1
  | (_, d) => uptoBulk d + 1
 end
def uptoSmall : (H : Type) → List (DataW H) → Bool := fun _ ds => decide (uptoBulkAll ds ≤ 1048576)
def OpenSpec.upto (s : _root_.Go.ChangeSpec) : _root_.Go.OpenSpec := { _root_.Go.OpenSpec.ofChange s with cond := some uptoSmall }

/-- 'laws.FnCausal', WHERE WHAT IT READS IS OF BULK AT MOST 1048576: true; the input reads as it did. -/
def fnCausalUptoRow : OpenClaim := { program := "ytghfphjfkdbpjaagreat", sum := "1156ae9ae020ba5f7af73002186ca1ac10721fe47ed6b1068b082a2af6329d66", func := "loop.example/g00827/laws.FnCausal", spec := "fnCausal", unfollowed := true, recurses := true, apart := false, narrowed := true }
def FnCausalUptoSaid : Prop := fnCausalUptoRow.holds Tryz.pinned (OpenSpec.upto fnCausalSpec)

/-- 'laws.FnOverrides', WHERE WHAT IT READS IS OF BULK AT MOST 1048576: true; the input reads as it did. -/
def fnOverridesUptoRow : OpenClaim := { program := "ytghfphjfkdbpjaagreat", sum := "1156ae9ae020ba5f7af73002186ca1ac10721fe47ed6b1068b082a2af6329d66", func := "loop.example/g00827/laws.FnOverrides", spec := "fnOverrides", unfollowed := true, recurses := true, apart := false, narrowed := true }
def FnOverridesUptoSaid : Prop := fnOverridesUptoRow.holds Tryz.pinned (OpenSpec.upto fnOverridesSpec)

/-- 'laws.FnHeld', WHERE WHAT IT READS IS OF BULK AT MOST 1048576: true; the input reads as it did. -/
def fnHeldUptoRow : OpenClaim := { program := "ytghfphjfkdbpjaagreat", sum := "1156ae9ae020ba5f7af73002186ca1ac10721fe47ed6b1068b082a2af6329d66", func := "loop.example/g00827/laws.FnHeld", spec := "fnHeld", unfollowed := true, recurses := true, apart := false, narrowed := true }
def FnHeldUptoSaid : Prop := fnHeldUptoRow.holds Tryz.pinned (OpenSpec.upto fnHeldSpec)

/-- 'laws.FnExactRunShow', WHERE WHAT IT READS IS OF BULK AT MOST 1048576: true; the input reads as it did. -/
def fnExactRunShowUptoRow : OpenClaim := { program := "ytghfphjfkdbpjaagreat", sum := "1156ae9ae020ba5f7af73002186ca1ac10721fe47ed6b1068b082a2af6329d66", func := "loop.example/g00827/laws.FnExactRunShow", spec := "fnExactRunShow", unfollowed := true, recurses := true, apart := false, narrowed := true }
def FnExactRunShowUptoSaid : Prop := fnExactRunShowUptoRow.holds Tryz.pinned (OpenSpec.upto fnExactRunShowSpec)

/-- 'laws.FnExactManualTick', WHERE WHAT IT READS IS OF BULK AT MOST 1048576: true; the input reads as it did. -/
def fnExactManualTickUptoRow : OpenClaim := { program := "ytghfphjfkdbpjaagreat", sum := "1156ae9ae020ba5f7af73002186ca1ac10721fe47ed6b1068b082a2af6329d66", func := "loop.example/g00827/laws.FnExactManualTick", spec := "fnExactManualTick", unfollowed := true, recurses := true, apart := false, narrowed := true }
def FnExactManualTickUptoSaid : Prop := fnExactManualTickUptoRow.holds Tryz.pinned (OpenSpec.upto fnExactManualTickSpec)

/-- 'laws.FnExactHoldTick', WHERE WHAT IT READS IS OF BULK AT MOST 1048576: true; the input reads as it did. -/
def fnExactHoldTickUptoRow : OpenClaim := { program := "ytghfphjfkdbpjaagreat", sum := "1156ae9ae020ba5f7af73002186ca1ac10721fe47ed6b1068b082a2af6329d66", func := "loop.example/g00827/laws.FnExactHoldTick", spec := "fnExactHoldTick", unfollowed := true, recurses := true, apart := false, narrowed := true }
def FnExactHoldTickUptoSaid : Prop := fnExactHoldTickUptoRow.holds Tryz.pinned (OpenSpec.upto fnExactHoldTickSpec)

/-- 'laws.FnExactTickDesk', WHERE WHAT IT READS IS OF BULK AT MOST 1048576: true; the input reads as it did. -/
def fnExactTickDeskUptoRow : OpenClaim := { program := "ytghfphjfkdbpjaagreat", sum := "1156ae9ae020ba5f7af73002186ca1ac10721fe47ed6b1068b082a2af6329d66", func := "loop.example/g00827/laws.FnExactTickDesk", spec := "fnExactTickDesk", unfollowed := true, recurses := true, apart := false, narrowed := true }
def FnExactTickDeskUptoSaid : Prop := fnExactTickDeskUptoRow.holds Tryz.pinned (OpenSpec.upto fnExactTickDeskSpec)

/-- 'laws.FnExactRunDesk', WHERE WHAT IT READS IS OF BULK AT MOST 1048576: true; the input reads as it did. -/
def fnExactRunDeskUptoRow : OpenClaim := { program := "ytghfphjfkdbpjaagreat", sum := "1156ae9ae020ba5f7af73002186ca1ac10721fe47ed6b1068b082a2af6329d66", func := "loop.example/g00827/laws.FnExactRunDesk", spec := "fnExactRunDesk", unfollowed := true, recurses := true, apart := false, narrowed := true }
def FnExactRunDeskUptoSaid : Prop := fnExactRunDeskUptoRow.holds Tryz.pinned (OpenSpec.upto fnExactRunDeskSpec)

end Rows
end Go.Proofs.YtghfphjfkdbpjaaGreat
