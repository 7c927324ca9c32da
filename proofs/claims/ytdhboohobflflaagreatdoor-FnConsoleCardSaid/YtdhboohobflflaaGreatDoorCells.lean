/- The cells of a row that read the program's words: it may be entered, its end is not lifted, it is a cut program. Own work. -/
import Derived.Test.YtdhboohobflflaaGreatDoorRows
import Derived.JoinedOf
import Derived.RowKit
set_option linter.unusedVariables false
set_option maxRecDepth 100000
namespace Go.Proofs.YtdhboohobflflaaGreatDoor.cells
open Go.ChangeShapes Go.WideShapes Go.RowKit
open Go.Proofs
def sp : Char := Char.ofNat 32
theorem word {w r : List Char} (h : sp ∉ w) : wordsSigns (w ++ sp :: r) = w :: wordsSigns r := by
  induction w with
  | nil => rfl
  | cons c w ih =>
    have hc : c ≠ sp := fun e => h (by simp [e])
    have ih := ih (fun e => h (by simp [e]))
    rw [List.cons_append]
    conv => lhs; unfold wordsSigns
    split
    · rename_i e; cases e
    · rename_i e; cases e; exact absurd rfl hc
    · rename_i e; cases e; rw [ih]
def w1 : List Char := [104, 97, 114, 110, 101, 115, 115].map Char.ofNat
def w2 : List Char := [101, 49, 50, 98, 48, 57, 49, 50, 100, 98, 100, 54, 100, 100, 100, 57, 52, 55, 98, 52, 54, 55, 50, 102, 102, 101, 48, 53, 54, 57, 49, 57, 49, 99, 97, 52, 101, 102, 50, 100, 49, 49, 53, 54, 99, 56, 99, 54, 101, 57, 48, 97, 57, 51, 101, 56, 97, 52, 56, 102, 52, 52, 50, 99].map Char.ofNat
def w3 : List Char := [99, 117, 116].map Char.ofNat
def signs : List Char := [97, 116, 32, 108, 111, 111, 112, 46, 101, 120, 97, 109, 112, 108, 101, 47, 103, 48, 48, 56, 50, 55, 47, 108, 97, 119, 115, 46, 70, 110, 67, 111, 110, 102, 105, 114, 109, 115, 32, 108, 111, 111, 112, 46, 101, 120, 97, 109, 112, 108, 101, 47, 103, 48, 48, 56, 50, 55, 47, 108, 97, 119, 115, 46, 70, 110, 67, 111, 110, 115, 111, 108, 101].map Char.ofNat
theorem said : Tryz.prog.initOrder = String.ofList (w1 ++ sp :: (w2 ++ sp :: (w3 ++ sp :: signs))) := by kernel_rfl
theorem words : ∃ rest, behindMainWord (wordsSigns Tryz.prog.initOrder.toList) = w3 :: rest := by
  rw [said, String.toList_ofList, word (by decide +kernel), word (by decide +kernel), word (by decide +kernel)]
  exact ⟨wordsSigns signs, by kernel_rfl⟩
theorem enters : Tryz.prog.mayEnter = true := by
  obtain ⟨rest, h⟩ := words
  unfold Program.mayEnter
  rw [h]
  kernel_rfl
theorem lifts : Tryz.prog.liftsFinal = false := by
  obtain ⟨rest, h⟩ := words
  unfold Program.liftsFinal Program.headLifts
  rw [h]
  kernel_rfl
theorem made : Tryz.prog.make = some .cut := by
  obtain ⟨rest, h⟩ := words
  unfold Program.make
  rw [h]
  kernel_rfl
end Go.Proofs.YtdhboohobflflaaGreatDoor.cells
