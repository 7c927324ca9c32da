/- The cells of a row that read the program's words: it may be entered, its end is not lifted, it is a cut program. Own work. -/
import Derived.Test.YtpodkllkinpfmaaGreatDoorRows
import Derived.JoinedOf
import Derived.RowKit
set_option linter.unusedVariables false
set_option maxRecDepth 100000
namespace Go.Proofs.YtpodkllkinpfmaaGreatDoor.cells
open Go.ChangeShapes Go.WideShapes Go.RowKit
open Go.Proofs
def sp : Char := Char.ofNat 32
theorem word {w r : List Char} (h : sp ∉ w) : wordsSigns (w ++ sp :: r) = w :: wordsSigns r := by
  induction w with
  | nil => rfl
  | cons c w ih =>
    have hc : c ≠ sp := fun e => h (by simp [e])
    have ih := ih (fun e => h (by simp [e]))
    rw [List.cons_append]
    conv => lhs; unfold wordsSigns
    split
    · rename_i e; cases e
    · rename_i e; cases e; exact absurd rfl hc
    · rename_i e; cases e; rw [ih]
def w1 : List Char := [104, 97, 114, 110, 101, 115, 115].map Char.ofNat
def w2 : List Char := [49, 56, 48, 100, 50, 49, 48, 50, 101, 98, 54, 102, 51, 101, 57, 101, 98, 52, 49, 56, 102, 57, 52, 99, 50, 57, 50, 101, 52, 50, 51, 102, 57, 100, 54, 55, 102, 97, 102, 52, 97, 97, 53, 98, 53, 52, 51, 51, 50, 56, 53, 50, 99, 55, 100, 54, 48, 56, 54, 100, 100, 98, 98, 53].map Char.ofNat
def w3 : List Char := [99, 117, 116].map Char.ofNat
def signs : List Char := [97, 116, 32, 108, 111, 111, 112, 46, 101, 120, 97, 109, 112, 108, 101, 47, 103, 48, 48, 56, 50, 55, 47, 108, 97, 119, 115, 46, 70, 110, 69, 120, 97, 99, 116, 87, 105, 110, 100, 111, 119, 76, 105, 110, 101, 115, 32, 108, 111, 111, 112, 46, 101, 120, 97, 109, 112, 108, 101, 47, 103, 48, 48, 56, 50, 55, 47, 108, 97, 119, 115, 46, 70, 110, 83, 116, 114, 111, 110, 103, 32, 108, 111, 111, 112, 46, 101, 120, 97, 109, 112, 108, 101, 47, 103, 48, 48, 56, 50, 55, 47, 108, 97, 119, 115, 46, 70, 110, 82, 101, 112, 111, 114, 116, 115, 32, 108, 111, 111, 112, 46, 101, 120, 97, 109, 112, 108, 101, 47, 103, 48, 48, 56, 50, 55, 47, 108, 97, 119, 115, 46, 70, 110, 84, 111, 112, 32, 108, 111, 111, 112, 46, 101, 120, 97, 109, 112, 108, 101, 47, 103, 48, 48, 56, 50, 55, 47, 108, 97, 119, 115, 46, 70, 110, 69, 120, 97, 99, 116, 83, 117, 109, 109, 97, 114, 121, 79, 102, 32, 108, 111, 111, 112, 46, 101, 120, 97, 109, 112, 108, 101, 47, 103, 48, 48, 56, 50, 55, 47, 108, 97, 119, 115, 46, 70, 110, 69, 120, 97, 99, 116, 67, 108, 97, 115, 115, 79, 102, 83, 104, 101, 101, 116].map Char.ofNat
theorem said : Tryz.prog.initOrder = String.ofList (w1 ++ sp :: (w2 ++ sp :: (w3 ++ sp :: signs))) := by kernel_rfl
theorem words : ∃ rest, behindMainWord (wordsSigns Tryz.prog.initOrder.toList) = w3 :: rest := by
  rw [said, String.toList_ofList, word (by decide +kernel), word (by decide +kernel), word (by decide +kernel)]
  exact ⟨wordsSigns signs, by kernel_rfl⟩
theorem enters : Tryz.prog.mayEnter = true := by
  obtain ⟨rest, h⟩ := words
  unfold Program.mayEnter
  rw [h]
  kernel_rfl
theorem lifts : Tryz.prog.liftsFinal = false := by
  obtain ⟨rest, h⟩ := words
  unfold Program.liftsFinal Program.headLifts
  rw [h]
  kernel_rfl
theorem made : Tryz.prog.make = some .cut := by
  obtain ⟨rest, h⟩ := words
  unfold Program.make
  rw [h]
  kernel_rfl
end Go.Proofs.YtpodkllkinpfmaaGreatDoor.cells
