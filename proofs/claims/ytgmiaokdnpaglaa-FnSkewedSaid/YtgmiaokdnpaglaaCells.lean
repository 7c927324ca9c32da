/- The cells of a row that read the program's words: it may be entered, its end is not lifted, it is a cut program. Own work. -/
import Derived.Test.YtgmiaokdnpaglaaRows
import Derived.JoinedOf
import Derived.RowKit
set_option linter.unusedVariables false
set_option maxRecDepth 100000
namespace Go.Proofs.Ytgmiaokdnpaglaa.cells
open Go.ChangeShapes Go.WideShapes Go.RowKit
open Go.Proofs
def sp : Char := Char.ofNat 32
theorem word {w r : List Char} (h : sp ∉ w) : wordsSigns (w ++ sp :: r) = w :: wordsSigns r := by
  induction w with
  | nil => rfl
  | cons c w ih =>
    have hc : c ≠ sp := fun e => h (by simp [e])
    have ih := ih (fun e => h (by simp [e]))
    rw [List.cons_append]
    conv => lhs; unfold wordsSigns
    split
    · rename_i e; cases e
    · rename_i e; cases e; exact absurd rfl hc
    · rename_i e; cases e; rw [ih]
def w1 : List Char := [104, 97, 114, 110, 101, 115, 115].map Char.ofNat
def w2 : List Char := [53, 49, 55, 51, 50, 57, 55, 56, 52, 97, 57, 98, 55, 97, 50, 99, 99, 49, 53, 54, 99, 56, 57, 50, 51, 52, 57, 51, 52, 52, 51, 99, 48, 101, 57, 50, 53, 56, 53, 54, 53, 54, 97, 56, 55, 48, 57, 54, 102, 102, 55, 50, 98, 99, 97, 54, 57, 100, 56, 52, 102, 53, 51, 53].map Char.ofNat
def w3 : List Char := [99, 117, 116].map Char.ofNat
def signs : List Char := [97, 116, 32, 108, 111, 111, 112, 46, 101, 120, 97, 109, 112, 108, 101, 47, 103, 48, 48, 56, 50, 55, 47, 108, 97, 119, 115, 46, 70, 110, 69, 120, 97, 99, 116, 83, 104, 105, 102, 116, 84, 105, 109, 101, 115, 32, 108, 111, 111, 112, 46, 101, 120, 97, 109, 112, 108, 101, 47, 103, 48, 48, 56, 50, 55, 47, 108, 97, 119, 115, 46, 70, 110, 83, 107, 101, 119, 101, 100, 32, 108, 111, 111, 112, 46, 101, 120, 97, 109, 112, 108, 101, 47, 103, 48, 48, 56, 50, 55, 47, 108, 97, 119, 115, 46, 70, 110, 69, 120, 97, 99, 116, 83, 97, 109, 101, 68, 101, 115, 107, 115, 32, 108, 111, 111, 112, 46, 101, 120, 97, 109, 112, 108, 101, 47, 103, 48, 48, 56, 50, 55, 47, 108, 97, 119, 115, 46, 70, 110, 69, 120, 97, 99, 116, 77, 97, 114, 103, 105, 110, 79, 102, 32, 108, 111, 111, 112, 46, 101, 120, 97, 109, 112, 108, 101, 47, 103, 48, 48, 56, 50, 55, 47, 108, 97, 119, 115, 46, 70, 110, 69, 120, 97, 99, 116, 84, 105, 109, 101, 76, 105, 110, 101, 32, 108, 111, 111, 112, 46, 101, 120, 97, 109, 112, 108, 101, 47, 103, 48, 48, 56, 50, 55, 47, 108, 97, 119, 115, 46, 70, 110, 69, 120, 97, 99, 116, 84, 97, 107, 101, 115, 79, 107, 32, 108, 111, 111, 112, 46, 101, 120, 97, 109, 112, 108, 101, 47, 103, 48, 48, 56, 50, 55, 47, 108, 97, 119, 115, 46, 70, 110, 69, 120, 97, 99, 116, 75, 101, 101, 112, 115, 65, 115, 115, 117, 109, 112, 116, 105, 111, 110, 115, 32, 108, 111, 111, 112, 46, 101, 120, 97, 109, 112, 108, 101, 47, 103, 48, 48, 56, 50, 55, 47, 108, 97, 119, 115, 46, 70, 110, 69, 120, 97, 99, 116, 66, 114, 111, 107, 101, 110, 84, 105, 101, 115, 32, 108, 111, 111, 112, 46, 101, 120, 97, 109, 112, 108, 101, 47, 103, 48, 48, 56, 50, 55, 47, 108, 97, 119, 115, 46, 70, 110, 69, 120, 97, 99, 116, 79, 98, 115, 101, 114, 118, 101, 100, 82, 97, 110, 103, 101, 32, 108, 111, 111, 112, 46, 101, 120, 97, 109, 112, 108, 101, 47, 103, 48, 48, 56, 50, 55, 47, 108, 97, 119, 115, 46, 70, 110, 69, 120, 97, 99, 116, 78, 101, 119, 67, 111, 110, 115, 111, 108, 101, 32, 108, 111, 111, 112, 46, 101, 120, 97, 109, 112, 108, 101, 47, 103, 48, 48, 56, 50, 55, 47, 108, 97, 119, 115, 46, 70, 110, 69, 120, 97, 99, 116, 83, 107, 101, 119, 83, 104, 111, 119, 32, 108, 111, 111, 112, 46, 101, 120, 97, 109, 112, 108, 101, 47, 103, 48, 48, 56, 50, 55, 47, 108, 97, 119, 115, 46, 70, 110, 69, 120, 97, 99, 116, 84, 97, 107, 101, 115, 79, 102, 32, 108, 111, 111, 112, 46, 101, 120, 97, 109, 112, 108, 101, 47, 103, 48, 48, 56, 50, 55, 47, 108, 97, 119, 115, 46, 70, 110, 69, 120, 97, 99, 116, 84, 105, 103, 104, 116, 101, 110, 83, 104, 111, 119, 32, 108, 111, 111, 112, 46, 101, 120, 97, 109, 112, 108, 101, 47, 103, 48, 48, 56, 50, 55, 47, 108, 97, 119, 115, 46, 70, 110, 69, 120, 97, 99, 116, 69, 110, 100, 105, 110, 103, 70, 111, 114, 32, 108, 111, 111, 112, 46, 101, 120, 97, 109, 112, 108, 101, 47, 103, 48, 48, 56, 50, 55, 47, 108, 97, 119, 115, 46, 70, 110, 69, 120, 97, 99, 116, 78, 101, 119, 68, 101, 115, 107].map Char.ofNat
theorem said : Try.prog.initOrder = String.ofList (w1 ++ sp :: (w2 ++ sp :: (w3 ++ sp :: signs))) := by kernel_rfl
theorem words : ∃ rest, behindMainWord (wordsSigns Try.prog.initOrder.toList) = w3 :: rest := by
  rw [said, String.toList_ofList, word (by decide +kernel), word (by decide +kernel), word (by decide +kernel)]
  exact ⟨wordsSigns signs, by kernel_rfl⟩
theorem enters : Try.prog.mayEnter = true := by
  obtain ⟨rest, h⟩ := words
  unfold Program.mayEnter
  rw [h]
  kernel_rfl
theorem lifts : Try.prog.liftsFinal = false := by
  obtain ⟨rest, h⟩ := words
  unfold Program.liftsFinal Program.headLifts
  rw [h]
  kernel_rfl
theorem made : Try.prog.make = some .cut := by
  obtain ⟨rest, h⟩ := words
  unfold Program.make
  rw [h]
  kernel_rfl
end Go.Proofs.Ytgmiaokdnpaglaa.cells
