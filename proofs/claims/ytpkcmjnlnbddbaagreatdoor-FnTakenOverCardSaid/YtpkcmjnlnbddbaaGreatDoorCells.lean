/- The cells of a row that read the program's words: it may be entered, its end is not lifted, it is a cut program. Own work. -/
import Derived.Test.YtpkcmjnlnbddbaaGreatDoorRows
import Derived.JoinedOf
import Derived.RowKit
set_option linter.unusedVariables false
set_option maxRecDepth 100000
namespace Go.Proofs.YtpkcmjnlnbddbaaGreatDoor.cells
open Go.ChangeShapes Go.WideShapes Go.RowKit
open Go.Proofs
def sp : Char := Char.ofNat 32
theorem word {w r : List Char} (h : sp ∉ w) : wordsSigns (w ++ sp :: r) = w :: wordsSigns r := by
  induction w with
  | nil => rfl
  | cons c w ih =>
    have hc : c ≠ sp := fun e => h (by simp [e])
    have ih := ih (fun e => h (by simp [e]))
    rw [List.cons_append]
    conv => lhs; unfold wordsSigns
    split
    · rename_i e; cases e
    · rename_i e; cases e; exact absurd rfl hc
    · rename_i e; cases e; rw [ih]
def w1 : List Char := [104, 97, 114, 110, 101, 115, 115].map Char.ofNat
def w2 : List Char := [48, 52, 55, 97, 49, 52, 97, 49, 55, 55, 101, 99, 48, 49, 50, 55, 97, 102, 97, 56, 50, 51, 56, 48, 53, 100, 52, 54, 49, 98, 54, 102, 101, 97, 56, 53, 55, 56, 97, 101, 99, 98, 102, 97, 49, 97, 97, 54, 50, 97, 100, 50, 98, 102, 56, 101, 49, 54, 52, 56, 53, 99, 51, 57].map Char.ofNat
def w3 : List Char := [99, 117, 116].map Char.ofNat
def signs : List Char := [97, 116, 32, 108, 111, 111, 112, 46, 101, 120, 97, 109, 112, 108, 101, 47, 103, 48, 48, 56, 50, 55, 47, 108, 97, 119, 115, 46, 70, 110, 69, 120, 97, 99, 116, 67, 104, 101, 99, 107, 82, 117, 110, 32, 108, 111, 111, 112, 46, 101, 120, 97, 109, 112, 108, 101, 47, 103, 48, 48, 56, 50, 55, 47, 108, 97, 119, 115, 46, 70, 110, 69, 120, 97, 99, 116, 65, 108, 108, 82, 117, 110, 115, 83, 117, 99, 99, 101, 101, 100, 32, 108, 111, 111, 112, 46, 101, 120, 97, 109, 112, 108, 101, 47, 103, 48, 48, 56, 50, 55, 47, 108, 97, 119, 115, 46, 70, 110, 84, 97, 107, 101, 110, 79, 118, 101, 114, 32, 108, 111, 111, 112, 46, 101, 120, 97, 109, 112, 108, 101, 47, 103, 48, 48, 56, 50, 55, 47, 108, 97, 119, 115, 46, 70, 110, 65, 99, 99, 101, 112, 116, 101, 100, 32, 108, 111, 111, 112, 46, 101, 120, 97, 109, 112, 108, 101, 47, 103, 48, 48, 56, 50, 55, 47, 108, 97, 119, 115, 46, 70, 110, 82, 101, 104, 101, 97, 114, 115, 101, 100, 32, 108, 111, 111, 112, 46, 101, 120, 97, 109, 112, 108, 101, 47, 103, 48, 48, 56, 50, 55, 47, 108, 97, 119, 115, 46, 70, 110, 68, 101, 118, 105, 99, 101, 115].map Char.ofNat
theorem said : Tryz.prog.initOrder = String.ofList (w1 ++ sp :: (w2 ++ sp :: (w3 ++ sp :: signs))) := by kernel_rfl
theorem words : ∃ rest, behindMainWord (wordsSigns Tryz.prog.initOrder.toList) = w3 :: rest := by
  rw [said, String.toList_ofList, word (by decide +kernel), word (by decide +kernel), word (by decide +kernel)]
  exact ⟨wordsSigns signs, by kernel_rfl⟩
theorem enters : Tryz.prog.mayEnter = true := by
  obtain ⟨rest, h⟩ := words
  unfold Program.mayEnter
  rw [h]
  kernel_rfl
theorem lifts : Tryz.prog.liftsFinal = false := by
  obtain ⟨rest, h⟩ := words
  unfold Program.liftsFinal Program.headLifts
  rw [h]
  kernel_rfl
theorem made : Tryz.prog.make = some .cut := by
  obtain ⟨rest, h⟩ := words
  unfold Program.make
  rw [h]
  kernel_rfl
end Go.Proofs.YtpkcmjnlnbddbaaGreatDoor.cells
