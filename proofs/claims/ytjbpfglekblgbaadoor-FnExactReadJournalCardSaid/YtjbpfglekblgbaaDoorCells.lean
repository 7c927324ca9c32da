/- The cells of a row that read the program's words: it may be entered, its end is not lifted, it is a cut program. Own work. -/
import Derived.Test.YtjbpfglekblgbaaDoorRows
import Derived.JoinedOf
import Derived.RowKit
set_option linter.unusedVariables false
set_option maxRecDepth 100000
namespace Go.Proofs.YtjbpfglekblgbaaDoor.cells
open Go.ChangeShapes Go.WideShapes Go.RowKit
open Go.Proofs
def sp : Char := Char.ofNat 32
theorem word {w r : List Char} (h : sp ∉ w) : wordsSigns (w ++ sp :: r) = w :: wordsSigns r := by
  induction w with
  | nil => rfl
  | cons c w ih =>
    have hc : c ≠ sp := fun e => h (by simp [e])
    have ih := ih (fun e => h (by simp [e]))
    rw [List.cons_append]
    conv => lhs; unfold wordsSigns
    split
    · rename_i e; cases e
    · rename_i e; cases e; exact absurd rfl hc
    · rename_i e; cases e; rw [ih]
def w1 : List Char := [104, 97, 114, 110, 101, 115, 115].map Char.ofNat
def w2 : List Char := [54, 102, 53, 51, 51, 55, 48, 97, 49, 49, 56, 53, 97, 57, 54, 99, 53, 102, 57, 56, 52, 98, 55, 48, 57, 50, 49, 100, 52, 100, 56, 51, 54, 100, 48, 57, 50, 102, 54, 102, 51, 53, 102, 53, 101, 54, 50, 52, 53, 100, 101, 53, 54, 102, 97, 55, 55, 49, 49, 99, 48, 52, 53, 52].map Char.ofNat
def w3 : List Char := [99, 117, 116].map Char.ofNat
def signs : List Char := [97, 116, 32, 108, 111, 111, 112, 46, 101, 120, 97, 109, 112, 108, 101, 47, 103, 48, 48, 56, 50, 55, 47, 108, 97, 119, 115, 46, 70, 110, 69, 120, 97, 99, 116, 70, 111, 114, 109, 97, 116, 69, 110, 116, 114, 121, 32, 108, 111, 111, 112, 46, 101, 120, 97, 109, 112, 108, 101, 47, 103, 48, 48, 56, 50, 55, 47, 108, 97, 119, 115, 46, 70, 110, 69, 120, 97, 99, 116, 80, 97, 114, 115, 101, 69, 110, 116, 114, 121, 32, 108, 111, 111, 112, 46, 101, 120, 97, 109, 112, 108, 101, 47, 103, 48, 48, 56, 50, 55, 47, 108, 97, 119, 115, 46, 70, 110, 69, 110, 116, 114, 105, 101, 115, 32, 108, 111, 111, 112, 46, 101, 120, 97, 109, 112, 108, 101, 47, 103, 48, 48, 56, 50, 55, 47, 108, 97, 119, 115, 46, 70, 110, 69, 120, 97, 99, 116, 65, 115, 115, 117, 109, 112, 116, 105, 111, 110, 115, 79, 102, 32, 108, 111, 111, 112, 46, 101, 120, 97, 109, 112, 108, 101, 47, 103, 48, 48, 56, 50, 55, 47, 108, 97, 119, 115, 46, 70, 110, 69, 120, 97, 99, 116, 82, 101, 97, 100, 74, 111, 117, 114, 110, 97, 108, 32, 108, 111, 111, 112, 46, 101, 120, 97, 109, 112, 108, 101, 47, 103, 48, 48, 56, 50, 55, 47, 108, 97, 119, 115, 46, 70, 110, 69, 120, 97, 99, 116, 70, 111, 114, 109, 97, 116, 83, 116, 97, 116, 101].map Char.ofNat
theorem said : Tryd.prog.initOrder = String.ofList (w1 ++ sp :: (w2 ++ sp :: (w3 ++ sp :: signs))) := by kernel_rfl
theorem words : ∃ rest, behindMainWord (wordsSigns Tryd.prog.initOrder.toList) = w3 :: rest := by
  rw [said, String.toList_ofList, word (by decide +kernel), word (by decide +kernel), word (by decide +kernel)]
  exact ⟨wordsSigns signs, by kernel_rfl⟩
theorem enters : Tryd.prog.mayEnter = true := by
  obtain ⟨rest, h⟩ := words
  unfold Program.mayEnter
  rw [h]
  kernel_rfl
theorem lifts : Tryd.prog.liftsFinal = false := by
  obtain ⟨rest, h⟩ := words
  unfold Program.liftsFinal Program.headLifts
  rw [h]
  kernel_rfl
theorem made : Tryd.prog.make = some .cut := by
  obtain ⟨rest, h⟩ := words
  unfold Program.make
  rw [h]
  kernel_rfl
end Go.Proofs.YtjbpfglekblgbaaDoor.cells
