/-
  The facts of the head of the program's form that every row asks for. By a small program of mine (wip/tools/mk.py): the head's signs are written out by their numbers.
-/
import Derived.Test.YtefghfgmkndikaaRows
import Derived.ProofKit
set_option linter.unusedSimpArgs false
set_option linter.unusedVariables false
namespace Go.AX
open Go
theorem make_of {P : Program} {l : List Char} {rest : List (List Char)} (h : P.initOrder.toList = l) (h2 : behindMainWord (wordsSigns l) = "cut".toList :: rest) : P.make = some Make.cut := by
  unfold Program.make; rw [h, h2]; rfl
theorem lifts_of {P : Program} {l : List Char} {rest : List (List Char)} (h : P.initOrder.toList = l) (h2 : behindMainWord (wordsSigns l) = "cut".toList :: rest) : P.liftsFinal = false := by
  unfold Program.liftsFinal Program.headLifts; rw [h, h2]; rfl
theorem enter_of {P : Program} {l : List Char} {rest : List (List Char)} (h : P.initOrder.toList = l) (h2 : behindMainWord (wordsSigns l) = "cut".toList :: rest) (h3 : P.laysLater = false) (h4 : P.bearsReflect = false) (h5 : P.doorFits [] = true) : P.mayEnter = true := by
  have e : stripLifts liftWords ("cut".toList :: rest) = ([], "cut".toList :: rest) := rfl
  unfold Program.mayEnter; rw [h, h2]; simp only [e, h3, h4, h5]; rfl
end Go.AX
namespace Go.Proofs.Ytefghfgmkndikaa
open Go Go.AX Go.ChangeShapes Go.WideShapes Go.ChangeAt Go.RowKit
set_option maxRecDepth 100000
def headSigns : List Char := [104, 97, 114, 110, 101, 115, 115, 32, 49, 52, 53, 50, 100, 54, 52, 101, 48, 100, 97, 54, 53, 102, 102, 102, 102, 55, 50, 97, 56, 51, 56, 100, 53, 51, 49, 99, 57, 57, 100, 101, 51, 54, 100, 100, 49, 99, 53, 53, 56, 100, 49, 102, 57, 51, 98, 53, 99, 97, 97, 53, 57, 98, 50, 101, 50, 98, 51, 101, 48, 55, 97, 99, 32, 99, 117, 116, 32, 97, 116, 32, 97, 110, 116, 105, 112, 111, 100, 101, 47, 97, 110, 116, 105, 112, 111, 100, 101, 108, 97, 119, 50, 54, 46, 78, 101, 116, 65, 108, 108, 32, 97, 110, 116, 105, 112, 111, 100, 101, 47, 97, 110, 116, 105, 112, 111, 100, 101, 108, 97, 119, 50, 54, 46, 78, 101, 116, 70, 117, 108, 108, 32, 97, 110, 116, 105, 112, 111, 100, 101, 47, 97, 110, 116, 105, 112, 111, 100, 101, 108, 97, 119, 50, 54, 46, 78, 101, 116, 79, 114, 100, 101, 114, 32, 97, 110, 116, 105, 112, 111, 100, 101, 47, 97, 110, 116, 105, 112, 111, 100, 101, 108, 97, 119, 56, 46, 77, 118, 99, 99, 80, 97, 115, 116, 32, 97, 110, 116, 105, 112, 111, 100, 101, 47, 97, 110, 116, 105, 112, 111, 100, 101, 108, 97, 119, 56, 46, 77, 118, 99, 99, 84, 117, 114, 110, 115, 32, 97, 110, 116, 105, 112, 111, 100, 101, 47, 97, 110, 116, 105, 112, 111, 100, 101, 108, 97, 119, 56, 46, 77, 118, 99, 99, 65, 112, 97, 114, 116, 32, 97, 110, 116, 105, 112, 111, 100, 101, 47, 97, 110, 116, 105, 112, 111, 100, 101, 108, 97, 119, 56, 46, 77, 118, 99, 99, 70, 114, 101, 101, 32, 97, 110, 116, 105, 112, 111, 100, 101, 47, 97, 110, 116, 105, 112, 111, 100, 101, 108, 97, 119, 56, 46, 77, 118, 99, 99, 84, 114, 105, 109, 115, 32, 97, 110, 116, 105, 112, 111, 100, 101, 47, 97, 110, 116, 105, 112, 111, 100, 101, 108, 97, 119, 56, 46, 77, 118, 99, 99, 83, 99, 97, 110, 115, 32, 97, 110, 116, 105, 112, 111, 100, 101, 47, 97, 110, 116, 105, 112, 111, 100, 101, 108, 97, 119, 56, 46, 77, 118, 99, 99, 65, 108, 108, 32, 97, 110, 116, 105, 112, 111, 100, 101, 47, 97, 110, 116, 105, 112, 111, 100, 101, 108, 97, 119, 56, 46, 77, 118, 99, 99, 65, 110, 121, 32, 97, 110, 116, 105, 112, 111, 100, 101, 47, 97, 110, 116, 105, 112, 111, 100, 101, 108, 97, 119, 50, 51, 46, 80, 97, 114, 116, 65, 108, 108, 32, 97, 110, 116, 105, 112, 111, 100, 101, 47, 97, 110, 116, 105, 112, 111, 100, 101, 108, 97, 119, 50, 51, 46, 80, 97, 114, 116, 65, 110, 121, 32, 97, 110, 116, 105, 112, 111, 100, 101, 47, 97, 110, 116, 105, 112, 111, 100, 101, 108, 97, 119, 50, 51, 46, 80, 97, 114, 116, 82, 101, 97, 100, 115, 32, 97, 110, 116, 105, 112, 111, 100, 101, 47, 97, 110, 116, 105, 112, 111, 100, 101, 108, 97, 119, 50, 51, 46, 80, 97, 114, 116, 67, 108, 111, 115, 101, 115, 32, 97, 110, 116, 105, 112, 111, 100, 101, 47, 97, 110, 116, 105, 112, 111, 100, 101, 108, 97, 119, 50, 51, 46, 80, 97, 114, 116, 68, 101, 99, 105, 100, 101, 115, 32, 97, 110, 116, 105, 112, 111, 100, 101, 47, 97, 110, 116, 105, 112, 111, 100, 101, 108, 97, 119, 50, 51, 46, 80, 97, 114, 116, 79, 110, 99, 101, 32, 97, 110, 116, 105, 112, 111, 100, 101, 47, 97, 110, 116, 105, 112, 111, 100, 101, 108, 97, 119, 50, 51, 46, 80, 97, 114, 116, 76, 111, 99, 107, 115, 32, 97, 110, 116, 105, 112, 111, 100, 101, 47, 97, 110, 116, 105, 112, 111, 100, 101, 108, 97, 119, 50, 51, 46, 80, 97, 114, 116, 69, 112, 111, 99, 104, 115, 32, 97, 110, 116, 105, 112, 111, 100, 101, 47, 97, 110, 116, 105, 112, 111, 100, 101, 108, 97, 119, 50, 51, 46, 80, 97, 114, 116, 83, 116, 111, 112, 115, 32, 97, 110, 116, 105, 112, 111, 100, 101, 47, 97, 110, 116, 105, 112, 111, 100, 101, 108, 97, 119, 50, 51, 46, 80, 97, 114, 116, 83, 101, 116, 116, 108, 101, 100].map Char.ofNat
theorem head1 : Try.prog.initOrder = String.ofList headSigns := by kernel_rfl
theorem head2 : Try.prog.initOrder.toList = headSigns := by rw [head1, String.toList_ofList]
theorem head0 : (behindMainWord (wordsSigns headSigns)).head? = some "cut".toList := by kernel_rfl
theorem headR : ∃ rest, behindMainWord (wordsSigns headSigns) = "cut".toList :: rest := by
  have := head0
  generalize behindMainWord (wordsSigns headSigns) = l at this
  cases l with
  | nil => cases this
  | cons a l => cases this; exact ⟨l, rfl⟩
theorem head3 : Try.prog.mayEnter = true := by
  obtain ⟨r, hr⟩ := headR
  exact enter_of head2 hr (by kernel_rfl) (by kernel_rfl) (by kernel_rfl)
theorem head4 : Try.prog.liftsFinal = false := by
  obtain ⟨r, hr⟩ := headR
  exact lifts_of head2 hr
theorem head5 : Try.prog.make = some Make.cut := by
  obtain ⟨r, hr⟩ := headR
  exact make_of head2 hr
end Go.Proofs.Ytefghfgmkndikaa
