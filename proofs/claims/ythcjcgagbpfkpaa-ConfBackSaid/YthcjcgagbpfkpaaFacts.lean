/- The closed facts on the translated program that every row of this seat asks: each reckoned alone, the head's words out of its signs. -/
import Derived.Test.YthcjcgagbpfkpaaRows
import Derived.ProofKit
namespace Go.Proofs.Ythcjcgagbpfkpaa
open Go.ChangeShapes Go.WideShapes Go.ChangeAt Go.RowKit

def headSigns : List Nat := [104, 97, 114, 110, 101, 115, 115, 32, 52, 52, 54, 101, 101, 48, 99, 48, 98, 51, 101, 53, 53, 48, 48, 101, 52, 49, 101, 55, 50, 51, 101, 97, 57, 52, 51, 48, 101, 97, 49, 56, 99, 53, 51, 99, 52, 53, 57, 99, 101, 50, 98, 52, 52, 48, 97, 98, 101, 53, 97, 56, 98, 49, 102, 55, 97, 52, 101, 56, 55, 53, 57, 101, 32, 99, 117, 116, 32, 97, 116, 32, 99, 111, 110, 99, 111, 117, 114, 115, 101, 47, 99, 111, 110, 99, 111, 117, 114, 115, 101, 108, 97, 119, 51, 52, 46, 67, 97, 108, 108, 80, 117, 116, 115, 32, 99, 111, 110, 99, 111, 117, 114, 115, 101, 47, 99, 111, 110, 99, 111, 117, 114, 115, 101, 108, 97, 119, 50, 48, 46, 68, 105, 99, 101, 83, 116, 101, 112, 115, 32, 99, 111, 110, 99, 111, 117, 114, 115, 101, 47, 99, 111, 110, 99, 111, 117, 114, 115, 101, 108, 97, 119, 50, 48, 46, 68, 105, 99, 101, 77, 105, 120, 101, 115, 32, 99, 111, 110, 99, 111, 117, 114, 115, 101, 47, 99, 111, 110, 99, 111, 117, 114, 115, 101, 108, 97, 119, 50, 48, 46, 68, 105, 99, 101, 79, 114, 100, 101, 114, 32, 99, 111, 110, 99, 111, 117, 114, 115, 101, 47, 99, 111, 110, 99, 111, 117, 114, 115, 101, 108, 97, 119, 48, 50, 46, 83, 112, 97, 110, 84, 97, 107, 101, 115, 32, 99, 111, 110, 99, 111, 117, 114, 115, 101, 47, 99, 111, 110, 99, 111, 117, 114, 115, 101, 108, 97, 119, 51, 55, 46, 67, 111, 110, 102, 66, 121, 116, 101, 115, 32, 99, 111, 110, 99, 111, 117, 114, 115, 101, 47, 99, 111, 110, 99, 111, 117, 114, 115, 101, 108, 97, 119, 50, 49, 46, 77, 97, 99, 83, 116, 101, 112, 115, 32, 99, 111, 110, 99, 111, 117, 114, 115, 101, 47, 99, 111, 110, 99, 111, 117, 114, 115, 101, 108, 97, 119, 51, 55, 46, 67, 111, 110, 102, 66, 97, 99, 107, 32, 99, 111, 110, 99, 111, 117, 114, 115, 101, 47, 99, 111, 110, 99, 111, 117, 114, 115, 101, 108, 97, 119, 50, 49, 46, 77, 97, 99, 70, 114, 101, 115, 104, 32, 99, 111, 110, 99, 111, 117, 114, 115, 101, 47, 99, 111, 110, 99, 111, 117, 114, 115, 101, 108, 97, 119, 50, 49, 46, 77, 97, 99, 78, 111, 110, 101, 32, 99, 111, 110, 99, 111, 117, 114, 115, 101, 47, 99, 111, 110, 99, 111, 117, 114, 115, 101, 108, 97, 119, 50, 50, 46, 72, 101, 108, 108, 111, 84, 97, 107, 101, 115, 32, 99, 111, 110, 99, 111, 117, 114, 115, 101, 47, 99, 111, 110, 99, 111, 117, 114, 115, 101, 108, 97, 119, 50, 50, 46, 72, 101, 108, 108, 111, 66, 97, 99, 107, 32, 99, 111, 110, 99, 111, 117, 114, 115, 101, 47, 99, 111, 110, 99, 111, 117, 114, 115, 101, 108, 97, 119, 48, 50, 46, 83, 112, 97, 110, 66, 97, 99, 107, 32, 99, 111, 110, 99, 111, 117, 114, 115, 101, 47, 99, 111, 110, 99, 111, 117, 114, 115, 101, 108, 97, 119, 48, 50, 46, 83, 112, 97, 110, 78, 111, 110, 101, 32, 99, 111, 110, 99, 111, 117, 114, 115, 101, 47, 99, 111, 110, 99, 111, 117, 114, 115, 101, 108, 97, 119, 51, 55, 46, 67, 111, 110, 102, 77, 97, 121, 32, 99, 111, 110, 99, 111, 117, 114, 115, 101, 47, 99, 111, 110, 99, 111, 117, 114, 115, 101, 108, 97, 119, 48, 50, 46, 83, 112, 97, 110, 82, 101, 97, 100, 115, 32, 99, 111, 110, 99, 111, 117, 114, 115, 101, 47, 99, 111, 110, 99, 111, 117, 114, 115, 101, 108, 97, 119, 51, 52, 46, 67, 97, 108, 108, 84, 97, 107, 101, 115, 32, 99, 111, 110, 99, 111, 117, 114, 115, 101, 47, 99, 111, 110, 99, 111, 117, 114, 115, 101, 108, 97, 119, 51, 52, 46, 67, 97, 108, 108, 66, 97, 99, 107, 32, 99, 111, 110, 99, 111, 117, 114, 115, 101, 47, 99, 111, 110, 99, 111, 117, 114, 115, 101, 108, 97, 119, 51, 52, 46, 67, 97, 108, 108, 79, 110, 101, 32, 99, 111, 110, 99, 111, 117, 114, 115, 101, 47, 99, 111, 110, 99, 111, 117, 114, 115, 101, 108, 97, 119, 50, 50, 46, 72, 101, 108, 108, 111, 86, 101, 114, 105, 102, 105, 101, 115]
theorem head_toList : Try.prog.initOrder.toList = headSigns.map Char.ofNat := by
  have h : Try.prog.initOrder = String.ofList (headSigns.map Char.ofNat) := by kernel_rfl
  rw [h, String.toList_ofList]

theorem pf_own : ownKnob Try.prog.godebug = none := by kernel_rfl
theorem pf_laidOut : laidOutB Try.prog = true := by kernel_rfl
theorem pf_mapsRowed : mapsRowed Try.prog = true := by kernel_rfl
theorem pf_stops : (Try.prog.stops == []) = true := by kernel_rfl
theorem pf_stopKnobs : (Try.prog.stopKnobs == []) = true := by kernel_rfl
theorem pf_stopsHeard : Try.prog.stopsHeard = true := by kernel_rfl
theorem pf_plainKeys : Try.prog.plainKeys = true := by kernel_rfl
theorem pf_laysLater : Try.prog.laysLater = false := by kernel_rfl
theorem pf_bearsReflect : Try.prog.bearsReflect = false := by kernel_rfl
theorem pf_doorFits : Try.prog.doorFits [] = true := by kernel_rfl

theorem pf_strip : (stripLifts liftWords (behindMainWord (wordsSigns (headSigns.map Char.ofNat)))).1 = [] := by kernel_rfl
theorem pf_cut : (stripLifts liftWords (behindMainWord (wordsSigns (headSigns.map Char.ofNat)))).2.head? = some "cut".toList := by kernel_rfl
def headRest : List (List Char) := (behindMainWord (wordsSigns (headSigns.map Char.ofNat))).drop 2
theorem head_words : behindMainWord (wordsSigns (headSigns.map Char.ofNat)) = "cut".toList :: "at".toList :: headRest := by kernel_rfl
theorem pf_mayEnter : Try.prog.mayEnter = true := by
  unfold Program.mayEnter
  rw [head_toList, pf_laysLater, pf_bearsReflect, head_words]
  kernel_rfl
theorem pf_headLifts : Try.prog.headLifts = [] := by
  unfold Program.headLifts
  rw [head_toList, head_words]
  kernel_rfl
theorem pf_liftsFinal : (false == Try.prog.liftsFinal) = true := by
  unfold Program.liftsFinal
  rw [head_toList, pf_headLifts, head_words]
  kernel_rfl
theorem pf_make : (Try.prog.make == some .cut) = true := by
  unfold Program.make
  rw [head_toList, pf_headLifts, head_words]
  kernel_rfl
theorem and_mk {a b : Bool} (ha : a = true) (hb : b = true) : (a && b) = true := by rw [ha, hb]; rfl
end Go.Proofs.Ythcjcgagbpfkpaa
