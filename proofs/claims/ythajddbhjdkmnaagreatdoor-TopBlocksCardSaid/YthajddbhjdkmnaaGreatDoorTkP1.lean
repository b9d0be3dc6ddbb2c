/-
  ctrl.New at some of TopBlocks's texts. (Printed by tools/tkgen.py.)
-/
import Derived.Test.YthajddbhjdkmnaaGreatDoorTkN
set_option maxRecDepth 1000000
namespace Go.Proofs.YthajddbhjdkmnaaGreatDoor.Ev
open Go
theorem tk_ran13 : TkPt 13 := by unfold TkPt; kernel_rfl
theorem tk_ran14 : TkPt 14 := by unfold TkPt; kernel_rfl
theorem tk_ran15 : TkPt 15 := by unfold TkPt; kernel_rfl
theorem tk_ran16 : TkPt 16 := by unfold TkPt; kernel_rfl
theorem tk_ran17 : TkPt 17 := by unfold TkPt; kernel_rfl
theorem tk_ran18 : TkPt 18 := by unfold TkPt; kernel_rfl
theorem tk_ran19 : TkPt 19 := by unfold TkPt; kernel_rfl
theorem tk_ran20 : TkPt 20 := by unfold TkPt; kernel_rfl
theorem tk_ran21 : TkPt 21 := by unfold TkPt; kernel_rfl
theorem tk_ran22 : TkPt 22 := by unfold TkPt; kernel_rfl
theorem tk_ran23 : TkPt 23 := by unfold TkPt; kernel_rfl
theorem tk_ran24 : TkPt 24 := by unfold TkPt; kernel_rfl
theorem tk_ran25 : TkPt 25 := by unfold TkPt; kernel_rfl
theorem tk_pts1 {k : Nat} (h : 13 ≤ k) (h2 : k < 26) : TkPt k := by
  rcases (show k = 13 ∨ k = 14 ∨ k = 15 ∨ k = 16 ∨ k = 17 ∨ k = 18 ∨ k = 19 ∨ k = 20 ∨ k = 21 ∨ k = 22 ∨ k = 23 ∨ k = 24 ∨ k = 25 by omega) with rfl | rfl | rfl | rfl | rfl | rfl | rfl | rfl | rfl | rfl | rfl | rfl | rfl
  · exact tk_ran13
  · exact tk_ran14
  · exact tk_ran15
  · exact tk_ran16
  · exact tk_ran17
  · exact tk_ran18
  · exact tk_ran19
  · exact tk_ran20
  · exact tk_ran21
  · exact tk_ran22
  · exact tk_ran23
  · exact tk_ran24
  · exact tk_ran25
end Go.Proofs.YthajddbhjdkmnaaGreatDoor.Ev
