/-
  ctrl.New at some of TopBlocks's texts. (Printed by tools/tkgen.py.)
-/
import Derived.Test.YthajddbhjdkmnaaGreatDoorTkN
set_option maxRecDepth 1000000
namespace Go.Proofs.YthajddbhjdkmnaaGreatDoor.Ev
open Go
theorem tk_ran78 : TkPt 78 := by unfold TkPt; kernel_rfl
theorem tk_ran79 : TkPt 79 := by unfold TkPt; kernel_rfl
theorem tk_ran80 : TkPt 80 := by unfold TkPt; kernel_rfl
theorem tk_ran81 : TkPt 81 := by unfold TkPt; kernel_rfl
theorem tk_ran82 : TkPt 82 := by unfold TkPt; kernel_rfl
theorem tk_ran83 : TkPt 83 := by unfold TkPt; kernel_rfl
theorem tk_ran84 : TkPt 84 := by unfold TkPt; kernel_rfl
theorem tk_ran85 : TkPt 85 := by unfold TkPt; kernel_rfl
theorem tk_ran86 : TkPt 86 := by unfold TkPt; kernel_rfl
theorem tk_ran87 : TkPt 87 := by unfold TkPt; kernel_rfl
theorem tk_ran88 : TkPt 88 := by unfold TkPt; kernel_rfl
theorem tk_ran89 : TkPt 89 := by unfold TkPt; kernel_rfl
theorem tk_ran90 : TkPt 90 := by unfold TkPt; kernel_rfl
theorem tk_pts6 {k : Nat} (h : 78 ≤ k) (h2 : k < 91) : TkPt k := by
  rcases (show k = 78 ∨ k = 79 ∨ k = 80 ∨ k = 81 ∨ k = 82 ∨ k = 83 ∨ k = 84 ∨ k = 85 ∨ k = 86 ∨ k = 87 ∨ k = 88 ∨ k = 89 ∨ k = 90 by omega) with rfl | rfl | rfl | rfl | rfl | rfl | rfl | rfl | rfl | rfl | rfl | rfl | rfl
  · exact tk_ran78
  · exact tk_ran79
  · exact tk_ran80
  · exact tk_ran81
  · exact tk_ran82
  · exact tk_ran83
  · exact tk_ran84
  · exact tk_ran85
  · exact tk_ran86
  · exact tk_ran87
  · exact tk_ran88
  · exact tk_ran89
  · exact tk_ran90
end Go.Proofs.YthajddbhjdkmnaaGreatDoor.Ev
