/-
  ctrl.New at some of TopBlocks's texts. (Printed by tools/tkgen.py.)
-/
import Derived.Test.YthajddbhjdkmnaaGreatDoorTkN
set_option maxRecDepth 1000000
namespace Go.Proofs.YthajddbhjdkmnaaGreatDoor.Ev
open Go
theorem tk_ran65 : TkPt 65 := by unfold TkPt; kernel_rfl
theorem tk_ran66 : TkPt 66 := by unfold TkPt; kernel_rfl
theorem tk_ran67 : TkPt 67 := by unfold TkPt; kernel_rfl
theorem tk_ran68 : TkPt 68 := by unfold TkPt; kernel_rfl
theorem tk_ran69 : TkPt 69 := by unfold TkPt; kernel_rfl
theorem tk_ran70 : TkPt 70 := by unfold TkPt; kernel_rfl
theorem tk_ran71 : TkPt 71 := by unfold TkPt; kernel_rfl
theorem tk_ran72 : TkPt 72 := by unfold TkPt; kernel_rfl
theorem tk_ran73 : TkPt 73 := by unfold TkPt; kernel_rfl
theorem tk_ran74 : TkPt 74 := by unfold TkPt; kernel_rfl
theorem tk_ran75 : TkPt 75 := by unfold TkPt; kernel_rfl
theorem tk_ran76 : TkPt 76 := by unfold TkPt; kernel_rfl
theorem tk_ran77 : TkPt 77 := by unfold TkPt; kernel_rfl
theorem tk_pts5 {k : Nat} (h : 65 ≤ k) (h2 : k < 78) : TkPt k := by
  rcases (show k = 65 ∨ k = 66 ∨ k = 67 ∨ k = 68 ∨ k = 69 ∨ k = 70 ∨ k = 71 ∨ k = 72 ∨ k = 73 ∨ k = 74 ∨ k = 75 ∨ k = 76 ∨ k = 77 by omega) with rfl | rfl | rfl | rfl | rfl | rfl | rfl | rfl | rfl | rfl | rfl | rfl | rfl
  · exact tk_ran65
  · exact tk_ran66
  · exact tk_ran67
  · exact tk_ran68
  · exact tk_ran69
  · exact tk_ran70
  · exact tk_ran71
  · exact tk_ran72
  · exact tk_ran73
  · exact tk_ran74
  · exact tk_ran75
  · exact tk_ran76
  · exact tk_ran77
end Go.Proofs.YthajddbhjdkmnaaGreatDoor.Ev
