/-
  ctrl.New at some of TopBlocks's texts. (Printed by tools/tkgen.py.)
-/
import Derived.Test.YthajddbhjdkmnaaGreatDoorTkN
set_option maxRecDepth 1000000
namespace Go.Proofs.YthajddbhjdkmnaaGreatDoor.Ev
open Go
theorem tk_ran0 : TkPt 0 := by unfold TkPt; kernel_rfl
theorem tk_ran1 : TkPt 1 := by unfold TkPt; kernel_rfl
theorem tk_ran2 : TkPt 2 := by unfold TkPt; kernel_rfl
theorem tk_ran3 : TkPt 3 := by unfold TkPt; kernel_rfl
theorem tk_ran4 : TkPt 4 := by unfold TkPt; kernel_rfl
theorem tk_ran5 : TkPt 5 := by unfold TkPt; kernel_rfl
theorem tk_ran6 : TkPt 6 := by unfold TkPt; kernel_rfl
theorem tk_ran7 : TkPt 7 := by unfold TkPt; kernel_rfl
theorem tk_ran8 : TkPt 8 := by unfold TkPt; kernel_rfl
theorem tk_ran9 : TkPt 9 := by unfold TkPt; kernel_rfl
theorem tk_ran10 : TkPt 10 := by unfold TkPt; kernel_rfl
theorem tk_ran11 : TkPt 11 := by unfold TkPt; kernel_rfl
theorem tk_ran12 : TkPt 12 := by unfold TkPt; kernel_rfl
theorem tk_pts0 {k : Nat} (h : 0 ≤ k) (h2 : k < 13) : TkPt k := by
  rcases (show k = 0 ∨ k = 1 ∨ k = 2 ∨ k = 3 ∨ k = 4 ∨ k = 5 ∨ k = 6 ∨ k = 7 ∨ k = 8 ∨ k = 9 ∨ k = 10 ∨ k = 11 ∨ k = 12 by omega) with rfl | rfl | rfl | rfl | rfl | rfl | rfl | rfl | rfl | rfl | rfl | rfl | rfl
  · exact tk_ran0
  · exact tk_ran1
  · exact tk_ran2
  · exact tk_ran3
  · exact tk_ran4
  · exact tk_ran5
  · exact tk_ran6
  · exact tk_ran7
  · exact tk_ran8
  · exact tk_ran9
  · exact tk_ran10
  · exact tk_ran11
  · exact tk_ran12
end Go.Proofs.YthajddbhjdkmnaaGreatDoor.Ev
