/-
  ctrl.New at some of TopBlocks's texts. (Printed by tools/tkgen.py.)
-/
import Derived.Test.YthajddbhjdkmnaaGreatDoorTkN
set_option maxRecDepth 1000000
namespace Go.Proofs.YthajddbhjdkmnaaGreatDoor.Ev
open Go
theorem tk_ran91 : TkPt 91 := by unfold TkPt; kernel_rfl
theorem tk_ran92 : TkPt 92 := by unfold TkPt; kernel_rfl
theorem tk_ran93 : TkPt 93 := by unfold TkPt; kernel_rfl
theorem tk_ran94 : TkPt 94 := by unfold TkPt; kernel_rfl
theorem tk_ran95 : TkPt 95 := by unfold TkPt; kernel_rfl
theorem tk_ran96 : TkPt 96 := by unfold TkPt; kernel_rfl
theorem tk_ran97 : TkPt 97 := by unfold TkPt; kernel_rfl
theorem tk_ran98 : TkPt 98 := by unfold TkPt; kernel_rfl
theorem tk_ran99 : TkPt 99 := by unfold TkPt; kernel_rfl
theorem tk_pts7 {k : Nat} (h : 91 ≤ k) (h2 : k < 100) : TkPt k := by
  rcases (show k = 91 ∨ k = 92 ∨ k = 93 ∨ k = 94 ∨ k = 95 ∨ k = 96 ∨ k = 97 ∨ k = 98 ∨ k = 99 by omega) with rfl | rfl | rfl | rfl | rfl | rfl | rfl | rfl | rfl
  · exact tk_ran91
  · exact tk_ran92
  · exact tk_ran93
  · exact tk_ran94
  · exact tk_ran95
  · exact tk_ran96
  · exact tk_ran97
  · exact tk_ran98
  · exact tk_ran99
end Go.Proofs.YthajddbhjdkmnaaGreatDoor.Ev
