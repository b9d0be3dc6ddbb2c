/-
  ctrl.New at some of TopBlocks's texts. (Printed by tools/tkgen.py.)
-/
import Derived.Test.YthajddbhjdkmnaaGreatDoorTkN
set_option maxRecDepth 1000000
namespace Go.Proofs.YthajddbhjdkmnaaGreatDoor.Ev
open Go
theorem tk_ran39 : TkPt 39 := by unfold TkPt; kernel_rfl
theorem tk_ran40 : TkPt 40 := by unfold TkPt; kernel_rfl
theorem tk_ran41 : TkPt 41 := by unfold TkPt; kernel_rfl
theorem tk_ran42 : TkPt 42 := by unfold TkPt; kernel_rfl
theorem tk_ran43 : TkPt 43 := by unfold TkPt; kernel_rfl
theorem tk_ran44 : TkPt 44 := by unfold TkPt; kernel_rfl
theorem tk_ran45 : TkPt 45 := by unfold TkPt; kernel_rfl
theorem tk_ran46 : TkPt 46 := by unfold TkPt; kernel_rfl
theorem tk_ran47 : TkPt 47 := by unfold TkPt; kernel_rfl
theorem tk_ran48 : TkPt 48 := by unfold TkPt; kernel_rfl
theorem tk_ran49 : TkPt 49 := by unfold TkPt; kernel_rfl
theorem tk_ran50 : TkPt 50 := by unfold TkPt; kernel_rfl
theorem tk_ran51 : TkPt 51 := by unfold TkPt; kernel_rfl
theorem tk_pts3 {k : Nat} (h : 39 ≤ k) (h2 : k < 52) : TkPt k := by
  rcases (show k = 39 ∨ k = 40 ∨ k = 41 ∨ k = 42 ∨ k = 43 ∨ k = 44 ∨ k = 45 ∨ k = 46 ∨ k = 47 ∨ k = 48 ∨ k = 49 ∨ k = 50 ∨ k = 51 by omega) with rfl | rfl | rfl | rfl | rfl | rfl | rfl | rfl | rfl | rfl | rfl | rfl | rfl
  · exact tk_ran39
  · exact tk_ran40
  · exact tk_ran41
  · exact tk_ran42
  · exact tk_ran43
  · exact tk_ran44
  · exact tk_ran45
  · exact tk_ran46
  · exact tk_ran47
  · exact tk_ran48
  · exact tk_ran49
  · exact tk_ran50
  · exact tk_ran51
end Go.Proofs.YthajddbhjdkmnaaGreatDoor.Ev
