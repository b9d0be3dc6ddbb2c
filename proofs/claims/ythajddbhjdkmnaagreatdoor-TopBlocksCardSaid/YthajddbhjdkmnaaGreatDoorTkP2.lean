/-
  ctrl.New at some of TopBlocks's texts. (Printed by tools/tkgen.py.)
-/
import Derived.Test.YthajddbhjdkmnaaGreatDoorTkN
set_option maxRecDepth 1000000
namespace Go.Proofs.YthajddbhjdkmnaaGreatDoor.Ev
open Go
theorem tk_ran26 : TkPt 26 := by unfold TkPt; kernel_rfl
theorem tk_ran27 : TkPt 27 := by unfold TkPt; kernel_rfl
theorem tk_ran28 : TkPt 28 := by unfold TkPt; kernel_rfl
theorem tk_ran29 : TkPt 29 := by unfold TkPt; kernel_rfl
theorem tk_ran30 : TkPt 30 := by unfold TkPt; kernel_rfl
theorem tk_ran31 : TkPt 31 := by unfold TkPt; kernel_rfl
theorem tk_ran32 : TkPt 32 := by unfold TkPt; kernel_rfl
theorem tk_ran33 : TkPt 33 := by unfold TkPt; kernel_rfl
theorem tk_ran34 : TkPt 34 := by unfold TkPt; kernel_rfl
theorem tk_ran35 : TkPt 35 := by unfold TkPt; kernel_rfl
theorem tk_ran36 : TkPt 36 := by unfold TkPt; kernel_rfl
theorem tk_ran37 : TkPt 37 := by unfold TkPt; kernel_rfl
theorem tk_ran38 : TkPt 38 := by unfold TkPt; kernel_rfl
theorem tk_pts2 {k : Nat} (h : 26 ≤ k) (h2 : k < 39) : TkPt k := by
  rcases (show k = 26 ∨ k = 27 ∨ k = 28 ∨ k = 29 ∨ k = 30 ∨ k = 31 ∨ k = 32 ∨ k = 33 ∨ k = 34 ∨ k = 35 ∨ k = 36 ∨ k = 37 ∨ k = 38 by omega) with rfl | rfl | rfl | rfl | rfl | rfl | rfl | rfl | rfl | rfl | rfl | rfl | rfl
  · exact tk_ran26
  · exact tk_ran27
  · exact tk_ran28
  · exact tk_ran29
  · exact tk_ran30
  · exact tk_ran31
  · exact tk_ran32
  · exact tk_ran33
  · exact tk_ran34
  · exact tk_ran35
  · exact tk_ran36
  · exact tk_ran37
  · exact tk_ran38
end Go.Proofs.YthajddbhjdkmnaaGreatDoor.Ev
