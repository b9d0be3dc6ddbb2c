/-
  ctrl.New at some of TopBlocks's texts. (Printed by tools/tkgen.py.)
-/
import Derived.Test.YthajddbhjdkmnaaGreatDoorTkN
set_option maxRecDepth 1000000
namespace Go.Proofs.YthajddbhjdkmnaaGreatDoor.Ev
open Go
theorem tk_ran52 : TkPt 52 := by unfold TkPt; kernel_rfl
theorem tk_ran53 : TkPt 53 := by unfold TkPt; kernel_rfl
theorem tk_ran54 : TkPt 54 := by unfold TkPt; kernel_rfl
theorem tk_ran55 : TkPt 55 := by unfold TkPt; kernel_rfl
theorem tk_ran56 : TkPt 56 := by unfold TkPt; kernel_rfl
theorem tk_ran57 : TkPt 57 := by unfold TkPt; kernel_rfl
theorem tk_ran58 : TkPt 58 := by unfold TkPt; kernel_rfl
theorem tk_ran59 : TkPt 59 := by unfold TkPt; kernel_rfl
theorem tk_ran60 : TkPt 60 := by unfold TkPt; kernel_rfl
theorem tk_ran61 : TkPt 61 := by unfold TkPt; kernel_rfl
theorem tk_ran62 : TkPt 62 := by unfold TkPt; kernel_rfl
theorem tk_ran63 : TkPt 63 := by unfold TkPt; kernel_rfl
theorem tk_ran64 : TkPt 64 := by unfold TkPt; kernel_rfl
theorem tk_pts4 {k : Nat} (h : 52 ≤ k) (h2 : k < 65) : TkPt k := by
  rcases (show k = 52 ∨ k = 53 ∨ k = 54 ∨ k = 55 ∨ k = 56 ∨ k = 57 ∨ k = 58 ∨ k = 59 ∨ k = 60 ∨ k = 61 ∨ k = 62 ∨ k = 63 ∨ k = 64 by omega) with rfl | rfl | rfl | rfl | rfl | rfl | rfl | rfl | rfl | rfl | rfl | rfl | rfl
  · exact tk_ran52
  · exact tk_ran53
  · exact tk_ran54
  · exact tk_ran55
  · exact tk_ran56
  · exact tk_ran57
  · exact tk_ran58
  · exact tk_ran59
  · exact tk_ran60
  · exact tk_ran61
  · exact tk_ran62
  · exact tk_ran63
  · exact tk_ran64
end Go.Proofs.YthajddbhjdkmnaaGreatDoor.Ev
