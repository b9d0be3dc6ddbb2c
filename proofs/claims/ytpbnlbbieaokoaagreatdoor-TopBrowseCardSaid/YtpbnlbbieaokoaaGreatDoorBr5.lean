/-
  ctrl.Do at some places. (Printed by tools/mpgen.py.)
-/
import Derived.Test.YtpbnlbbieaokoaaGreatDoorBrT
import Derived.Test.YtpbnlbbieaokoaaGreatDoorVa
set_option maxRecDepth 1000000
namespace Go.Proofs.YtpbnlbbieaokoaaGreatDoor.Ev
open Go
theorem qm80 : mpB Tryz.prog toldV 17 qE80 [25, 61, 32, 41, 50, 48, 59, 63, 65, 67, 69, 71, 98, 105, 103, 89, 203] = true := by kernel_rfl
theorem qm81 : mpB Tryz.prog toldV 17 qE81 [23, 59, 30, 39, 48, 46, 57, 98, 100, 102, 115, 110, 69, 75, 82, 80, 87] = true := by kernel_rfl
theorem qm82 : mpB Tryz.prog toldV 17 qE82 [24, 60, 31, 40, 49, 47, 58, 101, 103, 105, 122, 117, 72, 78, 85, 83, 90] = true := by kernel_rfl
theorem qm83 : mpB Tryz.prog toldV 17 qE83 [24, 60, 31, 40, 49, 47, 58, 101, 103, 105, 115, 117, 72, 78, 85, 83, 90] = true := by kernel_rfl
theorem qm84 : mpB Tryz.prog toldV 17 qE84 [24, 60, 31, 40, 49, 47, 58, 101, 103, 105, 115, 117, 72, 78, 85, 83, 90] = true := by kernel_rfl
theorem qm85 : mpB Tryz.prog toldV 17 qE85 [24, 60, 31, 40, 49, 47, 58, 100, 102, 104, 119, 114, 71, 77, 84, 82, 89] = true := by kernel_rfl
theorem qm86 : mpB Tryz.prog toldV 17 qE86 [24, 60, 31, 40, 49, 47, 58, 101, 103, 105, 122, 117, 72, 78, 85, 83, 90] = true := by kernel_rfl
theorem qm87 : mpB Tryz.prog toldV 17 qE87 [24, 60, 31, 40, 49, 47, 58, 101, 103, 105, 115, 117, 72, 78, 85, 83, 90] = true := by kernel_rfl
theorem qm88 : mpB Tryz.prog toldV 17 qE88 [24, 60, 31, 40, 49, 47, 58, 101, 103, 105, 115, 117, 72, 78, 85, 83, 90] = true := by kernel_rfl
theorem qm89 : mpB Tryz.prog toldV 17 qE89 [24, 60, 31, 40, 49, 47, 58, 100, 102, 104, 119, 114, 71, 77, 84, 82, 89] = true := by kernel_rfl
theorem qm90 : mpB Tryz.prog toldV 17 qE90 [24, 60, 31, 40, 49, 47, 58, 101, 103, 105, 115, 117, 72, 78, 85, 83, 90] = true := by kernel_rfl
theorem qm91 : mpB Tryz.prog toldV 17 qE91 [24, 60, 31, 40, 49, 47, 58, 100, 102, 104, 119, 114, 71, 77, 84, 82, 89] = true := by kernel_rfl
theorem qm92 : mpB Tryz.prog toldV 17 qE92 [24, 60, 31, 40, 49, 47, 58, 101, 103, 105, 122, 117, 72, 78, 85, 83, 90] = true := by kernel_rfl
theorem qm93 : mpB Tryz.prog toldV 17 qE93 [24, 60, 31, 40, 49, 47, 58, 101, 103, 105, 115, 117, 72, 78, 85, 83, 90] = true := by kernel_rfl
theorem qm94 : mpB Tryz.prog toldV 17 qE94 [24, 60, 31, 40, 49, 47, 58, 101, 103, 105, 115, 117, 72, 78, 85, 83, 90] = true := by kernel_rfl
theorem qm95 : mpB Tryz.prog toldV 17 qE95 [24, 60, 31, 40, 49, 47, 58, 100, 102, 119, 112, 114, 71, 77, 84, 82, 89] = true := by kernel_rfl
end Go.Proofs.YtpbnlbbieaokoaaGreatDoor.Ev
