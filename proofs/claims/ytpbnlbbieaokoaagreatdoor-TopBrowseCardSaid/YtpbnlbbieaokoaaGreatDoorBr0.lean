/-
  ctrl.Do at some places. (Printed by tools/mpgen.py.)
-/
import Derived.Test.YtpbnlbbieaokoaaGreatDoorBrT
import Derived.Test.YtpbnlbbieaokoaaGreatDoorVa
set_option maxRecDepth 1000000
namespace Go.Proofs.YtpbnlbbieaokoaaGreatDoor.Ev
open Go
theorem qm0 : mpB Tryz.prog toldV 17 qE0 [20, 56, 27, 36, 45, 43, 54, 58, 60, 62, 64, 106, 163, 70] = true := by kernel_rfl
theorem qm1 : mpB Tryz.prog toldV 17 qE1 [21, 57, 28, 37, 46, 44, 55, 59, 61, 63, 65, 95, 100, 183, 179, 81] = true := by kernel_rfl
theorem qm2 : mpB Tryz.prog toldV 17 qE2 [23, 59, 30, 39, 48, 46, 57, 61, 63, 65, 67, 94, 101, 99, 85, 183] = true := by kernel_rfl
theorem qm3 : mpB Tryz.prog toldV 17 qE3 [23, 59, 30, 39, 48, 46, 57, 61, 63, 65, 67, 115, 172, 78] = true := by kernel_rfl
theorem qm4 : mpB Tryz.prog toldV 17 qE4 [21, 57, 28, 37, 46, 44, 55, 59, 61, 63, 65, 95, 100, 180, 176, 81] = true := by kernel_rfl
theorem qm5 : mpB Tryz.prog toldV 17 qE5 [23, 59, 30, 39, 48, 46, 57, 61, 63, 65, 67, 94, 101, 99, 85, 180] = true := by kernel_rfl
theorem qm6 : mpB Tryz.prog toldV 17 qE6 [23, 59, 30, 39, 48, 46, 57, 61, 63, 65, 67, 115, 177, 123, 78] = true := by kernel_rfl
theorem qm7 : mpB Tryz.prog toldV 17 qE7 [22, 58, 29, 38, 47, 45, 56, 60, 62, 64, 66, 98, 105, 103, 182, 178, 84] = true := by kernel_rfl
theorem qm8 : mpB Tryz.prog toldV 17 qE8 [24, 60, 31, 40, 49, 47, 58, 62, 64, 66, 68, 95, 102, 100, 86, 200] = true := by kernel_rfl
theorem qm9 : mpB Tryz.prog toldV 17 qE9 [23, 59, 30, 39, 48, 46, 57, 61, 63, 65, 67, 115, 177, 123, 78] = true := by kernel_rfl
theorem qm10 : mpB Tryz.prog toldV 17 qE10 [22, 58, 29, 38, 47, 45, 56, 60, 62, 64, 66, 98, 105, 103, 183, 179, 84] = true := by kernel_rfl
theorem qm11 : mpB Tryz.prog toldV 17 qE11 [24, 60, 31, 40, 49, 47, 58, 62, 64, 66, 68, 95, 102, 100, 86, 198] = true := by kernel_rfl
theorem qm12 : mpB Tryz.prog toldV 17 qE12 [23, 59, 30, 39, 48, 46, 57, 61, 63, 65, 67, 115, 177, 123, 78] = true := by kernel_rfl
theorem qm13 : mpB Tryz.prog toldV 17 qE13 [22, 58, 29, 38, 47, 45, 56, 60, 62, 64, 66, 98, 105, 103, 184, 180, 84] = true := by kernel_rfl
theorem qm14 : mpB Tryz.prog toldV 17 qE14 [24, 60, 31, 40, 49, 47, 58, 62, 64, 66, 68, 95, 102, 100, 86, 200] = true := by kernel_rfl
theorem qm15 : mpB Tryz.prog toldV 17 qE15 [23, 59, 30, 39, 48, 46, 57, 61, 63, 65, 67, 115, 177, 123, 78] = true := by kernel_rfl
end Go.Proofs.YtpbnlbbieaokoaaGreatDoor.Ev
