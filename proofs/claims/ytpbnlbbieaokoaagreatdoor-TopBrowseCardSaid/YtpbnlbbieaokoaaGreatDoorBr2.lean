/-
  ctrl.Do at some places. (Printed by tools/mpgen.py.)
-/
import Derived.Test.YtpbnlbbieaokoaaGreatDoorBrT
import Derived.Test.YtpbnlbbieaokoaaGreatDoorVa
set_option maxRecDepth 1000000
namespace Go.Proofs.YtpbnlbbieaokoaaGreatDoor.Ev
open Go
theorem qm32 : mpB Tryz.prog toldV 17 qE32 [24, 60, 31, 40, 49, 47, 58, 62, 64, 66, 68, 95, 102, 100, 86, 200] = true := by kernel_rfl
theorem qm33 : mpB Tryz.prog toldV 17 qE33 [23, 59, 30, 39, 48, 46, 57, 431, 433, 435, 438, 67, 411, 418, 416, 85] = true := by kernel_rfl
theorem qm34 : mpB Tryz.prog toldV 17 qE34 [23, 59, 30, 39, 48, 46, 57, 61, 63, 65, 67, 69, 96, 103, 101, 87, 185] = true := by kernel_rfl
theorem qm35 : mpB Tryz.prog toldV 17 qE35 [24, 60, 31, 40, 49, 47, 58, 62, 64, 66, 68, 70, 118, 175, 81] = true := by kernel_rfl
theorem qm36 : mpB Tryz.prog toldV 17 qE36 [22, 58, 29, 38, 47, 45, 56, 60, 62, 64, 66, 68, 98, 103, 183, 179, 84] = true := by kernel_rfl
theorem qm37 : mpB Tryz.prog toldV 17 qE37 [24, 60, 31, 40, 49, 47, 58, 99, 101, 103, 116, 111, 70, 76, 83, 81, 88] = true := by kernel_rfl
theorem qm38 : mpB Tryz.prog toldV 17 qE38 [24, 60, 31, 40, 49, 47, 58, 101, 103, 105, 122, 117, 72, 78, 85, 83, 90] = true := by kernel_rfl
theorem qm39 : mpB Tryz.prog toldV 17 qE39 [24, 60, 31, 40, 49, 47, 58, 101, 103, 105, 115, 117, 72, 78, 85, 83, 90] = true := by kernel_rfl
theorem qm40 : mpB Tryz.prog toldV 17 qE40 [24, 60, 31, 40, 49, 47, 58, 101, 103, 105, 115, 117, 72, 78, 85, 83, 90] = true := by kernel_rfl
theorem qm41 : mpB Tryz.prog toldV 17 qE41 [24, 60, 31, 40, 49, 47, 58, 100, 102, 104, 119, 114, 71, 77, 84, 82, 89] = true := by kernel_rfl
theorem qm42 : mpB Tryz.prog toldV 17 qE42 [24, 60, 31, 40, 49, 47, 58, 101, 103, 105, 122, 117, 72, 78, 85, 83, 90] = true := by kernel_rfl
theorem qm43 : mpB Tryz.prog toldV 17 qE43 [24, 60, 31, 40, 49, 47, 58, 101, 103, 105, 115, 117, 72, 78, 85, 83, 90] = true := by kernel_rfl
theorem qm44 : mpB Tryz.prog toldV 17 qE44 [24, 60, 31, 40, 49, 47, 58, 101, 103, 105, 115, 117, 72, 78, 85, 83, 90] = true := by kernel_rfl
theorem qm45 : mpB Tryz.prog toldV 17 qE45 [24, 60, 31, 40, 49, 47, 58, 100, 102, 104, 119, 114, 71, 77, 84, 82, 89] = true := by kernel_rfl
theorem qm46 : mpB Tryz.prog toldV 17 qE46 [24, 60, 31, 40, 49, 47, 58, 101, 103, 105, 115, 117, 72, 78, 85, 83, 90] = true := by kernel_rfl
theorem qm47 : mpB Tryz.prog toldV 17 qE47 [24, 60, 31, 40, 49, 47, 58, 100, 102, 104, 119, 114, 71, 77, 84, 82, 89] = true := by kernel_rfl
end Go.Proofs.YtpbnlbbieaokoaaGreatDoor.Ev
