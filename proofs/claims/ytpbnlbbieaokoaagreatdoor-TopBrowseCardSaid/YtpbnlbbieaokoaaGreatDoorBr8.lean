/-
  ctrl.Do at some places. (Printed by tools/mpgen.py.)
-/
import Derived.Test.YtpbnlbbieaokoaaGreatDoorBrT
import Derived.Test.YtpbnlbbieaokoaaGreatDoorVa
set_option maxRecDepth 1000000
namespace Go.Proofs.YtpbnlbbieaokoaaGreatDoor.Ev
open Go
theorem qm128 : mpB Tryz.prog toldV 17 qE128 [24, 60, 31, 40, 49, 47, 58, 101, 103, 105, 115, 117, 72, 78, 85, 83, 90] = true := by kernel_rfl
theorem qm129 : mpB Tryz.prog toldV 17 qE129 [24, 60, 31, 40, 49, 47, 58, 101, 103, 105, 115, 117, 72, 78, 85, 83, 90] = true := by kernel_rfl
theorem qm130 : mpB Tryz.prog toldV 17 qE130 [24, 60, 31, 40, 49, 47, 58, 100, 102, 119, 112, 114, 71, 77, 84, 82, 89] = true := by kernel_rfl
theorem qm131 : mpB Tryz.prog toldV 17 qE131 [24, 60, 31, 40, 49, 47, 58, 435, 437, 439, 445, 71, 415, 422, 420, 89] = true := by kernel_rfl
theorem qm132 : mpB Tryz.prog toldV 17 qE132 [23, 59, 30, 39, 48, 46, 57, 61, 63, 65, 67, 69, 96, 103, 101, 87, 182] = true := by kernel_rfl
theorem qm133 : mpB Tryz.prog toldV 17 qE133 [24, 60, 31, 40, 49, 47, 58, 62, 64, 66, 68, 70, 118, 180, 126, 81] = true := by kernel_rfl
theorem qm134 : mpB Tryz.prog toldV 17 qE134 [23, 59, 30, 39, 48, 46, 57, 61, 63, 65, 67, 69, 101, 108, 106, 185, 181, 87] = true := by kernel_rfl
theorem qm135 : mpB Tryz.prog toldV 17 qE135 [25, 61, 32, 41, 50, 48, 59, 63, 65, 67, 69, 71, 98, 105, 103, 89, 203] = true := by kernel_rfl
theorem qm136 : mpB Tryz.prog toldV 17 qE136 [24, 60, 31, 40, 49, 47, 58, 62, 64, 66, 68, 70, 118, 180, 126, 81] = true := by kernel_rfl
theorem qm137 : mpB Tryz.prog toldV 17 qE137 [23, 59, 30, 39, 48, 46, 57, 61, 63, 65, 67, 69, 101, 108, 106, 186, 182, 87] = true := by kernel_rfl
theorem qm138 : mpB Tryz.prog toldV 17 qE138 [25, 61, 32, 41, 50, 48, 59, 63, 65, 67, 69, 71, 98, 105, 103, 89, 201] = true := by kernel_rfl
theorem qm139 : mpB Tryz.prog toldV 17 qE139 [24, 60, 31, 40, 49, 47, 58, 62, 64, 66, 68, 70, 118, 180, 126, 81] = true := by kernel_rfl
theorem qm140 : mpB Tryz.prog toldV 17 qE140 [23, 59, 30, 39, 48, 46, 57, 61, 63, 65, 67, 69, 101, 108, 106, 187, 183, 87] = true := by kernel_rfl
theorem qm141 : mpB Tryz.prog toldV 17 qE141 [25, 61, 32, 41, 50, 48, 59, 63, 65, 67, 69, 71, 98, 105, 103, 89, 203] = true := by kernel_rfl
theorem qm142 : mpB Tryz.prog toldV 17 qE142 [24, 60, 31, 40, 49, 47, 58, 62, 64, 66, 68, 70, 118, 180, 126, 81] = true := by kernel_rfl
theorem qm143 : mpB Tryz.prog toldV 17 qE143 [23, 59, 30, 39, 48, 46, 57, 61, 63, 65, 67, 69, 101, 108, 106, 188, 184, 87] = true := by kernel_rfl
end Go.Proofs.YtpbnlbbieaokoaaGreatDoor.Ev
