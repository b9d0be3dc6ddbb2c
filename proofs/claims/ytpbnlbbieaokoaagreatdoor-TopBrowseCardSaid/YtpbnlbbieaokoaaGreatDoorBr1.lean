/-
  ctrl.Do at some places. (Printed by tools/mpgen.py.)
-/
import Derived.Test.YtpbnlbbieaokoaaGreatDoorBrT
import Derived.Test.YtpbnlbbieaokoaaGreatDoorVa
set_option maxRecDepth 1000000
namespace Go.Proofs.YtpbnlbbieaokoaaGreatDoor.Ev
open Go
theorem qm16 : mpB Tryz.prog toldV 17 qE16 [22, 58, 29, 38, 47, 45, 56, 60, 62, 64, 66, 98, 105, 103, 185, 181, 84] = true := by kernel_rfl
theorem qm17 : mpB Tryz.prog toldV 17 qE17 [24, 60, 31, 40, 49, 47, 58, 62, 64, 66, 68, 95, 102, 100, 86, 200] = true := by kernel_rfl
theorem qm18 : mpB Tryz.prog toldV 17 qE18 [23, 59, 30, 39, 48, 46, 57, 61, 63, 65, 67, 115, 177, 123, 78] = true := by kernel_rfl
theorem qm19 : mpB Tryz.prog toldV 17 qE19 [22, 58, 29, 38, 47, 45, 56, 60, 62, 64, 66, 98, 105, 103, 186, 182, 84] = true := by kernel_rfl
theorem qm20 : mpB Tryz.prog toldV 17 qE20 [24, 60, 31, 40, 49, 47, 58, 62, 64, 66, 68, 95, 102, 100, 86, 200] = true := by kernel_rfl
theorem qm21 : mpB Tryz.prog toldV 17 qE21 [23, 59, 30, 39, 48, 46, 57, 61, 63, 65, 67, 115, 177, 123, 78] = true := by kernel_rfl
theorem qm22 : mpB Tryz.prog toldV 17 qE22 [22, 58, 29, 38, 47, 45, 56, 60, 62, 64, 66, 98, 105, 103, 187, 183, 84] = true := by kernel_rfl
theorem qm23 : mpB Tryz.prog toldV 17 qE23 [24, 60, 31, 40, 49, 47, 58, 62, 64, 66, 68, 95, 102, 100, 86, 212] = true := by kernel_rfl
theorem qm24 : mpB Tryz.prog toldV 17 qE24 [23, 59, 30, 39, 48, 46, 57, 61, 63, 65, 67, 115, 177, 123, 78] = true := by kernel_rfl
theorem qm25 : mpB Tryz.prog toldV 17 qE25 [22, 58, 29, 38, 47, 45, 56, 60, 62, 64, 66, 98, 105, 103, 188, 184, 84] = true := by kernel_rfl
theorem qm26 : mpB Tryz.prog toldV 17 qE26 [24, 60, 31, 40, 49, 47, 58, 62, 64, 66, 68, 95, 102, 100, 86, 200] = true := by kernel_rfl
theorem qm27 : mpB Tryz.prog toldV 17 qE27 [23, 59, 30, 39, 48, 46, 57, 61, 63, 65, 67, 115, 177, 123, 78] = true := by kernel_rfl
theorem qm28 : mpB Tryz.prog toldV 17 qE28 [22, 58, 29, 38, 47, 45, 56, 60, 62, 64, 66, 98, 105, 103, 189, 185, 84] = true := by kernel_rfl
theorem qm29 : mpB Tryz.prog toldV 17 qE29 [24, 60, 31, 40, 49, 47, 58, 62, 64, 66, 68, 95, 102, 100, 86, 200] = true := by kernel_rfl
theorem qm30 : mpB Tryz.prog toldV 17 qE30 [23, 59, 30, 39, 48, 46, 57, 61, 63, 65, 67, 115, 177, 123, 78] = true := by kernel_rfl
theorem qm31 : mpB Tryz.prog toldV 17 qE31 [22, 58, 29, 38, 47, 45, 56, 60, 62, 64, 66, 98, 105, 103, 190, 186, 84] = true := by kernel_rfl
end Go.Proofs.YtpbnlbbieaokoaaGreatDoor.Ev
