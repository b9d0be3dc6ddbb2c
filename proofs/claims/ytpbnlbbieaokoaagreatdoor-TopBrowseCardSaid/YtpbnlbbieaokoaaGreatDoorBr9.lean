/-
  ctrl.Do at some places. (Printed by tools/mpgen.py.)
-/
import Derived.Test.YtpbnlbbieaokoaaGreatDoorBrT
import Derived.Test.YtpbnlbbieaokoaaGreatDoorVa
set_option maxRecDepth 1000000
namespace Go.Proofs.YtpbnlbbieaokoaaGreatDoor.Ev
open Go
theorem qm144 : mpB Tryz.prog toldV 17 qE144 [25, 61, 32, 41, 50, 48, 59, 63, 65, 67, 69, 71, 98, 105, 103, 89, 203] = true := by kernel_rfl
theorem qm145 : mpB Tryz.prog toldV 17 qE145 [24, 60, 31, 40, 49, 47, 58, 62, 64, 66, 68, 70, 118, 180, 126, 81] = true := by kernel_rfl
theorem qm146 : mpB Tryz.prog toldV 17 qE146 [23, 59, 30, 39, 48, 46, 57, 61, 63, 65, 67, 69, 101, 108, 106, 189, 185, 87] = true := by kernel_rfl
theorem qm147 : mpB Tryz.prog toldV 17 qE147 [25, 61, 32, 41, 50, 48, 59, 63, 65, 67, 69, 71, 98, 105, 103, 89, 203] = true := by kernel_rfl
theorem qm148 : mpB Tryz.prog toldV 17 qE148 [24, 60, 31, 40, 49, 47, 58, 62, 64, 66, 68, 70, 118, 180, 126, 81] = true := by kernel_rfl
theorem qm149 : mpB Tryz.prog toldV 17 qE149 [23, 59, 30, 39, 48, 46, 57, 61, 63, 65, 67, 69, 101, 108, 106, 190, 186, 87] = true := by kernel_rfl
theorem qm150 : mpB Tryz.prog toldV 17 qE150 [25, 61, 32, 41, 50, 48, 59, 63, 65, 67, 69, 71, 98, 105, 103, 89, 215] = true := by kernel_rfl
theorem qm151 : mpB Tryz.prog toldV 17 qE151 [24, 60, 31, 40, 49, 47, 58, 62, 64, 66, 68, 70, 118, 180, 126, 81] = true := by kernel_rfl
theorem qm152 : mpB Tryz.prog toldV 17 qE152 [23, 59, 30, 39, 48, 46, 57, 61, 63, 65, 67, 69, 101, 108, 106, 191, 187, 87] = true := by kernel_rfl
theorem qm153 : mpB Tryz.prog toldV 17 qE153 [25, 61, 32, 41, 50, 48, 59, 63, 65, 67, 69, 71, 98, 105, 103, 89, 203] = true := by kernel_rfl
theorem qm154 : mpB Tryz.prog toldV 17 qE154 [24, 60, 31, 40, 49, 47, 58, 62, 64, 66, 68, 70, 118, 180, 126, 81] = true := by kernel_rfl
theorem qm155 : mpB Tryz.prog toldV 17 qE155 [23, 59, 30, 39, 48, 46, 57, 61, 63, 65, 67, 69, 101, 108, 106, 192, 188, 87] = true := by kernel_rfl
theorem qm156 : mpB Tryz.prog toldV 17 qE156 [25, 61, 32, 41, 50, 48, 59, 63, 65, 67, 69, 71, 98, 105, 103, 89, 203] = true := by kernel_rfl
theorem qm157 : mpB Tryz.prog toldV 17 qE157 [24, 60, 31, 40, 49, 47, 58, 62, 64, 66, 68, 70, 118, 180, 126, 81] = true := by kernel_rfl
theorem qm158 : mpB Tryz.prog toldV 17 qE158 [23, 59, 30, 39, 48, 46, 57, 61, 63, 65, 67, 69, 101, 108, 106, 193, 189, 87] = true := by kernel_rfl
theorem qm159 : mpB Tryz.prog toldV 17 qE159 [25, 61, 32, 41, 50, 48, 59, 63, 65, 67, 69, 71, 98, 105, 103, 89, 203] = true := by kernel_rfl
end Go.Proofs.YtpbnlbbieaokoaaGreatDoor.Ev
