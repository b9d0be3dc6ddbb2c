/-
  ctrl.Do at some places. (Printed by tools/mpgen.py.)
-/
import Derived.Test.YtpbnlbbieaokoaaGreatDoorBrT
import Derived.Test.YtpbnlbbieaokoaaGreatDoorVa
set_option maxRecDepth 1000000
namespace Go.Proofs.YtpbnlbbieaokoaaGreatDoor.Ev
open Go
theorem qm64 : mpB Tryz.prog toldV 17 qE64 [23, 59, 30, 39, 48, 46, 57, 61, 63, 65, 67, 69, 101, 108, 106, 188, 184, 87] = true := by kernel_rfl
theorem qm65 : mpB Tryz.prog toldV 17 qE65 [25, 61, 32, 41, 50, 48, 59, 63, 65, 67, 69, 71, 98, 105, 103, 89, 203] = true := by kernel_rfl
theorem qm66 : mpB Tryz.prog toldV 17 qE66 [24, 60, 31, 40, 49, 47, 58, 62, 64, 66, 68, 70, 118, 180, 126, 81] = true := by kernel_rfl
theorem qm67 : mpB Tryz.prog toldV 17 qE67 [23, 59, 30, 39, 48, 46, 57, 61, 63, 65, 67, 69, 101, 108, 106, 189, 185, 87] = true := by kernel_rfl
theorem qm68 : mpB Tryz.prog toldV 17 qE68 [25, 61, 32, 41, 50, 48, 59, 63, 65, 67, 69, 71, 98, 105, 103, 89, 203] = true := by kernel_rfl
theorem qm69 : mpB Tryz.prog toldV 17 qE69 [24, 60, 31, 40, 49, 47, 58, 62, 64, 66, 68, 70, 118, 180, 126, 81] = true := by kernel_rfl
theorem qm70 : mpB Tryz.prog toldV 17 qE70 [23, 59, 30, 39, 48, 46, 57, 61, 63, 65, 67, 69, 101, 108, 106, 190, 186, 87] = true := by kernel_rfl
theorem qm71 : mpB Tryz.prog toldV 17 qE71 [25, 61, 32, 41, 50, 48, 59, 63, 65, 67, 69, 71, 98, 105, 103, 89, 215] = true := by kernel_rfl
theorem qm72 : mpB Tryz.prog toldV 17 qE72 [24, 60, 31, 40, 49, 47, 58, 62, 64, 66, 68, 70, 118, 180, 126, 81] = true := by kernel_rfl
theorem qm73 : mpB Tryz.prog toldV 17 qE73 [23, 59, 30, 39, 48, 46, 57, 61, 63, 65, 67, 69, 101, 108, 106, 191, 187, 87] = true := by kernel_rfl
theorem qm74 : mpB Tryz.prog toldV 17 qE74 [25, 61, 32, 41, 50, 48, 59, 63, 65, 67, 69, 71, 98, 105, 103, 89, 203] = true := by kernel_rfl
theorem qm75 : mpB Tryz.prog toldV 17 qE75 [24, 60, 31, 40, 49, 47, 58, 62, 64, 66, 68, 70, 118, 180, 126, 81] = true := by kernel_rfl
theorem qm76 : mpB Tryz.prog toldV 17 qE76 [23, 59, 30, 39, 48, 46, 57, 61, 63, 65, 67, 69, 101, 108, 106, 192, 188, 87] = true := by kernel_rfl
theorem qm77 : mpB Tryz.prog toldV 17 qE77 [25, 61, 32, 41, 50, 48, 59, 63, 65, 67, 69, 71, 98, 105, 103, 89, 203] = true := by kernel_rfl
theorem qm78 : mpB Tryz.prog toldV 17 qE78 [24, 60, 31, 40, 49, 47, 58, 62, 64, 66, 68, 70, 118, 180, 126, 81] = true := by kernel_rfl
theorem qm79 : mpB Tryz.prog toldV 17 qE79 [23, 59, 30, 39, 48, 46, 57, 61, 63, 65, 67, 69, 101, 108, 106, 193, 189, 87] = true := by kernel_rfl
end Go.Proofs.YtpbnlbbieaokoaaGreatDoor.Ev
