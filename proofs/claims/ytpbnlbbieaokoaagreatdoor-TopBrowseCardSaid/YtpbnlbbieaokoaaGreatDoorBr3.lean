/-
  ctrl.Do at some places. (Printed by tools/mpgen.py.)
-/
import Derived.Test.YtpbnlbbieaokoaaGreatDoorBrT
import Derived.Test.YtpbnlbbieaokoaaGreatDoorVa
set_option maxRecDepth 1000000
namespace Go.Proofs.YtpbnlbbieaokoaaGreatDoor.Ev
open Go
theorem qm48 : mpB Tryz.prog toldV 17 qE48 [24, 60, 31, 40, 49, 47, 58, 101, 103, 105, 122, 117, 72, 78, 85, 83, 90] = true := by kernel_rfl
theorem qm49 : mpB Tryz.prog toldV 17 qE49 [24, 60, 31, 40, 49, 47, 58, 101, 103, 105, 115, 117, 72, 78, 85, 83, 90] = true := by kernel_rfl
theorem qm50 : mpB Tryz.prog toldV 17 qE50 [24, 60, 31, 40, 49, 47, 58, 101, 103, 105, 115, 117, 72, 78, 85, 83, 90] = true := by kernel_rfl
theorem qm51 : mpB Tryz.prog toldV 17 qE51 [24, 60, 31, 40, 49, 47, 58, 100, 102, 119, 112, 114, 71, 77, 84, 82, 89] = true := by kernel_rfl
theorem qm52 : mpB Tryz.prog toldV 17 qE52 [24, 60, 31, 40, 49, 47, 58, 435, 437, 439, 445, 71, 415, 422, 420, 89] = true := by kernel_rfl
theorem qm53 : mpB Tryz.prog toldV 17 qE53 [23, 59, 30, 39, 48, 46, 57, 61, 63, 65, 67, 69, 96, 103, 101, 87, 182] = true := by kernel_rfl
theorem qm54 : mpB Tryz.prog toldV 17 qE54 [24, 60, 31, 40, 49, 47, 58, 62, 64, 66, 68, 70, 118, 180, 126, 81] = true := by kernel_rfl
theorem qm55 : mpB Tryz.prog toldV 17 qE55 [23, 59, 30, 39, 48, 46, 57, 61, 63, 65, 67, 69, 101, 108, 106, 185, 181, 87] = true := by kernel_rfl
theorem qm56 : mpB Tryz.prog toldV 17 qE56 [25, 61, 32, 41, 50, 48, 59, 63, 65, 67, 69, 71, 98, 105, 103, 89, 203] = true := by kernel_rfl
theorem qm57 : mpB Tryz.prog toldV 17 qE57 [24, 60, 31, 40, 49, 47, 58, 62, 64, 66, 68, 70, 118, 180, 126, 81] = true := by kernel_rfl
theorem qm58 : mpB Tryz.prog toldV 17 qE58 [23, 59, 30, 39, 48, 46, 57, 61, 63, 65, 67, 69, 101, 108, 106, 186, 182, 87] = true := by kernel_rfl
theorem qm59 : mpB Tryz.prog toldV 17 qE59 [25, 61, 32, 41, 50, 48, 59, 63, 65, 67, 69, 71, 98, 105, 103, 89, 201] = true := by kernel_rfl
theorem qm60 : mpB Tryz.prog toldV 17 qE60 [24, 60, 31, 40, 49, 47, 58, 62, 64, 66, 68, 70, 118, 180, 126, 81] = true := by kernel_rfl
theorem qm61 : mpB Tryz.prog toldV 17 qE61 [23, 59, 30, 39, 48, 46, 57, 61, 63, 65, 67, 69, 101, 108, 106, 187, 183, 87] = true := by kernel_rfl
theorem qm62 : mpB Tryz.prog toldV 17 qE62 [25, 61, 32, 41, 50, 48, 59, 63, 65, 67, 69, 71, 98, 105, 103, 89, 203] = true := by kernel_rfl
theorem qm63 : mpB Tryz.prog toldV 17 qE63 [24, 60, 31, 40, 49, 47, 58, 62, 64, 66, 68, 70, 118, 180, 126, 81] = true := by kernel_rfl
end Go.Proofs.YtpbnlbbieaokoaaGreatDoor.Ev
