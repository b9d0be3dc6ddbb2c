/-
  ctrl.Do at some places. (Printed by tools/mpgen.py.)
-/
import Derived.Test.YtpbnlbbieaokoaaGreatDoorBrT
import Derived.Test.YtpbnlbbieaokoaaGreatDoorVa
set_option maxRecDepth 1000000
namespace Go.Proofs.YtpbnlbbieaokoaaGreatDoor.Ev
open Go
theorem qm96 : mpB Tryz.prog toldV 17 qE96 [24, 60, 31, 40, 49, 47, 58, 435, 437, 439, 445, 71, 415, 422, 420, 89] = true := by kernel_rfl
theorem qm97 : mpB Tryz.prog toldV 17 qE97 [23, 59, 30, 39, 48, 46, 57, 61, 63, 65, 67, 69, 96, 103, 101, 87, 185] = true := by kernel_rfl
theorem qm98 : mpB Tryz.prog toldV 17 qE98 [24, 60, 31, 40, 49, 47, 58, 62, 64, 66, 68, 70, 118, 175, 81] = true := by kernel_rfl
theorem qm99 : mpB Tryz.prog toldV 17 qE99 [22, 58, 29, 38, 47, 45, 56, 60, 62, 64, 66, 68, 98, 103, 183, 179, 84] = true := by kernel_rfl
theorem qm100 : mpB Tryz.prog toldV 17 qE100 [24, 60, 31, 40, 49, 47, 58, 99, 101, 103, 116, 111, 70, 76, 83, 81, 88] = true := by kernel_rfl
theorem qm101 : mpB Tryz.prog toldV 17 qE101 [24, 60, 31, 40, 49, 47, 58, 101, 103, 105, 122, 117, 72, 78, 85, 83, 90] = true := by kernel_rfl
theorem qm102 : mpB Tryz.prog toldV 17 qE102 [24, 60, 31, 40, 49, 47, 58, 101, 103, 105, 115, 117, 72, 78, 85, 83, 90] = true := by kernel_rfl
theorem qm103 : mpB Tryz.prog toldV 17 qE103 [24, 60, 31, 40, 49, 47, 58, 101, 103, 105, 115, 117, 72, 78, 85, 83, 90] = true := by kernel_rfl
theorem qm104 : mpB Tryz.prog toldV 17 qE104 [24, 60, 31, 40, 49, 47, 58, 100, 102, 104, 119, 114, 71, 77, 84, 82, 89] = true := by kernel_rfl
theorem qm105 : mpB Tryz.prog toldV 17 qE105 [24, 60, 31, 40, 49, 47, 58, 101, 103, 105, 122, 117, 72, 78, 85, 83, 90] = true := by kernel_rfl
theorem qm106 : mpB Tryz.prog toldV 17 qE106 [24, 60, 31, 40, 49, 47, 58, 101, 103, 105, 115, 117, 72, 78, 85, 83, 90] = true := by kernel_rfl
theorem qm107 : mpB Tryz.prog toldV 17 qE107 [24, 60, 31, 40, 49, 47, 58, 101, 103, 105, 115, 117, 72, 78, 85, 83, 90] = true := by kernel_rfl
theorem qm108 : mpB Tryz.prog toldV 17 qE108 [24, 60, 31, 40, 49, 47, 58, 100, 102, 104, 119, 114, 71, 77, 84, 82, 89] = true := by kernel_rfl
theorem qm109 : mpB Tryz.prog toldV 17 qE109 [24, 60, 31, 40, 49, 47, 58, 101, 103, 105, 115, 117, 72, 78, 85, 83, 90] = true := by kernel_rfl
theorem qm110 : mpB Tryz.prog toldV 17 qE110 [24, 60, 31, 40, 49, 47, 58, 100, 102, 104, 119, 114, 71, 77, 84, 82, 89] = true := by kernel_rfl
theorem qm111 : mpB Tryz.prog toldV 17 qE111 [24, 60, 31, 40, 49, 47, 58, 101, 103, 105, 122, 117, 72, 78, 85, 83, 90] = true := by kernel_rfl
end Go.Proofs.YtpbnlbbieaokoaaGreatDoor.Ev
