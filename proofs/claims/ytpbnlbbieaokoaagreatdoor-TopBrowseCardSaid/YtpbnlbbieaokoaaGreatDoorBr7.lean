/-
  ctrl.Do at some places. (Printed by tools/mpgen.py.)
-/
import Derived.Test.YtpbnlbbieaokoaaGreatDoorBrT
import Derived.Test.YtpbnlbbieaokoaaGreatDoorVa
set_option maxRecDepth 1000000
namespace Go.Proofs.YtpbnlbbieaokoaaGreatDoor.Ev
open Go
theorem qm112 : mpB Tryz.prog toldV 17 qE112 [24, 60, 31, 40, 49, 47, 58, 101, 103, 105, 115, 117, 72, 78, 85, 83, 90] = true := by kernel_rfl
theorem qm113 : mpB Tryz.prog toldV 17 qE113 [24, 60, 31, 40, 49, 47, 58, 101, 103, 105, 115, 117, 72, 78, 85, 83, 90] = true := by kernel_rfl
theorem qm114 : mpB Tryz.prog toldV 17 qE114 [24, 60, 31, 40, 49, 47, 58, 100, 102, 119, 112, 114, 71, 77, 84, 82, 89] = true := by kernel_rfl
theorem qm115 : mpB Tryz.prog toldV 17 qE115 [24, 60, 31, 40, 49, 47, 58, 435, 437, 439, 445, 71, 415, 422, 420, 89] = true := by kernel_rfl
theorem qm116 : mpB Tryz.prog toldV 17 qE116 [23, 59, 30, 39, 48, 46, 57, 98, 100, 102, 115, 110, 69, 75, 82, 80, 87] = true := by kernel_rfl
theorem qm117 : mpB Tryz.prog toldV 17 qE117 [24, 60, 31, 40, 49, 47, 58, 101, 103, 105, 122, 117, 72, 78, 85, 83, 90] = true := by kernel_rfl
theorem qm118 : mpB Tryz.prog toldV 17 qE118 [24, 60, 31, 40, 49, 47, 58, 101, 103, 105, 115, 117, 72, 78, 85, 83, 90] = true := by kernel_rfl
theorem qm119 : mpB Tryz.prog toldV 17 qE119 [24, 60, 31, 40, 49, 47, 58, 101, 103, 105, 115, 117, 72, 78, 85, 83, 90] = true := by kernel_rfl
theorem qm120 : mpB Tryz.prog toldV 17 qE120 [24, 60, 31, 40, 49, 47, 58, 100, 102, 104, 119, 114, 71, 77, 84, 82, 89] = true := by kernel_rfl
theorem qm121 : mpB Tryz.prog toldV 17 qE121 [24, 60, 31, 40, 49, 47, 58, 101, 103, 105, 122, 117, 72, 78, 85, 83, 90] = true := by kernel_rfl
theorem qm122 : mpB Tryz.prog toldV 17 qE122 [24, 60, 31, 40, 49, 47, 58, 101, 103, 105, 115, 117, 72, 78, 85, 83, 90] = true := by kernel_rfl
theorem qm123 : mpB Tryz.prog toldV 17 qE123 [24, 60, 31, 40, 49, 47, 58, 101, 103, 105, 115, 117, 72, 78, 85, 83, 90] = true := by kernel_rfl
theorem qm124 : mpB Tryz.prog toldV 17 qE124 [24, 60, 31, 40, 49, 47, 58, 100, 102, 104, 119, 114, 71, 77, 84, 82, 89] = true := by kernel_rfl
theorem qm125 : mpB Tryz.prog toldV 17 qE125 [24, 60, 31, 40, 49, 47, 58, 101, 103, 105, 115, 117, 72, 78, 85, 83, 90] = true := by kernel_rfl
theorem qm126 : mpB Tryz.prog toldV 17 qE126 [24, 60, 31, 40, 49, 47, 58, 100, 102, 104, 119, 114, 71, 77, 84, 82, 89] = true := by kernel_rfl
theorem qm127 : mpB Tryz.prog toldV 17 qE127 [24, 60, 31, 40, 49, 47, 58, 101, 103, 105, 122, 117, 72, 78, 85, 83, 90] = true := by kernel_rfl
end Go.Proofs.YtpbnlbbieaokoaaGreatDoor.Ev
