/-
  Other functions at some places. (Printed by tools/mpgen2.py.)
-/
import Derived.Test.YtpbnlbbieaokoaaGreatDoorBrU
import Derived.Test.YtpbnlbbieaokoaaGreatDoorVa
set_option maxRecDepth 1000000
namespace Go.Proofs.YtpbnlbbieaokoaaGreatDoor.Ev
open Go
theorem qg13_0 : mpB Tryz.prog toldV 13 qG13_0 [87] = true := by kernel_rfl
theorem qg18_0 : mpB Tryz.prog toldV 18 qG18_0 [7] = true := by kernel_rfl
theorem qg18_1 : mpB Tryz.prog toldV 18 qG18_1 [7] = true := by kernel_rfl
theorem qg18_2 : mpB Tryz.prog toldV 18 qG18_2 [7] = true := by kernel_rfl
theorem qg18_3 : mpB Tryz.prog toldV 18 qG18_3 [7] = true := by kernel_rfl
theorem qg18_4 : mpB Tryz.prog toldV 18 qG18_4 [7] = true := by kernel_rfl
theorem qg18_5 : mpB Tryz.prog toldV 18 qG18_5 [7] = true := by kernel_rfl
theorem qg18_6 : mpB Tryz.prog toldV 18 qG18_6 [7] = true := by kernel_rfl
theorem qg18_7 : mpB Tryz.prog toldV 18 qG18_7 [7] = true := by kernel_rfl
theorem qg18_8 : mpB Tryz.prog toldV 18 qG18_8 [7] = true := by kernel_rfl
theorem qg18_9 : mpB Tryz.prog toldV 18 qG18_9 [7] = true := by kernel_rfl
theorem qg18_10 : mpB Tryz.prog toldV 18 qG18_10 [7] = true := by kernel_rfl
theorem qg18_11 : mpB Tryz.prog toldV 18 qG18_11 [7] = true := by kernel_rfl
theorem qg18_12 : mpB Tryz.prog toldV 18 qG18_12 [7] = true := by kernel_rfl
theorem qg18_13 : mpB Tryz.prog toldV 18 qG18_13 [7] = true := by kernel_rfl
theorem qg18_14 : mpB Tryz.prog toldV 18 qG18_14 [7] = true := by kernel_rfl
theorem qg18_15 : mpB Tryz.prog toldV 18 qG18_15 [7] = true := by kernel_rfl
theorem qg19_0 : mpB Tryz.prog toldV 19 qG19_0 [14] = true := by kernel_rfl
theorem qg19_1 : mpB Tryz.prog toldV 19 qG19_1 [12] = true := by kernel_rfl
theorem qg19_2 : mpB Tryz.prog toldV 19 qG19_2 [16] = true := by kernel_rfl
theorem qg19_3 : mpB Tryz.prog toldV 19 qG19_3 [16] = true := by kernel_rfl
theorem qg19_4 : mpB Tryz.prog toldV 19 qG19_4 [16] = true := by kernel_rfl
theorem qg19_5 : mpB Tryz.prog toldV 19 qG19_5 [16] = true := by kernel_rfl
theorem qg19_6 : mpB Tryz.prog toldV 19 qG19_6 [16] = true := by kernel_rfl
end Go.Proofs.YtpbnlbbieaokoaaGreatDoor.Ev
