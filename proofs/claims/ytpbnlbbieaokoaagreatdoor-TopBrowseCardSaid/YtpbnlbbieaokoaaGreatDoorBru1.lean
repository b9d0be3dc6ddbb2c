/-
  Other functions at some places. (Printed by tools/mpgen2.py.)
-/
import Derived.Test.YtpbnlbbieaokoaaGreatDoorBrU
import Derived.Test.YtpbnlbbieaokoaaGreatDoorVa
set_option maxRecDepth 1000000
namespace Go.Proofs.YtpbnlbbieaokoaaGreatDoor.Ev
open Go
theorem qg19_7 : mpB Tryz.prog toldV 19 qG19_7 [15] = true := by kernel_rfl
theorem qg19_8 : mpB Tryz.prog toldV 19 qG19_8 [16] = true := by kernel_rfl
theorem qg19_9 : mpB Tryz.prog toldV 19 qG19_9 [16] = true := by kernel_rfl
theorem qg19_10 : mpB Tryz.prog toldV 19 qG19_10 [16] = true := by kernel_rfl
theorem qg19_11 : mpB Tryz.prog toldV 19 qG19_11 [16] = true := by kernel_rfl
theorem qg19_12 : mpB Tryz.prog toldV 19 qG19_12 [16] = true := by kernel_rfl
theorem qg19_13 : mpB Tryz.prog toldV 19 qG19_13 [15] = true := by kernel_rfl
theorem qg19_14 : mpB Tryz.prog toldV 19 qG19_14 [16] = true := by kernel_rfl
theorem qg19_15 : mpB Tryz.prog toldV 19 qG19_15 [15] = true := by kernel_rfl
theorem qg20_0 : mpB Tryz.prog toldV 20 qG20_0 [] = true := by kernel_rfl
theorem qg20_1 : mpB Tryz.prog toldV 20 qG20_1 [] = true := by kernel_rfl
theorem qg20_2 : mpB Tryz.prog toldV 20 qG20_2 [] = true := by kernel_rfl
theorem qg20_3 : mpB Tryz.prog toldV 20 qG20_3 [] = true := by kernel_rfl
theorem qg20_4 : mpB Tryz.prog toldV 20 qG20_4 [] = true := by kernel_rfl
theorem qg20_5 : mpB Tryz.prog toldV 20 qG20_5 [] = true := by kernel_rfl
theorem qg20_6 : mpB Tryz.prog toldV 20 qG20_6 [] = true := by kernel_rfl
theorem qg20_7 : mpB Tryz.prog toldV 20 qG20_7 [] = true := by kernel_rfl
theorem qg20_8 : mpB Tryz.prog toldV 20 qG20_8 [] = true := by kernel_rfl
theorem qg21_0 : mpB Tryz.prog toldV 21 qG21_0 [32] = true := by kernel_rfl
theorem qg21_1 : mpB Tryz.prog toldV 21 qG21_1 [32] = true := by kernel_rfl
theorem qg21_2 : mpB Tryz.prog toldV 21 qG21_2 [36] = true := by kernel_rfl
theorem qg21_3 : mpB Tryz.prog toldV 21 qG21_3 [36] = true := by kernel_rfl
theorem qg21_4 : mpB Tryz.prog toldV 21 qG21_4 [36] = true := by kernel_rfl
theorem qg21_5 : mpB Tryz.prog toldV 21 qG21_5 [36] = true := by kernel_rfl
end Go.Proofs.YtpbnlbbieaokoaaGreatDoor.Ev
