/-
  Other functions at some places. (Printed by tools/mpgen2.py.)
-/
import Derived.Test.YtpbnlbbieaokoaaGreatDoorBrU
import Derived.Test.YtpbnlbbieaokoaaGreatDoorVa
set_option maxRecDepth 1000000
namespace Go.Proofs.YtpbnlbbieaokoaaGreatDoor.Ev
open Go
theorem qg21_6 : mpB Tryz.prog toldV 21 qG21_6 [36] = true := by kernel_rfl
theorem qg21_7 : mpB Tryz.prog toldV 21 qG21_7 [36] = true := by kernel_rfl
theorem qg21_8 : mpB Tryz.prog toldV 21 qG21_8 [36] = true := by kernel_rfl
theorem qg21_9 : mpB Tryz.prog toldV 21 qG21_9 [36] = true := by kernel_rfl
theorem qg21_10 : mpB Tryz.prog toldV 21 qG21_10 [36] = true := by kernel_rfl
end Go.Proofs.YtpbnlbbieaokoaaGreatDoor.Ev
