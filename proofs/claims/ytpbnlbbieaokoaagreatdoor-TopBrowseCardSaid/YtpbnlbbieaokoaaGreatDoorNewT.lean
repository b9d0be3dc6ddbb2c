/-
  ctrl.New, told at the one text.
-/
import Derived.Test.YtpbnlbbieaokoaaGreatDoorGj
import Derived.Test.YtpbnlbbieaokoaaGreatDoorPar
set_option maxRecDepth 1000000
namespace Go.Proofs.YtpbnlbbieaokoaaGreatDoor.Ev
open Go
theorem new_ran : ptB Tryz.prog toldP 14 newLArgs newLNm newLR newLObjs = true := by kernel_rfl
def toldN : Told := toldH.pt 14 newLArgs newLR newLObjs
theorem toldN_ok : ToldS Tryz.prog toldN := Told.pt_ok toldH_ok (by kernel_rfl) (by kernel_rfl) (pt_ok follows toldP_ok (by kernel_rfl) new_ran)
end Go.Proofs.YtpbnlbbieaokoaaGreatDoor.Ev
