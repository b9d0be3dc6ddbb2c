/-
  pars.Parse, told at the one text.
-/
import Derived.Test.YtpbnlbbieaokoaaGreatDoorGj
set_option maxRecDepth 1000000
namespace Go.Proofs.YtpbnlbbieaokoaaGreatDoor.Ev
open Go
theorem par_ran : ptB Tryz.prog toldH 26 parLArgs parLNm parLR parLObjs = true := by kernel_rfl
def toldP : Told := toldH.pt 26 parLArgs parLR parLObjs
theorem toldP_ok : ToldS Tryz.prog toldP := Told.pt_ok toldH_ok (by kernel_rfl) (by kernel_rfl) (pt_ok follows toldH_ok (by kernel_rfl) par_ran)
end Go.Proofs.YtpbnlbbieaokoaaGreatDoor.Ev
