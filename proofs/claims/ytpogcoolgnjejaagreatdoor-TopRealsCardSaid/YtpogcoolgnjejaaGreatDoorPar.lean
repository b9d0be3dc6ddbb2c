/-
  pars.Parse, told at the one text.
-/
import Derived.Test.YtpogcoolgnjejaaGreatDoorGj
set_option maxRecDepth 1000000
namespace Go.Proofs.YtpogcoolgnjejaaGreatDoor.Ev
open Go
theorem par_ran : ptB Tryz.prog toldH 12 parLArgs parLNm parLR parLObjs = true := by kernel_rfl
def toldP : Told := toldH.pt 12 parLArgs parLR parLObjs
theorem toldP_ok : ToldS Tryz.prog toldP := Told.pt_ok toldH_ok (by kernel_rfl) (by kernel_rfl) (pt_ok follows toldH_ok (by kernel_rfl) par_ran)
end Go.Proofs.YtpogcoolgnjejaaGreatDoor.Ev
