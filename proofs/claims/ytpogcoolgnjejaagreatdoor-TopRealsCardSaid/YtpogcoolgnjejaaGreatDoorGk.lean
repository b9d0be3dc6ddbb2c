/-
  ctrl.New, told at the one text.
-/
import Derived.Test.YtpogcoolgnjejaaGreatDoorGj
import Derived.Test.YtpogcoolgnjejaaGreatDoorPar
set_option maxRecDepth 1000000
namespace Go.Proofs.YtpogcoolgnjejaaGreatDoor.Ev
open Go
theorem new_ran : ptB Tryz.prog toldP 5 newLArgs newLNm newLR newLObjs = true := by kernel_rfl
def toldN : Told := toldH.pt 5 newLArgs newLR newLObjs
theorem toldN_ok : ToldS Tryz.prog toldN := Told.pt_ok toldH_ok (by kernel_rfl) (by kernel_rfl) (pt_ok follows toldP_ok (by kernel_rfl) new_ran)
end Go.Proofs.YtpogcoolgnjejaaGreatDoor.Ev
/-
  begun() of the top laws: it answers true.
-/
set_option maxRecDepth 1000000
namespace Go.Proofs.YtpogcoolgnjejaaGreatDoor.Ev
open Go
theorem beg_ran : ptB Tryz.prog toldN 4 [] [] (.bool true) [] = true := by kernel_rfl
def toldB : Told := toldN.pt 4 [] (.bool true) []
theorem toldB_ok : ToldS Tryz.prog toldB := Told.pt_ok toldN_ok (by kernel_rfl) (by kernel_rfl) (pt_ok follows toldN_ok (by kernel_rfl) beg_ran)
end Go.Proofs.YtpogcoolgnjejaaGreatDoor.Ev
