/-
  begun() of the top laws: it answers true.
-/
import Derived.Test.YtpbnlbbieaokoaaGreatDoorNewT
set_option maxRecDepth 1000000
namespace Go.Proofs.YtpbnlbbieaokoaaGreatDoor.Ev
open Go
theorem beg_ran : ptB Tryz.prog toldN 7 [] [] (.bool true) [] = true := by kernel_rfl
def toldB : Told := toldN.pt 7 [] (.bool true) []
theorem toldB_ok : ToldS Tryz.prog toldB := Told.pt_ok toldN_ok (by kernel_rfl) (by kernel_rfl) (pt_ok follows toldN_ok (by kernel_rfl) beg_ran)
end Go.Proofs.YtpbnlbbieaokoaaGreatDoor.Ev
