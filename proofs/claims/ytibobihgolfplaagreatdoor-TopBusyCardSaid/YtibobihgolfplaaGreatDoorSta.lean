/-
  started(100) of the top laws, told.
-/
import Derived.Test.YtibobihgolfplaaGreatDoorGj
import Derived.Test.YtibobihgolfplaaGreatDoorGk
set_option maxRecDepth 1000000
namespace Go.Proofs.YtibobihgolfplaaGreatDoor.Ev
open Go
theorem sta_ran:ptB Tryz.prog toldN 7 staLArgs staLNm staLR staLObjs=true:=by kernel_rfl
def toldS:Told:=toldB.pt 7 staLArgs staLR staLObjs
theorem toldS_ok:ToldS Tryz.prog toldS:=Told.pt_ok toldB_ok (by kernel_rfl) (by kernel_rfl) (pt_ok follows toldN_ok (by kernel_rfl) sta_ran)
end Go.Proofs.YtibobihgolfplaaGreatDoor.Ev
