/-
  annunciator/annunciatorlaw25.Scan at some places. (Printed by tools/mqgen.py.)
-/
import Derived.Test.YtibobihgolfplaaGreatDoorBzT
import Derived.Test.YtibobihgolfplaaGreatDoorH1
set_option linter.unusedVariables false
set_option maxRecDepth 1000000
namespace Go.Proofs.YtibobihgolfplaaGreatDoor.Ev
open Go
theorem wm0(θ:Th):mqB Tryz.prog toldBy2 11 wE0 θ=some (wE0.out θ,idE θ [] []):=by kernel_rfl
theorem wm1(θ:Th):mqB Tryz.prog toldBy2 11 wE1 θ=some (wE1.out θ,idE θ [10,9,8,7,6,5,4,3,2,1] [1,0]):=by kernel_rfl
theorem wm2(θ:Th):mqB Tryz.prog toldBy2 11 wE2 θ=some (wE2.out θ,idE θ [7,6,5,4,3,2,1] [1,0]):=by kernel_rfl
theorem wm3(θ:Th):mqB Tryz.prog toldBy2 11 wE3 θ=some (wE3.out θ,idE θ [] []):=by kernel_rfl
theorem wm4(θ:Th):mqB Tryz.prog toldBy2 11 wE4 θ=some (wE4.out θ,idE θ [12,11,10,9,8,7,6,5,4,3,2,1] [1,0]):=by kernel_rfl
theorem wm5(θ:Th):mqB Tryz.prog toldBy2 11 wE5 θ=some (wE5.out θ,idE θ [8,7,6,5,4,3,2,1] [1,0]):=by kernel_rfl
theorem wm6(θ:Th):mqB Tryz.prog toldBy2 11 wE6 θ=some (wE6.out θ,idE θ [] []):=by kernel_rfl
theorem wm7(θ:Th):mqB Tryz.prog toldBy2 11 wE7 θ=some (wE7.out θ,idE θ [14,13,12,11,10,9,8,7,6,5,4,3,2,1] [1,0]):=by kernel_rfl
end Go.Proofs.YtibobihgolfplaaGreatDoor.Ev
