/-
  annunciator/annunciatorlaw25.Scan at some places. (Printed by tools/mqgen.py.)
-/
import Derived.Test.YtibobihgolfplaaGreatDoorBzT
import Derived.Test.YtibobihgolfplaaGreatDoorH1
set_option linter.unusedVariables false
set_option maxRecDepth 1000000
namespace Go.Proofs.YtibobihgolfplaaGreatDoor.Ev
open Go
theorem wm8(θ:Th):mqB Tryz.prog toldBy2 11 wE8 θ=some (wE8.out θ,idE θ [9,8,7,6,5,4,3,2,1] [1,0]):=by kernel_rfl
theorem wm9(θ:Th):mqB Tryz.prog toldBy2 11 wE9 θ=some (wE9.out θ,idE θ [] []):=by kernel_rfl
theorem wm10(θ:Th):mqB Tryz.prog toldBy2 11 wE10 θ=some (wE10.out θ,idE θ [15,14,13,12,11,10,9,8,7,6,5,4,3,2,1] [1,0]):=by kernel_rfl
theorem wm11(θ:Th):mqB Tryz.prog toldBy2 11 wE11 θ=some (wE11.out θ,idE θ [10,9,8,7,6,5,4,3,2,1] [1,0]):=by kernel_rfl
theorem wm12(θ:Th):mqB Tryz.prog toldBy2 11 wE12 θ=some (wE12.out θ,idE θ [] []):=by kernel_rfl
theorem wm13(θ:Th):mqB Tryz.prog toldBy2 11 wE13 θ=some (wE13.out θ,idE θ [16,15,14,13,12,11,10,9,8,7,6,5,4,3,2,1] [1,0]):=by kernel_rfl
theorem wm14(θ:Th):mqB Tryz.prog toldBy2 11 wE14 θ=some (wE14.out θ,idE θ [11,10,9,8,7,6,5,4,3,2,1] [1,0]):=by kernel_rfl
end Go.Proofs.YtibobihgolfplaaGreatDoor.Ev
