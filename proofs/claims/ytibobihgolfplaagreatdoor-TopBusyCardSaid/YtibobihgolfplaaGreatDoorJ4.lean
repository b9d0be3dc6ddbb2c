/-
  annunciator/ctrl.Do at some places. (Printed by tools/mqgen.py.)
-/
import Derived.Test.YtibobihgolfplaaGreatDoorBzT
import Derived.Test.YtibobihgolfplaaGreatDoorHM
set_option maxRecDepth 1000000
set_option linter.unusedVariables false
namespace Go.Proofs.YtibobihgolfplaaGreatDoor.Ev
open Go
theorem wm46_1:PtsOk Tryz.prog toldBy8 17 wE46 [9,8,7,6,5,4,3,2,1] [1,0] wr46_1:=fun θ=>by kernel_rfl
theorem wm46_2:PtsOk Tryz.prog toldBy8 17 wE46 [9,8,7,6,5,4,3,2,1] [1,0] wr46_2:=fun θ=>by kernel_rfl
theorem wm47_0:PtsOk Tryz.prog toldBy8 17 wE47 [20,19,18,17,16,15,14,13,12,11,10,9,8,7,6,5,4,3,2,1] [1,0] wr47_0:=fun θ=>by kernel_rfl
theorem wm47_1:PtsOk Tryz.prog toldBy8 17 wE47 [20,19,18,17,16,15,14,13,12,11,10,9,8,7,6,5,4,3,2,1] [1,0] wr47_1:=fun θ=>by kernel_rfl
theorem wm47_2:PtsOk Tryz.prog toldBy8 17 wE47 [20,19,18,17,16,15,14,13,12,11,10,9,8,7,6,5,4,3,2,1] [1,0] wr47_2:=fun θ=>by kernel_rfl
theorem wm47_3:PtsOk Tryz.prog toldBy8 17 wE47 [20,19,18,17,16,15,14,13,12,11,10,9,8,7,6,5,4,3,2,1] [1,0] wr47_3:=fun θ=>by kernel_rfl
theorem wm47_4:PtsOk Tryz.prog toldBy8 17 wE47 [20,19,18,17,16,15,14,13,12,11,10,9,8,7,6,5,4,3,2,1] [1,0] wr47_4:=fun θ=>by kernel_rfl
theorem wm48(θ:Th):mqB Tryz.prog toldBy8 17 wE48 θ=some (wE48.out θ,idE θ [14,13,12,11,10,9,8,7,6,5,4,3,2,1] [1,0]):=by kernel_rfl
theorem wm49(θ:Th):mqB Tryz.prog toldBy8 17 wE49 θ=some (wE49.out θ,idE θ [] []):=by kernel_rfl
theorem wm50(θ:Th):mqB Tryz.prog toldBy8 17 wE50 θ=some (wE50.out θ,idE θ [] []):=by kernel_rfl
theorem wm51_0:PtsOk Tryz.prog toldBy8 17 wE51 [11,10,9,8,7,6,5,4,3,2,1] [1,0] wr51_0:=fun θ=>by kernel_rfl
theorem wm51_1:PtsOk Tryz.prog toldBy8 17 wE51 [11,10,9,8,7,6,5,4,3,2,1] [1,0] wr51_1:=fun θ=>by kernel_rfl
theorem wm51_2:PtsOk Tryz.prog toldBy8 17 wE51 [11,10,9,8,7,6,5,4,3,2,1] [1,0] wr51_2:=fun θ=>by kernel_rfl
theorem wm52_0:PtsOk Tryz.prog toldBy8 17 wE52 [11,10,9,8,7,6,5,4,3,2,1] [1,0] wr52_0:=fun θ=>by kernel_rfl
theorem wm52_1:PtsOk Tryz.prog toldBy8 17 wE52 [11,10,9,8,7,6,5,4,3,2,1] [1,0] wr52_1:=fun θ=>by kernel_rfl
theorem wm52_2:PtsOk Tryz.prog toldBy8 17 wE52 [11,10,9,8,7,6,5,4,3,2,1] [1,0] wr52_2:=fun θ=>by kernel_rfl
theorem wm53_0:PtsOk Tryz.prog toldBy8 17 wE53 [10,9,8,7,6,5,4,3,2,1] [1,0] wr53_0:=fun θ=>by kernel_rfl
theorem wm53_1:PtsOk Tryz.prog toldBy8 17 wE53 [10,9,8,7,6,5,4,3,2,1] [1,0] wr53_1:=fun θ=>by kernel_rfl
theorem wm53_2:PtsOk Tryz.prog toldBy8 17 wE53 [10,9,8,7,6,5,4,3,2,1] [1,0] wr53_2:=fun θ=>by kernel_rfl
theorem wm54_0:PtsOk Tryz.prog toldBy8 17 wE54 [21,20,19,18,17,16,15,14,13,12,11,10,9,8,7,6,5,4,3,2,1] [1,0] wr54_0:=fun θ=>by kernel_rfl
theorem wm54_1:PtsOk Tryz.prog toldBy8 17 wE54 [21,20,19,18,17,16,15,14,13,12,11,10,9,8,7,6,5,4,3,2,1] [1,0] wr54_1:=fun θ=>by kernel_rfl
theorem wm54_2:PtsOk Tryz.prog toldBy8 17 wE54 [21,20,19,18,17,16,15,14,13,12,11,10,9,8,7,6,5,4,3,2,1] [1,0] wr54_2:=fun θ=>by kernel_rfl
theorem wm55(θ:Th):mqB Tryz.prog toldBy8 17 wE55 θ=some (wE55.out θ,idE θ [15,14,13,12,11,10,9,8,7,6,5,4,3,2,1] [1,0]):=by kernel_rfl
end Go.Proofs.YtibobihgolfplaaGreatDoor.Ev
