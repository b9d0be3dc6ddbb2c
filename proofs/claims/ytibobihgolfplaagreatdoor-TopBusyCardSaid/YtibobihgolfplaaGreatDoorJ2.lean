/-
  annunciator/ctrl.Do at some places. (Printed by tools/mqgen.py.)
-/
import Derived.Test.YtibobihgolfplaaGreatDoorBzT
import Derived.Test.YtibobihgolfplaaGreatDoorHM
set_option maxRecDepth 1000000
set_option linter.unusedVariables false
namespace Go.Proofs.YtibobihgolfplaaGreatDoor.Ev
open Go
theorem wm30_0:PtsOk Tryz.prog toldBy8 17 wE30 [12,11,10,9,8,7,6,5,4,3,2,1] [1,0] wr30_0:=fun θ=>by kernel_rfl
theorem wm30_1:PtsOk Tryz.prog toldBy8 17 wE30 [12,11,10,9,8,7,6,5,4,3,2,1] [1,0] wr30_1:=fun θ=>by kernel_rfl
theorem wm30_2:PtsOk Tryz.prog toldBy8 17 wE30 [12,11,10,9,8,7,6,5,4,3,2,1] [1,0] wr30_2:=fun θ=>by kernel_rfl
theorem wm30_3:PtsOk Tryz.prog toldBy8 17 wE30 [12,11,10,9,8,7,6,5,4,3,2,1] [1,0] wr30_3:=fun θ=>by kernel_rfl
theorem wm30_4:PtsOk Tryz.prog toldBy8 17 wE30 [12,11,10,9,8,7,6,5,4,3,2,1] [1,0] wr30_4:=fun θ=>by kernel_rfl
theorem wm30_5:PtsOk Tryz.prog toldBy8 17 wE30 [12,11,10,9,8,7,6,5,4,3,2,1] [1,0] wr30_5:=fun θ=>by kernel_rfl
theorem wm30_6:PtsOk Tryz.prog toldBy8 17 wE30 [12,11,10,9,8,7,6,5,4,3,2,1] [1,0] wr30_6:=fun θ=>by kernel_rfl
theorem wm31(θ:Th):mqB Tryz.prog toldBy8 17 wE31 θ=some (wE31.out θ,idE θ [8,7,6,5,4,3,2,1] [1,0]):=by kernel_rfl
theorem wm32_0:PtsOk Tryz.prog toldBy8 17 wE32 [16,15,14,13,12,11,10,9,8,7,6,5,4,3,2,1] [1,0] wr32_0:=fun θ=>by kernel_rfl
theorem wm32_1:PtsOk Tryz.prog toldBy8 17 wE32 [16,15,14,13,12,11,10,9,8,7,6,5,4,3,2,1] [1,0] wr32_1:=fun θ=>by kernel_rfl
theorem wm32_2:PtsOk Tryz.prog toldBy8 17 wE32 [16,15,14,13,12,11,10,9,8,7,6,5,4,3,2,1] [1,0] wr32_2:=fun θ=>by kernel_rfl
theorem wm32_3:PtsOk Tryz.prog toldBy8 17 wE32 [16,15,14,13,12,11,10,9,8,7,6,5,4,3,2,1] [1,0] wr32_3:=fun θ=>by kernel_rfl
theorem wm32_4:PtsOk Tryz.prog toldBy8 17 wE32 [16,15,14,13,12,11,10,9,8,7,6,5,4,3,2,1] [1,0] wr32_4:=fun θ=>by kernel_rfl
theorem wm32_5:PtsOk Tryz.prog toldBy8 17 wE32 [16,15,14,13,12,11,10,9,8,7,6,5,4,3,2,1] [1,0] wr32_5:=fun θ=>by kernel_rfl
theorem wm32_6:PtsOk Tryz.prog toldBy8 17 wE32 [16,15,14,13,12,11,10,9,8,7,6,5,4,3,2,1] [1,0] wr32_6:=fun θ=>by kernel_rfl
theorem wm33(θ:Th):mqB Tryz.prog toldBy8 17 wE33 θ=some (wE33.out θ,idE θ [10,9,8,7,6,5,4,3,2,1] [1,0]):=by kernel_rfl
theorem wm34(θ:Th):mqB Tryz.prog toldBy8 17 wE34 θ=some (wE34.out θ,idE θ [] []):=by kernel_rfl
theorem wm35(θ:Th):mqB Tryz.prog toldBy8 17 wE35 θ=some (wE35.out θ,idE θ [] []):=by kernel_rfl
theorem wm36_0:PtsOk Tryz.prog toldBy8 17 wE36 [9,8,7,6,5,4,3,2,1] [1,0] wr36_0:=fun θ=>by kernel_rfl
theorem wm36_1:PtsOk Tryz.prog toldBy8 17 wE36 [9,8,7,6,5,4,3,2,1] [1,0] wr36_1:=fun θ=>by kernel_rfl
theorem wm36_2:PtsOk Tryz.prog toldBy8 17 wE36 [9,8,7,6,5,4,3,2,1] [1,0] wr36_2:=fun θ=>by kernel_rfl
theorem wm37_0:PtsOk Tryz.prog toldBy8 17 wE37 [9,8,7,6,5,4,3,2,1] [1,0] wr37_0:=fun θ=>by kernel_rfl
theorem wm37_1:PtsOk Tryz.prog toldBy8 17 wE37 [9,8,7,6,5,4,3,2,1] [1,0] wr37_1:=fun θ=>by kernel_rfl
theorem wm37_2:PtsOk Tryz.prog toldBy8 17 wE37 [9,8,7,6,5,4,3,2,1] [1,0] wr37_2:=fun θ=>by kernel_rfl
end Go.Proofs.YtibobihgolfplaaGreatDoor.Ev
