/-
  annunciator/ctrl.Do at some places. (Printed by tools/mqgen.py.)
-/
import Derived.Test.YtibobihgolfplaaGreatDoorBzT
import Derived.Test.YtibobihgolfplaaGreatDoorHM
set_option maxRecDepth 1000000
set_option linter.unusedVariables false
namespace Go.Proofs.YtibobihgolfplaaGreatDoor.Ev
open Go
theorem wm37_3:PtsOk Tryz.prog toldBy8 17 wE37 [9,8,7,6,5,4,3,2,1] [1,0] wr37_3:=fun θ=>by kernel_rfl
theorem wm37_4:PtsOk Tryz.prog toldBy8 17 wE37 [9,8,7,6,5,4,3,2,1] [1,0] wr37_4:=fun θ=>by kernel_rfl
theorem wm38_0:PtsOk Tryz.prog toldBy8 17 wE38 [8,7,6,5,4,3,2,1] [1,0] wr38_0:=fun θ=>by kernel_rfl
theorem wm38_1:PtsOk Tryz.prog toldBy8 17 wE38 [8,7,6,5,4,3,2,1] [1,0] wr38_1:=fun θ=>by kernel_rfl
theorem wm38_2:PtsOk Tryz.prog toldBy8 17 wE38 [8,7,6,5,4,3,2,1] [1,0] wr38_2:=fun θ=>by kernel_rfl
theorem wm38_3:PtsOk Tryz.prog toldBy8 17 wE38 [8,7,6,5,4,3,2,1] [1,0] wr38_3:=fun θ=>by kernel_rfl
theorem wm38_4:PtsOk Tryz.prog toldBy8 17 wE38 [8,7,6,5,4,3,2,1] [1,0] wr38_4:=fun θ=>by kernel_rfl
theorem wm39(θ:Th):mqB Tryz.prog toldBy8 17 wE39 θ=some (wE39.out θ,idE θ [7,6,5,4,3,2,1] [1,0]):=by kernel_rfl
theorem wm40_0:PtsOk Tryz.prog toldBy8 17 wE40 [18,17,16,15,14,13,12,11,10,9,8,7,6,5,4,3,2,1] [1,0] wr40_0:=fun θ=>by kernel_rfl
theorem wm40_1:PtsOk Tryz.prog toldBy8 17 wE40 [18,17,16,15,14,13,12,11,10,9,8,7,6,5,4,3,2,1] [1,0] wr40_1:=fun θ=>by kernel_rfl
theorem wm40_2:PtsOk Tryz.prog toldBy8 17 wE40 [18,17,16,15,14,13,12,11,10,9,8,7,6,5,4,3,2,1] [1,0] wr40_2:=fun θ=>by kernel_rfl
theorem wm40_3:PtsOk Tryz.prog toldBy8 17 wE40 [18,17,16,15,14,13,12,11,10,9,8,7,6,5,4,3,2,1] [1,0] wr40_3:=fun θ=>by kernel_rfl
theorem wm40_4:PtsOk Tryz.prog toldBy8 17 wE40 [18,17,16,15,14,13,12,11,10,9,8,7,6,5,4,3,2,1] [1,0] wr40_4:=fun θ=>by kernel_rfl
theorem wm40_5:PtsOk Tryz.prog toldBy8 17 wE40 [18,17,16,15,14,13,12,11,10,9,8,7,6,5,4,3,2,1] [1,0] wr40_5:=fun θ=>by kernel_rfl
theorem wm41(θ:Th):mqB Tryz.prog toldBy8 17 wE41 θ=some (wE41.out θ,idE θ [12,11,10,9,8,7,6,5,4,3,2,1] [1,0]):=by kernel_rfl
theorem wm42(θ:Th):mqB Tryz.prog toldBy8 17 wE42 θ=some (wE42.out θ,idE θ [] []):=by kernel_rfl
theorem wm43(θ:Th):mqB Tryz.prog toldBy8 17 wE43 θ=some (wE43.out θ,idE θ [] []):=by kernel_rfl
theorem wm44_0:PtsOk Tryz.prog toldBy8 17 wE44 [10,9,8,7,6,5,4,3,2,1] [1,0] wr44_0:=fun θ=>by kernel_rfl
theorem wm44_1:PtsOk Tryz.prog toldBy8 17 wE44 [10,9,8,7,6,5,4,3,2,1] [1,0] wr44_1:=fun θ=>by kernel_rfl
theorem wm44_2:PtsOk Tryz.prog toldBy8 17 wE44 [10,9,8,7,6,5,4,3,2,1] [1,0] wr44_2:=fun θ=>by kernel_rfl
theorem wm45_0:PtsOk Tryz.prog toldBy8 17 wE45 [10,9,8,7,6,5,4,3,2,1] [1,0] wr45_0:=fun θ=>by kernel_rfl
theorem wm45_1:PtsOk Tryz.prog toldBy8 17 wE45 [10,9,8,7,6,5,4,3,2,1] [1,0] wr45_1:=fun θ=>by kernel_rfl
theorem wm45_2:PtsOk Tryz.prog toldBy8 17 wE45 [10,9,8,7,6,5,4,3,2,1] [1,0] wr45_2:=fun θ=>by kernel_rfl
theorem wm46_0:PtsOk Tryz.prog toldBy8 17 wE46 [9,8,7,6,5,4,3,2,1] [1,0] wr46_0:=fun θ=>by kernel_rfl
end Go.Proofs.YtibobihgolfplaaGreatDoor.Ev
