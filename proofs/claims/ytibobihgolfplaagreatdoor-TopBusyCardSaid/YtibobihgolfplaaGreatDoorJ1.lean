/-
  annunciator/ctrl.Do at some places. (Printed by tools/mqgen.py.)
-/
import Derived.Test.YtibobihgolfplaaGreatDoorBzT
import Derived.Test.YtibobihgolfplaaGreatDoorHM
set_option maxRecDepth 1000000
set_option linter.unusedVariables false
namespace Go.Proofs.YtibobihgolfplaaGreatDoor.Ev
open Go
theorem wm15(θ:Th):mqB Tryz.prog toldBy8 17 wE15 θ=some (wE15.out θ,idE θ [] []):=by kernel_rfl
theorem wm16(θ:Th):mqB Tryz.prog toldBy8 17 wE16 θ=some (wE16.out θ,idE θ [] []):=by kernel_rfl
theorem wm17_0:PtsOk Tryz.prog toldBy8 17 wE17 [7,6,5,4,3,2,1] [1,0] wr17_0:=fun θ=>by kernel_rfl
theorem wm17_1:PtsOk Tryz.prog toldBy8 17 wE17 [7,6,5,4,3,2,1] [1,0] wr17_1:=fun θ=>by kernel_rfl
theorem wm17_2:PtsOk Tryz.prog toldBy8 17 wE17 [7,6,5,4,3,2,1] [1,0] wr17_2:=fun θ=>by kernel_rfl
theorem wm18(θ:Th):mqB Tryz.prog toldBy8 17 wE18 θ=some (wE18.out θ,idE θ [7,6,5,4,3,2,1] [1,0]):=by kernel_rfl
theorem wm19(θ:Th):mqB Tryz.prog toldBy8 17 wE19 θ=some (wE19.out θ,idE θ [6,5,4,3,2,1] [1,0]):=by kernel_rfl
theorem wm20(θ:Th):mqB Tryz.prog toldBy8 17 wE20 θ=some (wE20.out θ,idE θ [6,5,4,3,2,1] [1,0]):=by kernel_rfl
theorem wm21_0:PtsOk Tryz.prog toldBy8 17 wE21 [12,11,10,9,8,7,6,5,4,3,2,1] [1,0] wr21_0:=fun θ=>by kernel_rfl
theorem wm21_1:PtsOk Tryz.prog toldBy8 17 wE21 [12,11,10,9,8,7,6,5,4,3,2,1] [1,0] wr21_1:=fun θ=>by kernel_rfl
theorem wm21_2:PtsOk Tryz.prog toldBy8 17 wE21 [12,11,10,9,8,7,6,5,4,3,2,1] [1,0] wr21_2:=fun θ=>by kernel_rfl
theorem wm22(θ:Th):mqB Tryz.prog toldBy8 17 wE22 θ=some (wE22.out θ,idE θ [8,7,6,5,4,3,2,1] [1,0]):=by kernel_rfl
theorem wm23(θ:Th):mqB Tryz.prog toldBy8 17 wE23 θ=some (wE23.out θ,idE θ [] []):=by kernel_rfl
theorem wm24(θ:Th):mqB Tryz.prog toldBy8 17 wE24 θ=some (wE24.out θ,idE θ [] []):=by kernel_rfl
theorem wm25_0:PtsOk Tryz.prog toldBy8 17 wE25 [8,7,6,5,4,3,2,1] [1,0] wr25_0:=fun θ=>by kernel_rfl
theorem wm25_1:PtsOk Tryz.prog toldBy8 17 wE25 [8,7,6,5,4,3,2,1] [1,0] wr25_1:=fun θ=>by kernel_rfl
theorem wm25_2:PtsOk Tryz.prog toldBy8 17 wE25 [8,7,6,5,4,3,2,1] [1,0] wr25_2:=fun θ=>by kernel_rfl
theorem wm26_0:PtsOk Tryz.prog toldBy8 17 wE26 [8,7,6,5,4,3,2,1] [1,0] wr26_0:=fun θ=>by kernel_rfl
theorem wm26_1:PtsOk Tryz.prog toldBy8 17 wE26 [8,7,6,5,4,3,2,1] [1,0] wr26_1:=fun θ=>by kernel_rfl
theorem wm26_2:PtsOk Tryz.prog toldBy8 17 wE26 [8,7,6,5,4,3,2,1] [1,0] wr26_2:=fun θ=>by kernel_rfl
theorem wm26_3:PtsOk Tryz.prog toldBy8 17 wE26 [8,7,6,5,4,3,2,1] [1,0] wr26_3:=fun θ=>by kernel_rfl
theorem wm27(θ:Th):mqB Tryz.prog toldBy8 17 wE27 θ=some (wE27.out θ,idE θ [7,6,5,4,3,2,1] [1,0]):=by kernel_rfl
theorem wm28(θ:Th):mqB Tryz.prog toldBy8 17 wE28 θ=some (wE28.out θ,idE θ [6,5,4,3,2,1] [1,0]):=by kernel_rfl
theorem wm29(θ:Th):mqB Tryz.prog toldBy8 17 wE29 θ=some (wE29.out θ,idE θ [6,5,4,3,2,1] [1,0]):=by kernel_rfl
end Go.Proofs.YtibobihgolfplaaGreatDoor.Ev
