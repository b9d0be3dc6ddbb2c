/-
  annunciator/ctrl.Do at some places. (Printed by tools/mqgen.py.)
-/
import Derived.Test.YtibobihgolfplaaGreatDoorRfT
import Derived.Test.YtibobihgolfplaaGreatDoorHM
set_option maxRecDepth 1000000
set_option linter.unusedVariables false
namespace Go.Proofs.YtibobihgolfplaaGreatDoor.Ev
open Go
theorem sm0(θ:Th):mqB Tryz.prog toldRe8 17 sE0 θ=some (sE0.out θ,idE θ [] []):=by kernel_rfl
theorem sm1(θ:Th):mqB Tryz.prog toldRe8 17 sE1 θ=some (sE1.out θ,idE θ [0] []):=by kernel_rfl
theorem sm2_0:PtsOk Tryz.prog toldRe8 17 sE2 [5,4,3,2,1,0] [] sr2_0:=fun θ=>by kernel_rfl
theorem sm2_1:PtsOk Tryz.prog toldRe8 17 sE2 [5,4,3,2,1,0] [] sr2_1:=fun θ=>by kernel_rfl
theorem sm2_2:PtsOk Tryz.prog toldRe8 17 sE2 [5,4,3,2,1,0] [] sr2_2:=fun θ=>by kernel_rfl
theorem sm3(θ:Th):mqB Tryz.prog toldRe8 17 sE3 θ=some (sE3.out θ,idE θ [] []):=by kernel_rfl
theorem sm4(θ:Th):mqB Tryz.prog toldRe8 17 sE4 θ=some (sE4.out θ,idE θ [4,3,2,1] [1,0]):=by kernel_rfl
theorem sm5(θ:Th):mqB Tryz.prog toldRe8 17 sE5 θ=some (sE5.out θ,idE θ [5,4,3,2,1] [1,0]):=by kernel_rfl
theorem sm6(θ:Th):mqB Tryz.prog toldRe8 17 sE6 θ=some (sE6.out θ,idE θ [7,6,5,4,3,2,1] [2,1,0]):=by kernel_rfl
theorem sm7_0:PtsOk Tryz.prog toldRe8 17 sE7 [10,9,8,7,6,5,4,3,2,1] [1,0] sr7_0:=fun θ=>by kernel_rfl
theorem sm8(θ:Th):mqB Tryz.prog toldRe8 17 sE8 θ=some (sE8.out θ,idE θ [6,5,4,3,2,1] [1,0]):=by kernel_rfl
theorem sm9(θ:Th):mqB Tryz.prog toldRe8 17 sE9 θ=some (sE9.out θ,idE θ [8,7,6,5,4,3,2,1] [2,1,0]):=by kernel_rfl
theorem sm10_0:PtsOk Tryz.prog toldRe8 17 sE10 [10,9,8,7,6,5,4,3,2,1] [1,0] sr10_0:=fun θ=>by kernel_rfl
theorem sm11(θ:Th):mqB Tryz.prog toldRe8 17 sE11 θ=some (sE11.out θ,idE θ [6,5,4,3,2,1] [1,0]):=by kernel_rfl
theorem sm12(θ:Th):mqB Tryz.prog toldRe8 17 sE12 θ=some (sE12.out θ,idE θ [8,7,6,5,4,3,2,1] [2,1,0]):=by kernel_rfl
theorem sm13_0:PtsOk Tryz.prog toldRe8 17 sE13 [10,9,8,7,6,5,4,3,2,1] [1,0] sr13_0:=fun θ=>by kernel_rfl
theorem sm14(θ:Th):mqB Tryz.prog toldRe8 17 sE14 θ=some (sE14.out θ,idE θ [6,5,4,3,2,1] [1,0]):=by kernel_rfl
theorem sm15(θ:Th):mqB Tryz.prog toldRe8 17 sE15 θ=some (sE15.out θ,idE θ [8,7,6,5,4,3,2,1] [2,1,0]):=by kernel_rfl
theorem sm16_0:PtsOk Tryz.prog toldRe8 17 sE16 [10,9,8,7,6,5,4,3,2,1] [1,0] sr16_0:=fun θ=>by kernel_rfl
theorem sm17(θ:Th):mqB Tryz.prog toldRe8 17 sE17 θ=some (sE17.out θ,idE θ [5,4,3,2,1] [1,0]):=by kernel_rfl
theorem sm18(θ:Th):mqB Tryz.prog toldRe8 17 sE18 θ=some (sE18.out θ,idE θ [7,6,5,4,3,2,1] [2,1,0]):=by kernel_rfl
theorem sm19_0:PtsOk Tryz.prog toldRe8 17 sE19 [9,8,7,6,5,4,3,2,1] [1,0] sr19_0:=fun θ=>by kernel_rfl
theorem sm19_1:PtsOk Tryz.prog toldRe8 17 sE19 [9,8,7,6,5,4,3,2,1] [1,0] sr19_1:=fun θ=>by kernel_rfl
theorem sm20(θ:Th):mqB Tryz.prog toldRe8 17 sE20 θ=some (sE20.out θ,idE θ [5,4,3,2,1] [1,0]):=by kernel_rfl
theorem sm21(θ:Th):mqB Tryz.prog toldRe8 17 sE21 θ=some (sE21.out θ,idE θ [7,6,5,4,3,2,1] [2,1,0]):=by kernel_rfl
theorem sm22_0:PtsOk Tryz.prog toldRe8 17 sE22 [9,8,7,6,5,4,3,2,1] [1,0] sr22_0:=fun θ=>by kernel_rfl
theorem sm23(θ:Th):mqB Tryz.prog toldRe8 17 sE23 θ=some (sE23.out θ,idE θ [5,4,3,2,1] [1,0]):=by kernel_rfl
theorem sm24(θ:Th):mqB Tryz.prog toldRe8 17 sE24 θ=some (sE24.out θ,idE θ [7,6,5,4,3,2,1] [2,1,0]):=by kernel_rfl
theorem sm25_0:PtsOk Tryz.prog toldRe8 17 sE25 [9,8,7,6,5,4,3,2,1] [1,0] sr25_0:=fun θ=>by kernel_rfl
theorem sm26(θ:Th):mqB Tryz.prog toldRe8 17 sE26 θ=some (sE26.out θ,idE θ [5,4,3,2,1] [1,0]):=by kernel_rfl
theorem sm27(θ:Th):mqB Tryz.prog toldRe8 17 sE27 θ=some (sE27.out θ,idE θ [7,6,5,4,3,2,1] [2,1,0]):=by kernel_rfl
theorem sm28_0:PtsOk Tryz.prog toldRe8 17 sE28 [8,7,6,5,4,3,2,1] [1,0] sr28_0:=fun θ=>by kernel_rfl
theorem sm29(θ:Th):mqB Tryz.prog toldRe8 17 sE29 θ=some (sE29.out θ,idE θ [4,3,2,1] [1,0]):=by kernel_rfl
theorem sm30(θ:Th):mqB Tryz.prog toldRe8 17 sE30 θ=some (sE30.out θ,idE θ [6,5,4,3,2,1] [2,1,0]):=by kernel_rfl
theorem sm31_0:PtsOk Tryz.prog toldRe8 17 sE31 [8,7,6,5,4,3,2,1] [1,0] sr31_0:=fun θ=>by kernel_rfl
theorem sm32(θ:Th):mqB Tryz.prog toldRe8 17 sE32 θ=some (sE32.out θ,idE θ [4,3,2,1] [1,0]):=by kernel_rfl
theorem sm33(θ:Th):mqB Tryz.prog toldRe8 17 sE33 θ=some (sE33.out θ,idE θ [6,5,4,3,2,1] [2,1,0]):=by kernel_rfl
theorem sm34_0:PtsOk Tryz.prog toldRe8 17 sE34 [8,7,6,5,4,3,2,1] [1,0] sr34_0:=fun θ=>by kernel_rfl
theorem sm35(θ:Th):mqB Tryz.prog toldRe8 17 sE35 θ=some (sE35.out θ,idE θ [4,3,2,1] [1,0]):=by kernel_rfl
theorem sm36(θ:Th):mqB Tryz.prog toldRe8 17 sE36 θ=some (sE36.out θ,idE θ [6,5,4,3,2,1] [2,1,0]):=by kernel_rfl
theorem sm37_0:PtsOk Tryz.prog toldRe8 17 sE37 [8,7,6,5,4,3,2,1] [2,1,0] sr37_0:=fun θ=>by kernel_rfl
theorem sm38(θ:Th):mqB Tryz.prog toldRe8 17 sE38 θ=some (sE38.out θ,idE θ [4,3,2,1] [2,1,0]):=by kernel_rfl
theorem sm39(θ:Th):mqB Tryz.prog toldRe8 17 sE39 θ=some (sE39.out θ,idE θ [4,3,2,1] [1,0]):=by kernel_rfl
theorem sm40(θ:Th):mqB Tryz.prog toldRe8 17 sE40 θ=some (sE40.out θ,idE θ [5,4,3,2,1] [1,0]):=by kernel_rfl
theorem sm41(θ:Th):mqB Tryz.prog toldRe8 17 sE41 θ=some (sE41.out θ,idE θ [5,4,3,2,1] [1,0]):=by kernel_rfl
theorem sm42(θ:Th):mqB Tryz.prog toldRe8 17 sE42 θ=some (sE42.out θ,idE θ [5,4,3,2,1] [1,0]):=by kernel_rfl
theorem sm43(θ:Th):mqB Tryz.prog toldRe8 17 sE43 θ=some (sE43.out θ,idE θ [5,4,3,2,1] [1,0]):=by kernel_rfl
theorem sm44(θ:Th):mqB Tryz.prog toldRe8 17 sE44 θ=some (sE44.out θ,idE θ [4,3,2,1] [1,0]):=by kernel_rfl
theorem sm45(θ:Th):mqB Tryz.prog toldRe8 17 sE45 θ=some (sE45.out θ,idE θ [4,3,2,1] [1,0]):=by kernel_rfl
theorem sm46(θ:Th):mqB Tryz.prog toldRe8 17 sE46 θ=some (sE46.out θ,idE θ [4,3,2,1] [1,0]):=by kernel_rfl
end Go.Proofs.YtibobihgolfplaaGreatDoor.Ev
