/-
  annunciator/ctrl.twin at some places. (Printed by tools/mqgen.py.)
-/
import Derived.Test.YtibobihgolfplaaGreatDoorByT
import Derived.Test.YtibobihgolfplaaGreatDoorVa
set_option maxRecDepth 1000000
set_option linter.unusedVariables false
namespace Go.Proofs.YtibobihgolfplaaGreatDoor.Ev
open Go
theorem qm0(θ:Th):mqB Tryz.prog toldV 32 qE0 θ=some (qE0.out θ,idE θ [] []):=by kernel_rfl
theorem qm1(θ:Th):mqB Tryz.prog toldV 32 qE1 θ=some (qE1.out θ,idE θ [] []):=by kernel_rfl
theorem qm2(θ:Th):mqB Tryz.prog toldV 32 qE2 θ=some (qE2.out θ,idE θ [] []):=by kernel_rfl
theorem qm3(θ:Th):mqB Tryz.prog toldV 32 qE3 θ=some (qE3.out θ,idE θ [7,6,5,4,3,2,1] [1,0]):=by kernel_rfl
theorem qm4(θ:Th):mqB Tryz.prog toldV 32 qE4 θ=some (qE4.out θ,idE θ [7,6,5,4,3,2,1] [1,0]):=by kernel_rfl
theorem qm5(θ:Th):mqB Tryz.prog toldV 32 qE5 θ=some (qE5.out θ,idE θ [6,5,4,3,2,1] [1,0]):=by kernel_rfl
theorem qm6(θ:Th):mqB Tryz.prog toldV 32 qE6 θ=some (qE6.out θ,idE θ [8,7,6,5,4,3,2,1] [1,0]):=by kernel_rfl
theorem qm7(θ:Th):mqB Tryz.prog toldV 32 qE7 θ=some (qE7.out θ,idE θ [10,9,8,7,6,5,4,3,2,1] [1,0]):=by kernel_rfl
theorem qm8(θ:Th):mqB Tryz.prog toldV 32 qE8 θ=some (qE8.out θ,idE θ [12,11,10,9,8,7,6,5,4,3] [2,1,0]):=by kernel_rfl
theorem qm9(θ:Th):mqB Tryz.prog toldV 32 qE9 θ=some (qE9.out θ,idE θ [14,13,12,11,10,9,8,7,6,5,4,3] [3,2,1,0]):=by kernel_rfl
theorem qm10(θ:Th):mqB Tryz.prog toldV 32 qE10 θ=some (qE10.out θ,idE θ [14,13,12,11,10,9,8,7,6,5,4,3] [3,2,1,0]):=by kernel_rfl
theorem qm11(θ:Th):mqB Tryz.prog toldV 32 qE11 θ=some (qE11.out θ,idE θ [12,11,10,9,8,7,6,5,4,3] [2,1,0]):=by kernel_rfl
theorem qm12(θ:Th):mqB Tryz.prog toldV 32 qE12 θ=some (qE12.out θ,idE θ [6,5,4,3,2,1] [1,0]):=by kernel_rfl
theorem qm13(θ:Th):mqB Tryz.prog toldV 32 qE13 θ=some (qE13.out θ,idE θ [11,10,9,8,7,6,5,4,3] [2,1,0]):=by kernel_rfl
theorem qm14(θ:Th):mqB Tryz.prog toldV 32 qE14 θ=some (qE14.out θ,idE θ [13,12,11,10,9,8,7,6,5,4,3] [3,2,1,0]):=by kernel_rfl
theorem qm15(θ:Th):mqB Tryz.prog toldV 32 qE15 θ=some (qE15.out θ,idE θ [13,12,11,10,9,8,7,6,5,4,3] [3,2,1,0]):=by kernel_rfl
theorem qm16(θ:Th):mqB Tryz.prog toldV 32 qE16 θ=some (qE16.out θ,idE θ [11,10,9,8,7,6,5,4,3] [2,1,0]):=by kernel_rfl
theorem qm17(θ:Th):mqB Tryz.prog toldV 32 qE17 θ=some (qE17.out θ,idE θ [5,4,3,2,1] [1,0]):=by kernel_rfl
theorem qm18(θ:Th):mqB Tryz.prog toldV 32 qE18 θ=some (qE18.out θ,idE θ [] []):=by kernel_rfl
theorem qm19(θ:Th):mqB Tryz.prog toldV 32 qE19 θ=some (qE19.out θ,idE θ [] []):=by kernel_rfl
theorem qm20(θ:Th):mqB Tryz.prog toldV 32 qE20 θ=some (qE20.out θ,idE θ [8,7,6,5,4,3,2,1] [1,0]):=by kernel_rfl
theorem qm21(θ:Th):mqB Tryz.prog toldV 32 qE21 θ=some (qE21.out θ,idE θ [8,7,6,5,4,3,2,1] [1,0]):=by kernel_rfl
theorem qm22(θ:Th):mqB Tryz.prog toldV 32 qE22 θ=some (qE22.out θ,idE θ [7,6,5,4,3,2,1] [1,0]):=by kernel_rfl
theorem qm23(θ:Th):mqB Tryz.prog toldV 32 qE23 θ=some (qE23.out θ,idE θ [6,5,4,3,2,1] [1,0]):=by kernel_rfl
theorem qm24(θ:Th):mqB Tryz.prog toldV 32 qE24 θ=some (qE24.out θ,idE θ [8,7,6,5,4,3,2,1] [1,0]):=by kernel_rfl
theorem qm25(θ:Th):mqB Tryz.prog toldV 32 qE25 θ=some (qE25.out θ,idE θ [10,9,8,7,6,5,4,3,2,1] [1,0]):=by kernel_rfl
theorem qm26(θ:Th):mqB Tryz.prog toldV 32 qE26 θ=some (qE26.out θ,idE θ [10,9,8,7,6,5,4,3,2,1] [1,0]):=by kernel_rfl
theorem qm27(θ:Th):mqB Tryz.prog toldV 32 qE27 θ=some (qE27.out θ,idE θ [12,11,10,9,8,7,6,5,4,3,2,1] [1,0]):=by kernel_rfl
theorem qm28(θ:Th):mqB Tryz.prog toldV 32 qE28 θ=some (qE28.out θ,idE θ [14,13,12,11,10,9,8,7,6,5,4,3] [2,1,0]):=by kernel_rfl
theorem qm29(θ:Th):mqB Tryz.prog toldV 32 qE29 θ=some (qE29.out θ,idE θ [16,15,14,13,12,11,10,9,8,7,6,5,4,3] [3,2,1,0]):=by kernel_rfl
theorem qm30(θ:Th):mqB Tryz.prog toldV 32 qE30 θ=some (qE30.out θ,idE θ [16,15,14,13,12,11,10,9,8,7,6,5,4,3] [3,2,1,0]):=by kernel_rfl
theorem qm31(θ:Th):mqB Tryz.prog toldV 32 qE31 θ=some (qE31.out θ,idE θ [14,13,12,11,10,9,8,7,6,5,4,3] [2,1,0]):=by kernel_rfl
end Go.Proofs.YtibobihgolfplaaGreatDoor.Ev
