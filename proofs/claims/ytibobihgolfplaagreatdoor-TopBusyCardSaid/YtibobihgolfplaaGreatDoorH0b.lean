/-
  annunciator/ctrl.twin at some places. (Printed by tools/mqgen.py.)
-/
import Derived.Test.YtibobihgolfplaaGreatDoorByT
import Derived.Test.YtibobihgolfplaaGreatDoorVa
set_option maxRecDepth 1000000
set_option linter.unusedVariables false
namespace Go.Proofs.YtibobihgolfplaaGreatDoor.Ev
open Go
theorem qm32(θ:Th):mqB Tryz.prog toldV 32 qE32 θ=some (qE32.out θ,idE θ [8,7,6,5,4,3,2,1] [1,0]):=by kernel_rfl
theorem qm33(θ:Th):mqB Tryz.prog toldV 32 qE33 θ=some (qE33.out θ,idE θ [12,11,10,9,8,7,6,5,4,3] [2,1,0]):=by kernel_rfl
theorem qm34(θ:Th):mqB Tryz.prog toldV 32 qE34 θ=some (qE34.out θ,idE θ [14,13,12,11,10,9,8,7,6,5,4,3] [3,2,1,0]):=by kernel_rfl
theorem qm35(θ:Th):mqB Tryz.prog toldV 32 qE35 θ=some (qE35.out θ,idE θ [14,13,12,11,10,9,8,7,6,5,4,3] [3,2,1,0]):=by kernel_rfl
theorem qm36(θ:Th):mqB Tryz.prog toldV 32 qE36 θ=some (qE36.out θ,idE θ [12,11,10,9,8,7,6,5,4,3] [2,1,0]):=by kernel_rfl
theorem qm37(θ:Th):mqB Tryz.prog toldV 32 qE37 θ=some (qE37.out θ,idE θ [6,5,4,3,2,1] [1,0]):=by kernel_rfl
theorem qm38(θ:Th):mqB Tryz.prog toldV 32 qE38 θ=some (qE38.out θ,idE θ [] []):=by kernel_rfl
theorem qm39(θ:Th):mqB Tryz.prog toldV 32 qE39 θ=some (qE39.out θ,idE θ [] []):=by kernel_rfl
theorem qm40(θ:Th):mqB Tryz.prog toldV 32 qE40 θ=some (qE40.out θ,idE θ [9,8,7,6,5,4,3,2,1] [1,0]):=by kernel_rfl
theorem qm41(θ:Th):mqB Tryz.prog toldV 32 qE41 θ=some (qE41.out θ,idE θ [9,8,7,6,5,4,3,2,1] [1,0]):=by kernel_rfl
theorem qm42(θ:Th):mqB Tryz.prog toldV 32 qE42 θ=some (qE42.out θ,idE θ [8,7,6,5,4,3,2,1] [1,0]):=by kernel_rfl
theorem qm43(θ:Th):mqB Tryz.prog toldV 32 qE43 θ=some (qE43.out θ,idE θ [7,6,5,4,3,2,1] [1,0]):=by kernel_rfl
theorem qm44(θ:Th):mqB Tryz.prog toldV 32 qE44 θ=some (qE44.out θ,idE θ [12,11,10,9,8,7,6,5,4,3,2,1] [1,0]):=by kernel_rfl
theorem qm45(θ:Th):mqB Tryz.prog toldV 32 qE45 θ=some (qE45.out θ,idE θ [14,13,12,11,10,9,8,7,6,5,4,3,2,1] [1,0]):=by kernel_rfl
theorem qm46(θ:Th):mqB Tryz.prog toldV 32 qE46 θ=some (qE46.out θ,idE θ [16,15,14,13,12,11,10,9,8,7,6,5,4,3] [2,1,0]):=by kernel_rfl
theorem qm47(θ:Th):mqB Tryz.prog toldV 32 qE47 θ=some (qE47.out θ,idE θ [18,17,16,15,14,13,12,11,10,9,8,7,6,5,4,3] [3,2,1,0]):=by kernel_rfl
theorem qm48(θ:Th):mqB Tryz.prog toldV 32 qE48 θ=some (qE48.out θ,idE θ [18,17,16,15,14,13,12,11,10,9,8,7,6,5,4,3] [3,2,1,0]):=by kernel_rfl
theorem qm49(θ:Th):mqB Tryz.prog toldV 32 qE49 θ=some (qE49.out θ,idE θ [16,15,14,13,12,11,10,9,8,7,6,5,4,3] [2,1,0]):=by kernel_rfl
theorem qm50(θ:Th):mqB Tryz.prog toldV 32 qE50 θ=some (qE50.out θ,idE θ [10,9,8,7,6,5,4,3,2,1] [1,0]):=by kernel_rfl
theorem qm51(θ:Th):mqB Tryz.prog toldV 32 qE51 θ=some (qE51.out θ,idE θ [13,12,11,10,9,8,7,6,5,4,3] [2,1,0]):=by kernel_rfl
theorem qm52(θ:Th):mqB Tryz.prog toldV 32 qE52 θ=some (qE52.out θ,idE θ [15,14,13,12,11,10,9,8,7,6,5,4,3] [3,2,1,0]):=by kernel_rfl
theorem qm53(θ:Th):mqB Tryz.prog toldV 32 qE53 θ=some (qE53.out θ,idE θ [15,14,13,12,11,10,9,8,7,6,5,4,3] [3,2,1,0]):=by kernel_rfl
theorem qm54(θ:Th):mqB Tryz.prog toldV 32 qE54 θ=some (qE54.out θ,idE θ [13,12,11,10,9,8,7,6,5,4,3] [2,1,0]):=by kernel_rfl
theorem qm55(θ:Th):mqB Tryz.prog toldV 32 qE55 θ=some (qE55.out θ,idE θ [7,6,5,4,3,2,1] [1,0]):=by kernel_rfl
theorem qm56(θ:Th):mqB Tryz.prog toldV 32 qE56 θ=some (qE56.out θ,idE θ [] []):=by kernel_rfl
theorem qm57(θ:Th):mqB Tryz.prog toldV 32 qE57 θ=some (qE57.out θ,idE θ [] []):=by kernel_rfl
theorem qm58(θ:Th):mqB Tryz.prog toldV 32 qE58 θ=some (qE58.out θ,idE θ [10,9,8,7,6,5,4,3,2,1] [1,0]):=by kernel_rfl
theorem qm59(θ:Th):mqB Tryz.prog toldV 32 qE59 θ=some (qE59.out θ,idE θ [10,9,8,7,6,5,4,3,2,1] [1,0]):=by kernel_rfl
theorem qm60(θ:Th):mqB Tryz.prog toldV 32 qE60 θ=some (qE60.out θ,idE θ [9,8,7,6,5,4,3,2,1] [1,0]):=by kernel_rfl
theorem qm61(θ:Th):mqB Tryz.prog toldV 32 qE61 θ=some (qE61.out θ,idE θ [14,13,12,11,10,9,8,7,6,5,4,3,2,1] [1,0]):=by kernel_rfl
theorem qm62(θ:Th):mqB Tryz.prog toldV 32 qE62 θ=some (qE62.out θ,idE θ [15,14,13,12,11,10,9,8,7,6,5,4,3,2,1] [1,0]):=by kernel_rfl
theorem qm63(θ:Th):mqB Tryz.prog toldV 32 qE63 θ=some (qE63.out θ,idE θ [17,16,15,14,13,12,11,10,9,8,7,6,5,4,3] [2,1,0]):=by kernel_rfl
end Go.Proofs.YtibobihgolfplaaGreatDoor.Ev
