/-
  annunciator/ctrl.twin at some places. (Printed by tools/mqgen.py.)
-/
import Derived.Test.YtibobihgolfplaaGreatDoorByT
import Derived.Test.YtibobihgolfplaaGreatDoorVa
set_option maxRecDepth 1000000
set_option linter.unusedVariables false
namespace Go.Proofs.YtibobihgolfplaaGreatDoor.Ev
open Go
theorem qm64(θ:Th):mqB Tryz.prog toldV 32 qE64 θ=some (qE64.out θ,idE θ [19,18,17,16,15,14,13,12,11,10,9,8,7,6,5,4,3] [3,2,1,0]):=by kernel_rfl
theorem qm65(θ:Th):mqB Tryz.prog toldV 32 qE65 θ=some (qE65.out θ,idE θ [19,18,17,16,15,14,13,12,11,10,9,8,7,6,5,4,3] [3,2,1,0]):=by kernel_rfl
theorem qm66(θ:Th):mqB Tryz.prog toldV 32 qE66 θ=some (qE66.out θ,idE θ [17,16,15,14,13,12,11,10,9,8,7,6,5,4,3] [2,1,0]):=by kernel_rfl
theorem qm67(θ:Th):mqB Tryz.prog toldV 32 qE67 θ=some (qE67.out θ,idE θ [11,10,9,8,7,6,5,4,3,2,1] [1,0]):=by kernel_rfl
theorem qm68(θ:Th):mqB Tryz.prog toldV 32 qE68 θ=some (qE68.out θ,idE θ [14,13,12,11,10,9,8,7,6,5,4,3] [2,1,0]):=by kernel_rfl
theorem qm69(θ:Th):mqB Tryz.prog toldV 32 qE69 θ=some (qE69.out θ,idE θ [16,15,14,13,12,11,10,9,8,7,6,5,4,3] [3,2,1,0]):=by kernel_rfl
theorem qm70(θ:Th):mqB Tryz.prog toldV 32 qE70 θ=some (qE70.out θ,idE θ [16,15,14,13,12,11,10,9,8,7,6,5,4,3] [3,2,1,0]):=by kernel_rfl
theorem qm71(θ:Th):mqB Tryz.prog toldV 32 qE71 θ=some (qE71.out θ,idE θ [14,13,12,11,10,9,8,7,6,5,4,3] [2,1,0]):=by kernel_rfl
theorem qm72(θ:Th):mqB Tryz.prog toldV 32 qE72 θ=some (qE72.out θ,idE θ [8,7,6,5,4,3,2,1] [1,0]):=by kernel_rfl
theorem qm73(θ:Th):mqB Tryz.prog toldV 32 qE73 θ=some (qE73.out θ,idE θ [] []):=by kernel_rfl
theorem qm74(θ:Th):mqB Tryz.prog toldV 32 qE74 θ=some (qE74.out θ,idE θ [] []):=by kernel_rfl
theorem qm75(θ:Th):mqB Tryz.prog toldV 32 qE75 θ=some (qE75.out θ,idE θ [11,10,9,8,7,6,5,4,3,2,1] [1,0]):=by kernel_rfl
theorem qm76(θ:Th):mqB Tryz.prog toldV 32 qE76 θ=some (qE76.out θ,idE θ [11,10,9,8,7,6,5,4,3,2,1] [1,0]):=by kernel_rfl
theorem qm77(θ:Th):mqB Tryz.prog toldV 32 qE77 θ=some (qE77.out θ,idE θ [10,9,8,7,6,5,4,3,2,1] [1,0]):=by kernel_rfl
theorem qm78(θ:Th):mqB Tryz.prog toldV 32 qE78 θ=some (qE78.out θ,idE θ [15,14,13,12,11,10,9,8,7,6,5,4,3,2,1] [1,0]):=by kernel_rfl
theorem qm79(θ:Th):mqB Tryz.prog toldV 32 qE79 θ=some (qE79.out θ,idE θ [16,15,14,13,12,11,10,9,8,7,6,5,4,3,2,1] [1,0]):=by kernel_rfl
theorem qm80(θ:Th):mqB Tryz.prog toldV 32 qE80 θ=some (qE80.out θ,idE θ [18,17,16,15,14,13,12,11,10,9,8,7,6,5,4,3] [2,1,0]):=by kernel_rfl
theorem qm81(θ:Th):mqB Tryz.prog toldV 32 qE81 θ=some (qE81.out θ,idE θ [20,19,18,17,16,15,14,13,12,11,10,9,8,7,6,5,4,3] [3,2,1,0]):=by kernel_rfl
theorem qm82(θ:Th):mqB Tryz.prog toldV 32 qE82 θ=some (qE82.out θ,idE θ [20,19,18,17,16,15,14,13,12,11,10,9,8,7,6,5,4,3] [3,2,1,0]):=by kernel_rfl
theorem qm83(θ:Th):mqB Tryz.prog toldV 32 qE83 θ=some (qE83.out θ,idE θ [18,17,16,15,14,13,12,11,10,9,8,7,6,5,4,3] [2,1,0]):=by kernel_rfl
theorem qm84(θ:Th):mqB Tryz.prog toldV 32 qE84 θ=some (qE84.out θ,idE θ [12,11,10,9,8,7,6,5,4,3,2,1] [1,0]):=by kernel_rfl
theorem qm85(θ:Th):mqB Tryz.prog toldV 32 qE85 θ=some (qE85.out θ,idE θ [15,14,13,12,11,10,9,8,7,6,5,4,3] [2,1,0]):=by kernel_rfl
theorem qm86(θ:Th):mqB Tryz.prog toldV 32 qE86 θ=some (qE86.out θ,idE θ [17,16,15,14,13,12,11,10,9,8,7,6,5,4,3] [3,2,1,0]):=by kernel_rfl
theorem qm87(θ:Th):mqB Tryz.prog toldV 32 qE87 θ=some (qE87.out θ,idE θ [17,16,15,14,13,12,11,10,9,8,7,6,5,4,3] [3,2,1,0]):=by kernel_rfl
theorem qm88(θ:Th):mqB Tryz.prog toldV 32 qE88 θ=some (qE88.out θ,idE θ [15,14,13,12,11,10,9,8,7,6,5,4,3] [2,1,0]):=by kernel_rfl
theorem qm89(θ:Th):mqB Tryz.prog toldV 32 qE89 θ=some (qE89.out θ,idE θ [9,8,7,6,5,4,3,2,1] [1,0]):=by kernel_rfl
end Go.Proofs.YtibobihgolfplaaGreatDoor.Ev
