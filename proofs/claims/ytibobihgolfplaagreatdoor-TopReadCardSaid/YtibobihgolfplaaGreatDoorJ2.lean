/-
  annunciator/ctrl.Do at some places. (Printed by tools/mqgen.py.)
-/
import Derived.Test.YtibobihgolfplaaGreatDoorRfT
import Derived.Test.YtibobihgolfplaaGreatDoorHM
set_option maxRecDepth 1000000
set_option linter.unusedVariables false
namespace Go.Proofs.YtibobihgolfplaaGreatDoor.Ev
open Go
theorem sm47(θ:Th):mqB Tryz.prog toldRe8 17 sE47 θ=some (sE47.out θ,idE θ [3,2,1] [1,0]):=by kernel_rfl
theorem sm48(θ:Th):mqB Tryz.prog toldRe8 17 sE48 θ=some (sE48.out θ,idE θ [3,2,1] [1,0]):=by kernel_rfl
theorem sm49(θ:Th):mqB Tryz.prog toldRe8 17 sE49 θ=some (sE49.out θ,idE θ [] []):=by kernel_rfl
theorem sm50(θ:Th):mqB Tryz.prog toldRe8 17 sE50 θ=some (sE50.out θ,idE θ [3,2,1] [2,1,0]):=by kernel_rfl
theorem sm51(θ:Th):mqB Tryz.prog toldRe8 17 sE51 θ=some (sE51.out θ,idE θ [3,2,1] [2,1,0]):=by kernel_rfl
theorem sm52(θ:Th):mqB Tryz.prog toldRe8 17 sE52 θ=some (sE52.out θ,idE θ [3,2,1] [2,1,0]):=by kernel_rfl
theorem sm53(θ:Th):mqB Tryz.prog toldRe8 17 sE53 θ=some (sE53.out θ,idE θ [3,2,1] [2,1,0]):=by kernel_rfl
theorem sm54(θ:Th):mqB Tryz.prog toldRe8 17 sE54 θ=some (sE54.out θ,idE θ [2,1] [1,0]):=by kernel_rfl
theorem sm55(θ:Th):mqB Tryz.prog toldRe8 17 sE55 θ=some (sE55.out θ,idE θ [2,1] [1,0]):=by kernel_rfl
theorem sm56(θ:Th):mqB Tryz.prog toldRe8 17 sE56 θ=some (sE56.out θ,idE θ [3,2,1] [1,0]):=by kernel_rfl
theorem sm57(θ:Th):mqB Tryz.prog toldRe8 17 sE57 θ=some (sE57.out θ,idE θ [5,4,3,2,1] [1,0]):=by kernel_rfl
theorem sm58(θ:Th):mqB Tryz.prog toldRe8 17 sE58 θ=some (sE58.out θ,idE θ [5,4,3,2,1] [1,0]):=by kernel_rfl
theorem sm59(θ:Th):mqB Tryz.prog toldRe8 17 sE59 θ=some (sE59.out θ,idE θ [5,4,3,2,1] [1,0]):=by kernel_rfl
theorem sm60(θ:Th):mqB Tryz.prog toldRe8 17 sE60 θ=some (sE60.out θ,idE θ [4,3,2,1] [1,0]):=by kernel_rfl
theorem sm61(θ:Th):mqB Tryz.prog toldRe8 17 sE61 θ=some (sE61.out θ,idE θ [4,3,2,1] [1,0]):=by kernel_rfl
theorem sm62(θ:Th):mqB Tryz.prog toldRe8 17 sE62 θ=some (sE62.out θ,idE θ [3,2,1] [1,0]):=by kernel_rfl
theorem sm63(θ:Th):mqB Tryz.prog toldRe8 17 sE63 θ=some (sE63.out θ,idE θ [3,2,1] [1,0]):=by kernel_rfl
theorem sm64(θ:Th):mqB Tryz.prog toldRe8 17 sE64 θ=some (sE64.out θ,idE θ [3,2,1] [1,0]):=by kernel_rfl
theorem sm65_0:PtsOk Tryz.prog toldRe8 17 sE65 [7,6,5,4,3,2,1] [1,0] sr65_0:=fun θ=>by kernel_rfl
theorem sm66(θ:Th):mqB Tryz.prog toldRe8 17 sE66 θ=some (sE66.out θ,idE θ [4,3,2,1] [1,0]):=by kernel_rfl
theorem sm67(θ:Th):mqB Tryz.prog toldRe8 17 sE67 θ=some (sE67.out θ,idE θ [6,5,4,3,2,1] [3,2,1,0]):=by kernel_rfl
theorem sm68_0:PtsOk Tryz.prog toldRe8 17 sE68 [7,6,5,4,3,2,1] [2,1,0] sr68_0:=fun θ=>by kernel_rfl
theorem sm69(θ:Th):mqB Tryz.prog toldRe8 17 sE69 θ=some (sE69.out θ,idE θ [3,2,1] [2,1,0]):=by kernel_rfl
theorem sm70(θ:Th):mqB Tryz.prog toldRe8 17 sE70 θ=some (sE70.out θ,idE θ [4,3,2,1] [3,2,1,0]):=by kernel_rfl
theorem sm71_0:PtsOk Tryz.prog toldRe8 17 sE71 [8,7,6,5,4,3,2,1] [2,1,0] sr71_0:=fun θ=>by kernel_rfl
theorem sm72(θ:Th):mqB Tryz.prog toldRe8 17 sE72 θ=some (sE72.out θ,idE θ [4,3,2,1] [2,1,0]):=by kernel_rfl
theorem sm73(θ:Th):mqB Tryz.prog toldRe8 17 sE73 θ=some (sE73.out θ,idE θ [6,5,4,3,2,1] [3,2,1,0]):=by kernel_rfl
theorem sm74(θ:Th):mqB Tryz.prog toldRe8 17 sE74 θ=some (sE74.out θ,idE θ [3,2,1] [1,0]):=by kernel_rfl
theorem sm75(θ:Th):mqB Tryz.prog toldRe8 17 sE75 θ=some (sE75.out θ,idE θ [3,2,1] [2,1,0]):=by kernel_rfl
theorem sm76(θ:Th):mqB Tryz.prog toldRe8 17 sE76 θ=some (sE76.out θ,idE θ [3,2,1] [2,1,0]):=by kernel_rfl
theorem sm77(θ:Th):mqB Tryz.prog toldRe8 17 sE77 θ=some (sE77.out θ,idE θ [3,2,1] [2,1,0]):=by kernel_rfl
theorem sm78(θ:Th):mqB Tryz.prog toldRe8 17 sE78 θ=some (sE78.out θ,idE θ [3,2,1] [2,1,0]):=by kernel_rfl
theorem sm79(θ:Th):mqB Tryz.prog toldRe8 17 sE79 θ=some (sE79.out θ,idE θ [] []):=by kernel_rfl
theorem sm80(θ:Th):mqB Tryz.prog toldRe8 17 sE80 θ=some (sE80.out θ,idE θ [3,2,1] [1,0]):=by kernel_rfl
theorem sm81(θ:Th):mqB Tryz.prog toldRe8 17 sE81 θ=some (sE81.out θ,idE θ [4,3,2,1] [2,1,0]):=by kernel_rfl
theorem sm82_0:PtsOk Tryz.prog toldRe8 17 sE82 [7,6,5,4,3,2,1] [1,0] sr82_0:=fun θ=>by kernel_rfl
theorem sm82_1:PtsOk Tryz.prog toldRe8 17 sE82 [7,6,5,4,3,2,1] [1,0] sr82_1:=fun θ=>by kernel_rfl
theorem sm82_2:PtsOk Tryz.prog toldRe8 17 sE82 [7,6,5,4,3,2,1] [1,0] sr82_2:=fun θ=>by kernel_rfl
theorem sm83(θ:Th):mqB Tryz.prog toldRe8 17 sE83 θ=some (sE83.out θ,idE θ [2,1] [1,0]):=by kernel_rfl
theorem sm84(θ:Th):mqB Tryz.prog toldRe8 17 sE84 θ=some (sE84.out θ,idE θ [] []):=by kernel_rfl
theorem sm85(θ:Th):mqB Tryz.prog toldRe8 17 sE85 θ=some (sE85.out θ,idE θ [5,4,3,2,1] [1,0]):=by kernel_rfl
theorem sm86_0:PtsOk Tryz.prog toldRe8 17 sE86 [8,7,6,5,4,3,2,1] [2,1,0] sr86_0:=fun θ=>by kernel_rfl
theorem sm87(θ:Th):mqB Tryz.prog toldRe8 17 sE87 θ=some (sE87.out θ,idE θ [4,3,2,1] [1,0]):=by kernel_rfl
theorem sm88(θ:Th):mqB Tryz.prog toldRe8 17 sE88 θ=some (sE88.out θ,idE θ [6,5,4,3,2,1] [2,1,0]):=by kernel_rfl
theorem sm89(θ:Th):mqB Tryz.prog toldRe8 17 sE89 θ=some (sE89.out θ,idE θ [] []):=by kernel_rfl
theorem sm90(θ:Th):mqB Tryz.prog toldRe8 17 sE90 θ=some (sE90.out θ,idE θ [4,3,2,1] [1,0]):=by kernel_rfl
end Go.Proofs.YtibobihgolfplaaGreatDoor.Ev
