/-
  annunciator/sesn.frame at some places. (Printed by tools/mqgen.py.)
-/
import Derived.Test.YtibobihgolfplaaGreatDoorReT
import Derived.Test.YtibobihgolfplaaGreatDoorGl
set_option maxRecDepth 1000000
set_option linter.unusedVariables false
namespace Go.Proofs.YtibobihgolfplaaGreatDoor.Ev
open Go
theorem rm58_0:PtsOk Tryz.prog toldV 232 rE58 [2,1] [0] rr58_0:=fun θ=>by kernel_rfl
theorem rm58_1:PtsOk Tryz.prog toldV 232 rE58 [2,1] [0] rr58_1:=fun θ=>by kernel_rfl
theorem rm58_2:PtsOk Tryz.prog toldV 232 rE58 [2,1] [0] rr58_2:=fun θ=>by kernel_rfl
theorem rm58_3:PtsOk Tryz.prog toldV 232 rE58 [2,1] [0] rr58_3:=fun θ=>by kernel_rfl
theorem rm58_4:PtsOk Tryz.prog toldV 232 rE58 [2,1] [0] rr58_4:=fun θ=>by kernel_rfl
theorem rm58_5:PtsOk Tryz.prog toldV 232 rE58 [2,1] [0] rr58_5:=fun θ=>by kernel_rfl
theorem rm58_6:PtsOk Tryz.prog toldV 232 rE58 [2,1] [0] rr58_6:=fun θ=>by kernel_rfl
theorem rm58_7:PtsOk Tryz.prog toldV 232 rE58 [2,1] [0] rr58_7:=fun θ=>by kernel_rfl
theorem rm58_8:PtsOk Tryz.prog toldV 232 rE58 [2,1] [0] rr58_8:=fun θ=>by kernel_rfl
theorem rm58_9:PtsOk Tryz.prog toldV 232 rE58 [2,1] [0] rr58_9:=fun θ=>by kernel_rfl
theorem rm58_10:PtsOk Tryz.prog toldV 232 rE58 [2,1] [0] rr58_10:=fun θ=>by kernel_rfl
theorem rm58_11:PtsOk Tryz.prog toldV 232 rE58 [2,1] [0] rr58_11:=fun θ=>by kernel_rfl
theorem rm58_12:PtsOk Tryz.prog toldV 232 rE58 [2,1] [0] rr58_12:=fun θ=>by kernel_rfl
theorem rm58_13:PtsOk Tryz.prog toldV 232 rE58 [2,1] [0] rr58_13:=fun θ=>by kernel_rfl
theorem rm58_14:PtsOk Tryz.prog toldV 232 rE58 [2,1] [0] rr58_14:=fun θ=>by kernel_rfl
theorem rm58_15:PtsOk Tryz.prog toldV 232 rE58 [2,1] [0] rr58_15:=fun θ=>by kernel_rfl
end Go.Proofs.YtibobihgolfplaaGreatDoor.Ev
