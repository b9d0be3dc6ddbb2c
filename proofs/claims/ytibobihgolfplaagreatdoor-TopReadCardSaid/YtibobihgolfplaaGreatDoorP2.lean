/-
  annunciator/sesn.frame at some places. (Printed by tools/mqgen.py.)
-/
import Derived.Test.YtibobihgolfplaaGreatDoorReT
import Derived.Test.YtibobihgolfplaaGreatDoorGl
set_option maxRecDepth 1000000
set_option linter.unusedVariables false
namespace Go.Proofs.YtibobihgolfplaaGreatDoor.Ev
open Go
theorem rm58_16:PtsOk Tryz.prog toldV 232 rE58 [2,1] [0] rr58_16:=fun θ=>by kernel_rfl
theorem rm58_17:PtsOk Tryz.prog toldV 232 rE58 [2,1] [0] rr58_17:=fun θ=>by kernel_rfl
theorem rm58_18:PtsOk Tryz.prog toldV 232 rE58 [2,1] [0] rr58_18:=fun θ=>by kernel_rfl
theorem rm58_19:PtsOk Tryz.prog toldV 232 rE58 [2,1] [0] rr58_19:=fun θ=>by kernel_rfl
theorem rm58_20:PtsOk Tryz.prog toldV 232 rE58 [2,1] [0] rr58_20:=fun θ=>by kernel_rfl
theorem rm58_21:PtsOk Tryz.prog toldV 232 rE58 [2,1] [0] rr58_21:=fun θ=>by kernel_rfl
theorem rm58_22:PtsOk Tryz.prog toldV 232 rE58 [2,1] [0] rr58_22:=fun θ=>by kernel_rfl
theorem rm58_23:PtsOk Tryz.prog toldV 232 rE58 [2,1] [0] rr58_23:=fun θ=>by kernel_rfl
theorem rm58_24:PtsOk Tryz.prog toldV 232 rE58 [2,1] [0] rr58_24:=fun θ=>by kernel_rfl
theorem rm58_25:PtsOk Tryz.prog toldV 232 rE58 [2,1] [0] rr58_25:=fun θ=>by kernel_rfl
theorem rm58_26:PtsOk Tryz.prog toldV 232 rE58 [2,1] [0] rr58_26:=fun θ=>by kernel_rfl
theorem rm58_27:PtsOk Tryz.prog toldV 232 rE58 [2,1] [0] rr58_27:=fun θ=>by kernel_rfl
theorem rm58_28:PtsOk Tryz.prog toldV 232 rE58 [2,1] [0] rr58_28:=fun θ=>by kernel_rfl
theorem rm58_29:PtsOk Tryz.prog toldV 232 rE58 [2,1] [0] rr58_29:=fun θ=>by kernel_rfl
theorem rm58_30:PtsOk Tryz.prog toldV 232 rE58 [2,1] [0] rr58_30:=fun θ=>by kernel_rfl
theorem rm58_31:PtsOk Tryz.prog toldV 232 rE58 [2,1] [0] rr58_31:=fun θ=>by kernel_rfl
end Go.Proofs.YtibobihgolfplaaGreatDoor.Ev
