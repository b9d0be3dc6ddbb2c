/-
  annunciator/annunciatorref16.TakeMsg at some places. (Printed by tools/mqgen.py.)
-/
import Derived.Test.YtibobihgolfplaaGreatDoorReT
import Derived.Test.YtibobihgolfplaaGreatDoorGl
set_option maxRecDepth 1000000
set_option linter.unusedVariables false
namespace Go.Proofs.YtibobihgolfplaaGreatDoor.Ev
open Go
theorem rm63_0:PtsOk Tryz.prog toldV 19 rE63 [4,3,2,1,0] [] rr63_0:=fun θ=>by kernel_rfl
theorem rm63_1:PtsOk Tryz.prog toldV 19 rE63 [4,3,2,1,0] [] rr63_1:=fun θ=>by kernel_rfl
theorem rm63_2:PtsOk Tryz.prog toldV 19 rE63 [4,3,2,1,0] [] rr63_2:=fun θ=>by kernel_rfl
theorem rm63_3:PtsOk Tryz.prog toldV 19 rE63 [4,3,2,1,0] [] rr63_3:=fun θ=>by kernel_rfl
theorem rm63_4:PtsOk Tryz.prog toldV 19 rE63 [4,3,2,1,0] [] rr63_4:=fun θ=>by kernel_rfl
theorem rm63_5:PtsOk Tryz.prog toldV 19 rE63 [4,3,2,1,0] [] rr63_5:=fun θ=>by kernel_rfl
theorem rm63_6:PtsOk Tryz.prog toldV 19 rE63 [4,3,2,1,0] [] rr63_6:=fun θ=>by kernel_rfl
theorem rm63_7:PtsOk Tryz.prog toldV 19 rE63 [4,3,2,1,0] [] rr63_7:=fun θ=>by kernel_rfl
theorem rm63_8:PtsOk Tryz.prog toldV 19 rE63 [4,3,2,1,0] [] rr63_8:=fun θ=>by kernel_rfl
theorem rm63_9:PtsOk Tryz.prog toldV 19 rE63 [4,3,2,1,0] [] rr63_9:=fun θ=>by kernel_rfl
theorem rm63_10:PtsOk Tryz.prog toldV 19 rE63 [4,3,2,1,0] [] rr63_10:=fun θ=>by kernel_rfl
theorem rm63_11:PtsOk Tryz.prog toldV 19 rE63 [4,3,2,1,0] [] rr63_11:=fun θ=>by kernel_rfl
theorem rm63_12:PtsOk Tryz.prog toldV 19 rE63 [4,3,2,1,0] [] rr63_12:=fun θ=>by kernel_rfl
theorem rm63_13:PtsOk Tryz.prog toldV 19 rE63 [4,3,2,1,0] [] rr63_13:=fun θ=>by kernel_rfl
theorem rm63_14:PtsOk Tryz.prog toldV 19 rE63 [4,3,2,1,0] [] rr63_14:=fun θ=>by kernel_rfl
theorem rm63_15:PtsOk Tryz.prog toldV 19 rE63 [4,3,2,1,0] [] rr63_15:=fun θ=>by kernel_rfl
end Go.Proofs.YtibobihgolfplaaGreatDoor.Ev
