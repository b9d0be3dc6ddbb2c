/-
  annunciator/annunciatorref16.TakeFrame at some places. (Printed by tools/mqgen.py.)
-/
import Derived.Test.YtibobihgolfplaaGreatDoorReT
import Derived.Test.YtibobihgolfplaaGreatDoorGl
set_option maxRecDepth 1000000
set_option linter.unusedVariables false
namespace Go.Proofs.YtibobihgolfplaaGreatDoor.Ev
open Go
theorem rm62_0:PtsOk Tryz.prog toldV 18 rE62 [8,7,6,5,4,3,2,1,0] [] rr62_0:=fun θ=>by kernel_rfl
theorem rm62_1:PtsOk Tryz.prog toldV 18 rE62 [8,7,6,5,4,3,2,1,0] [] rr62_1:=fun θ=>by kernel_rfl
theorem rm62_2:PtsOk Tryz.prog toldV 18 rE62 [8,7,6,5,4,3,2,1,0] [] rr62_2:=fun θ=>by kernel_rfl
theorem rm62_3:PtsOk Tryz.prog toldV 18 rE62 [8,7,6,5,4,3,2,1,0] [] rr62_3:=fun θ=>by kernel_rfl
theorem rm62_4:PtsOk Tryz.prog toldV 18 rE62 [8,7,6,5,4,3,2,1,0] [] rr62_4:=fun θ=>by kernel_rfl
theorem rm62_5:PtsOk Tryz.prog toldV 18 rE62 [8,7,6,5,4,3,2,1,0] [] rr62_5:=fun θ=>by kernel_rfl
theorem rm62_6:PtsOk Tryz.prog toldV 18 rE62 [8,7,6,5,4,3,2,1,0] [] rr62_6:=fun θ=>by kernel_rfl
theorem rm62_7:PtsOk Tryz.prog toldV 18 rE62 [8,7,6,5,4,3,2,1,0] [] rr62_7:=fun θ=>by kernel_rfl
theorem rm62_8:PtsOk Tryz.prog toldV 18 rE62 [8,7,6,5,4,3,2,1,0] [] rr62_8:=fun θ=>by kernel_rfl
theorem rm62_9:PtsOk Tryz.prog toldV 18 rE62 [8,7,6,5,4,3,2,1,0] [] rr62_9:=fun θ=>by kernel_rfl
theorem rm62_10:PtsOk Tryz.prog toldV 18 rE62 [8,7,6,5,4,3,2,1,0] [] rr62_10:=fun θ=>by kernel_rfl
theorem rm62_11:PtsOk Tryz.prog toldV 18 rE62 [8,7,6,5,4,3,2,1,0] [] rr62_11:=fun θ=>by kernel_rfl
theorem rm62_12:PtsOk Tryz.prog toldV 18 rE62 [8,7,6,5,4,3,2,1,0] [] rr62_12:=fun θ=>by kernel_rfl
theorem rm62_13:PtsOk Tryz.prog toldV 18 rE62 [8,7,6,5,4,3,2,1,0] [] rr62_13:=fun θ=>by kernel_rfl
theorem rm62_14:PtsOk Tryz.prog toldV 18 rE62 [8,7,6,5,4,3,2,1,0] [] rr62_14:=fun θ=>by kernel_rfl
theorem rm62_15:PtsOk Tryz.prog toldV 18 rE62 [8,7,6,5,4,3,2,1,0] [] rr62_15:=fun θ=>by kernel_rfl
end Go.Proofs.YtibobihgolfplaaGreatDoor.Ev
