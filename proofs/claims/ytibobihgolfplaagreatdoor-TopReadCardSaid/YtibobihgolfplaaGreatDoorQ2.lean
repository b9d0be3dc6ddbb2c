/-
  annunciator/annunciatorref16.TakeFrame at some places. (Printed by tools/mqgen.py.)
-/
import Derived.Test.YtibobihgolfplaaGreatDoorReT
import Derived.Test.YtibobihgolfplaaGreatDoorGl
set_option maxRecDepth 1000000
set_option linter.unusedVariables false
namespace Go.Proofs.YtibobihgolfplaaGreatDoor.Ev
open Go
theorem rm62_16:PtsOk Tryz.prog toldV 18 rE62 [8,7,6,5,4,3,2,1,0] [] rr62_16:=fun θ=>by kernel_rfl
theorem rm62_17:PtsOk Tryz.prog toldV 18 rE62 [8,7,6,5,4,3,2,1,0] [] rr62_17:=fun θ=>by kernel_rfl
theorem rm62_18:PtsOk Tryz.prog toldV 18 rE62 [8,7,6,5,4,3,2,1,0] [] rr62_18:=fun θ=>by kernel_rfl
theorem rm62_19:PtsOk Tryz.prog toldV 18 rE62 [8,7,6,5,4,3,2,1,0] [] rr62_19:=fun θ=>by kernel_rfl
theorem rm62_20:PtsOk Tryz.prog toldV 18 rE62 [8,7,6,5,4,3,2,1,0] [] rr62_20:=fun θ=>by kernel_rfl
theorem rm62_21:PtsOk Tryz.prog toldV 18 rE62 [8,7,6,5,4,3,2,1,0] [] rr62_21:=fun θ=>by kernel_rfl
theorem rm62_22:PtsOk Tryz.prog toldV 18 rE62 [8,7,6,5,4,3,2,1,0] [] rr62_22:=fun θ=>by kernel_rfl
theorem rm62_23:PtsOk Tryz.prog toldV 18 rE62 [8,7,6,5,4,3,2,1,0] [] rr62_23:=fun θ=>by kernel_rfl
theorem rm62_24:PtsOk Tryz.prog toldV 18 rE62 [8,7,6,5,4,3,2,1,0] [] rr62_24:=fun θ=>by kernel_rfl
theorem rm62_25:PtsOk Tryz.prog toldV 18 rE62 [8,7,6,5,4,3,2,1,0] [] rr62_25:=fun θ=>by kernel_rfl
theorem rm62_26:PtsOk Tryz.prog toldV 18 rE62 [8,7,6,5,4,3,2,1,0] [] rr62_26:=fun θ=>by kernel_rfl
theorem rm62_27:PtsOk Tryz.prog toldV 18 rE62 [8,7,6,5,4,3,2,1,0] [] rr62_27:=fun θ=>by kernel_rfl
theorem rm62_28:PtsOk Tryz.prog toldV 18 rE62 [8,7,6,5,4,3,2,1,0] [] rr62_28:=fun θ=>by kernel_rfl
theorem rm62_29:PtsOk Tryz.prog toldV 18 rE62 [8,7,6,5,4,3,2,1,0] [] rr62_29:=fun θ=>by kernel_rfl
theorem rm62_30:PtsOk Tryz.prog toldV 18 rE62 [8,7,6,5,4,3,2,1,0] [] rr62_30:=fun θ=>by kernel_rfl
theorem rm62_31:PtsOk Tryz.prog toldV 18 rE62 [8,7,6,5,4,3,2,1,0] [] rr62_31:=fun θ=>by kernel_rfl
end Go.Proofs.YtibobihgolfplaaGreatDoor.Ev
