/-
  annunciator/annunciatorref16.TakeMsg at some places. (Printed by tools/mqgen.py.)
-/
import Derived.Test.YtibobihgolfplaaGreatDoorReT
import Derived.Test.YtibobihgolfplaaGreatDoorGl
set_option maxRecDepth 1000000
set_option linter.unusedVariables false
namespace Go.Proofs.YtibobihgolfplaaGreatDoor.Ev
open Go
theorem rm63_16:PtsOk Tryz.prog toldV 19 rE63 [4,3,2,1,0] [] rr63_16:=fun θ=>by kernel_rfl
theorem rm63_17:PtsOk Tryz.prog toldV 19 rE63 [4,3,2,1,0] [] rr63_17:=fun θ=>by kernel_rfl
theorem rm63_18:PtsOk Tryz.prog toldV 19 rE63 [4,3,2,1,0] [] rr63_18:=fun θ=>by kernel_rfl
theorem rm63_19:PtsOk Tryz.prog toldV 19 rE63 [4,3,2,1,0] [] rr63_19:=fun θ=>by kernel_rfl
theorem rm63_20:PtsOk Tryz.prog toldV 19 rE63 [4,3,2,1,0] [] rr63_20:=fun θ=>by kernel_rfl
theorem rm63_21:PtsOk Tryz.prog toldV 19 rE63 [4,3,2,1,0] [] rr63_21:=fun θ=>by kernel_rfl
theorem rm63_22:PtsOk Tryz.prog toldV 19 rE63 [4,3,2,1,0] [] rr63_22:=fun θ=>by kernel_rfl
theorem rm63_23:PtsOk Tryz.prog toldV 19 rE63 [4,3,2,1,0] [] rr63_23:=fun θ=>by kernel_rfl
theorem rm63_24:PtsOk Tryz.prog toldV 19 rE63 [4,3,2,1,0] [] rr63_24:=fun θ=>by kernel_rfl
theorem rm63_25:PtsOk Tryz.prog toldV 19 rE63 [4,3,2,1,0] [] rr63_25:=fun θ=>by kernel_rfl
theorem rm63_26:PtsOk Tryz.prog toldV 19 rE63 [4,3,2,1,0] [] rr63_26:=fun θ=>by kernel_rfl
theorem rm63_27:PtsOk Tryz.prog toldV 19 rE63 [4,3,2,1,0] [] rr63_27:=fun θ=>by kernel_rfl
theorem rm63_28:PtsOk Tryz.prog toldV 19 rE63 [4,3,2,1,0] [] rr63_28:=fun θ=>by kernel_rfl
theorem rm63_29:PtsOk Tryz.prog toldV 19 rE63 [4,3,2,1,0] [] rr63_29:=fun θ=>by kernel_rfl
theorem rm63_30:PtsOk Tryz.prog toldV 19 rE63 [4,3,2,1,0] [] rr63_30:=fun θ=>by kernel_rfl
theorem rm63_31:PtsOk Tryz.prog toldV 19 rE63 [4,3,2,1,0] [] rr63_31:=fun θ=>by kernel_rfl
end Go.Proofs.YtibobihgolfplaaGreatDoor.Ev
