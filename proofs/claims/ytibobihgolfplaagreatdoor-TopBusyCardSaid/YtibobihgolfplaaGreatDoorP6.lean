/-
  annunciator/sesn.Come at some places. (Printed by tools/mqgen.py.)
-/
import Derived.Test.YtibobihgolfplaaGreatDoorByT
import Derived.Test.YtibobihgolfplaaGreatDoorVa
set_option maxRecDepth 1000000
set_option linter.unusedVariables false
namespace Go.Proofs.YtibobihgolfplaaGreatDoor.Ev
open Go
theorem qm118_11:PtsOk Tryz.prog toldV 181 qE118 [5,4,3,2,1,0] [] qr118_11:=fun θ=>by kernel_rfl
theorem qm118_12:PtsOk Tryz.prog toldV 181 qE118 [5,4,3,2,1,0] [] qr118_12:=fun θ=>by kernel_rfl
theorem qm118_13:PtsOk Tryz.prog toldV 181 qE118 [5,4,3,2,1,0] [] qr118_13:=fun θ=>by kernel_rfl
theorem qm118_14:PtsOk Tryz.prog toldV 181 qE118 [5,4,3,2,1,0] [] qr118_14:=fun θ=>by kernel_rfl
theorem qm118_15:PtsOk Tryz.prog toldV 181 qE118 [5,4,3,2,1,0] [] qr118_15:=fun θ=>by kernel_rfl
theorem qm118_16:PtsOk Tryz.prog toldV 181 qE118 [5,4,3,2,1,0] [] qr118_16:=fun θ=>by kernel_rfl
theorem qm119_0:PtsOk Tryz.prog toldV 18 qE119 [5,4,3,2,1,0] [] qr119_0:=fun θ=>by kernel_rfl
theorem qm119_1:PtsOk Tryz.prog toldV 18 qE119 [5,4,3,2,1,0] [] qr119_1:=fun θ=>by kernel_rfl
theorem qm119_2:PtsOk Tryz.prog toldV 18 qE119 [5,4,3,2,1,0] [] qr119_2:=fun θ=>by kernel_rfl
theorem qm119_3:PtsOk Tryz.prog toldV 18 qE119 [5,4,3,2,1,0] [] qr119_3:=fun θ=>by kernel_rfl
end Go.Proofs.YtibobihgolfplaaGreatDoor.Ev
