/-
  annunciator/sesn.Come at some places. (Printed by tools/mqgen.py.)
-/
import Derived.Test.YtibobihgolfplaaGreatDoorByT
import Derived.Test.YtibobihgolfplaaGreatDoorVa
set_option linter.unusedVariables false
set_option maxRecDepth 1000000
namespace Go.Proofs.YtibobihgolfplaaGreatDoor.Ev
open Go
theorem qm117_0:PtsOk Tryz.prog toldV 181 qE117 [5,4,3,2,1,0] [] qr117_0:=fun θ=>by kernel_rfl
theorem qm118_0:PtsOk Tryz.prog toldV 181 qE118 [5,4,3,2,1,0] [] qr118_0:=fun θ=>by kernel_rfl
theorem qm118_1:PtsOk Tryz.prog toldV 181 qE118 [5,4,3,2,1,0] [] qr118_1:=fun θ=>by kernel_rfl
theorem qm118_2:PtsOk Tryz.prog toldV 181 qE118 [5,4,3,2,1,0] [] qr118_2:=fun θ=>by kernel_rfl
theorem qm118_3:PtsOk Tryz.prog toldV 181 qE118 [5,4,3,2,1,0] [] qr118_3:=fun θ=>by kernel_rfl
theorem qm118_4:PtsOk Tryz.prog toldV 181 qE118 [5,4,3,2,1,0] [] qr118_4:=fun θ=>by kernel_rfl
end Go.Proofs.YtibobihgolfplaaGreatDoor.Ev
