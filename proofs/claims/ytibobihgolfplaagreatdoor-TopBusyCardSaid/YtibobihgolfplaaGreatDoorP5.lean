/-
  annunciator/sesn.Come at some places. (Printed by tools/mqgen.py.)
-/
import Derived.Test.YtibobihgolfplaaGreatDoorByT
import Derived.Test.YtibobihgolfplaaGreatDoorVa
set_option linter.unusedVariables false
set_option maxRecDepth 1000000
namespace Go.Proofs.YtibobihgolfplaaGreatDoor.Ev
open Go
theorem qm118_5:PtsOk Tryz.prog toldV 181 qE118 [5,4,3,2,1,0] [] qr118_5:=fun θ=>by kernel_rfl
theorem qm118_6:PtsOk Tryz.prog toldV 181 qE118 [5,4,3,2,1,0] [] qr118_6:=fun θ=>by kernel_rfl
theorem qm118_7:PtsOk Tryz.prog toldV 181 qE118 [5,4,3,2,1,0] [] qr118_7:=fun θ=>by kernel_rfl
theorem qm118_8:PtsOk Tryz.prog toldV 181 qE118 [5,4,3,2,1,0] [] qr118_8:=fun θ=>by kernel_rfl
theorem qm118_9:PtsOk Tryz.prog toldV 181 qE118 [5,4,3,2,1,0] [] qr118_9:=fun θ=>by kernel_rfl
theorem qm118_10:PtsOk Tryz.prog toldV 181 qE118 [5,4,3,2,1,0] [] qr118_10:=fun θ=>by kernel_rfl
end Go.Proofs.YtibobihgolfplaaGreatDoor.Ev
