/-
  annunciator/annunciatorref16.TakeFrame at some places. (Printed by tools/mqgen.py.)
-/
import Derived.Test.YtibobihgolfplaaGreatDoorByT
import Derived.Test.YtibobihgolfplaaGreatDoorVa
set_option maxRecDepth 1000000
set_option linter.unusedVariables false
namespace Go.Proofs.YtibobihgolfplaaGreatDoor.Ev
open Go
theorem qm119_4:PtsOk Tryz.prog toldV 18 qE119 [5,4,3,2,1,0] [] qr119_4:=fun θ=>by kernel_rfl
theorem qm119_5:PtsOk Tryz.prog toldV 18 qE119 [5,4,3,2,1,0] [] qr119_5:=fun θ=>by kernel_rfl
theorem qm119_6:PtsOk Tryz.prog toldV 18 qE119 [5,4,3,2,1,0] [] qr119_6:=fun θ=>by kernel_rfl
theorem qm119_7:PtsOk Tryz.prog toldV 18 qE119 [5,4,3,2,1,0] [] qr119_7:=fun θ=>by kernel_rfl
theorem qm119_8:PtsOk Tryz.prog toldV 18 qE119 [5,4,3,2,1,0] [] qr119_8:=fun θ=>by kernel_rfl
theorem qm119_9:PtsOk Tryz.prog toldV 18 qE119 [5,4,3,2,1,0] [] qr119_9:=fun θ=>by kernel_rfl
theorem qm119_10:PtsOk Tryz.prog toldV 18 qE119 [5,4,3,2,1,0] [] qr119_10:=fun θ=>by kernel_rfl
theorem qm119_11:PtsOk Tryz.prog toldV 18 qE119 [5,4,3,2,1,0] [] qr119_11:=fun θ=>by kernel_rfl
end Go.Proofs.YtibobihgolfplaaGreatDoor.Ev
