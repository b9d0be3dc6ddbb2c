/-
  annunciator/annunciatorref16.TakeMsg at some places. (Printed by tools/mqgen.py.)
-/
import Derived.Test.YtibobihgolfplaaGreatDoorByT
import Derived.Test.YtibobihgolfplaaGreatDoorVa
set_option maxRecDepth 1000000
set_option linter.unusedVariables false
namespace Go.Proofs.YtibobihgolfplaaGreatDoor.Ev
open Go
theorem qm120_0:PtsOk Tryz.prog toldV 19 qE120 [1,0] [] qr120_0:=fun θ=>by kernel_rfl
theorem qm120_1:PtsOk Tryz.prog toldV 19 qE120 [1,0] [] qr120_1:=fun θ=>by kernel_rfl
theorem qm120_2:PtsOk Tryz.prog toldV 19 qE120 [1,0] [] qr120_2:=fun θ=>by kernel_rfl
theorem qm120_3:PtsOk Tryz.prog toldV 19 qE120 [1,0] [] qr120_3:=fun θ=>by kernel_rfl
theorem qm120_4:PtsOk Tryz.prog toldV 19 qE120 [1,0] [] qr120_4:=fun θ=>by kernel_rfl
theorem qm120_5:PtsOk Tryz.prog toldV 19 qE120 [1,0] [] qr120_5:=fun θ=>by kernel_rfl
theorem qm120_6:PtsOk Tryz.prog toldV 19 qE120 [1,0] [] qr120_6:=fun θ=>by kernel_rfl
theorem qm120_7:PtsOk Tryz.prog toldV 19 qE120 [1,0] [] qr120_7:=fun θ=>by kernel_rfl
theorem qm120_8:PtsOk Tryz.prog toldV 19 qE120 [1,0] [] qr120_8:=fun θ=>by kernel_rfl
theorem qm120_9:PtsOk Tryz.prog toldV 19 qE120 [1,0] [] qr120_9:=fun θ=>by kernel_rfl
theorem qm120_10:PtsOk Tryz.prog toldV 19 qE120 [1,0] [] qr120_10:=fun θ=>by kernel_rfl
theorem qm120_11:PtsOk Tryz.prog toldV 19 qE120 [1,0] [] qr120_11:=fun θ=>by kernel_rfl
end Go.Proofs.YtibobihgolfplaaGreatDoor.Ev
