/-
  annunciator/sesn.frame at some places. (Printed by tools/mqgen.py.)
-/
import Derived.Test.YtibobihgolfplaaGreatDoorByT
import Derived.Test.YtibobihgolfplaaGreatDoorVa
set_option maxRecDepth 1000000
set_option linter.unusedVariables false
namespace Go.Proofs.YtibobihgolfplaaGreatDoor.Ev
open Go
theorem qm115_0:PtsOk Tryz.prog toldV 232 qE115 [] [] qr115_0:=fun θ=>by kernel_rfl
theorem qm115_1:PtsOk Tryz.prog toldV 232 qE115 [] [] qr115_1:=fun θ=>by kernel_rfl
theorem qm115_2:PtsOk Tryz.prog toldV 232 qE115 [] [] qr115_2:=fun θ=>by kernel_rfl
theorem qm115_3:PtsOk Tryz.prog toldV 232 qE115 [] [] qr115_3:=fun θ=>by kernel_rfl
theorem qm115_4:PtsOk Tryz.prog toldV 232 qE115 [] [] qr115_4:=fun θ=>by kernel_rfl
theorem qm115_5:PtsOk Tryz.prog toldV 232 qE115 [] [] qr115_5:=fun θ=>by kernel_rfl
theorem qm115_6:PtsOk Tryz.prog toldV 232 qE115 [] [] qr115_6:=fun θ=>by kernel_rfl
theorem qm115_7:PtsOk Tryz.prog toldV 232 qE115 [] [] qr115_7:=fun θ=>by kernel_rfl
end Go.Proofs.YtibobihgolfplaaGreatDoor.Ev
