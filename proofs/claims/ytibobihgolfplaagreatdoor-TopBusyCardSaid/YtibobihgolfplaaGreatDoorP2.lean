/-
  annunciator/sesn.frame at some places. (Printed by tools/mqgen.py.)
-/
import Derived.Test.YtibobihgolfplaaGreatDoorByT
import Derived.Test.YtibobihgolfplaaGreatDoorVa
set_option maxRecDepth 1000000
set_option linter.unusedVariables false
namespace Go.Proofs.YtibobihgolfplaaGreatDoor.Ev
open Go
theorem qm115_8:PtsOk Tryz.prog toldV 232 qE115 [] [] qr115_8:=fun θ=>by kernel_rfl
theorem qm115_9:PtsOk Tryz.prog toldV 232 qE115 [] [] qr115_9:=fun θ=>by kernel_rfl
theorem qm115_10:PtsOk Tryz.prog toldV 232 qE115 [] [] qr115_10:=fun θ=>by kernel_rfl
theorem qm115_11:PtsOk Tryz.prog toldV 232 qE115 [] [] qr115_11:=fun θ=>by kernel_rfl
theorem qm116_0:PtsOk Tryz.prog toldV 21 qE116 [1] [] qr116_0:=fun θ=>by kernel_rfl
theorem qm116_1:PtsOk Tryz.prog toldV 21 qE116 [1] [] qr116_1:=fun θ=>by kernel_rfl
theorem qm116_2:PtsOk Tryz.prog toldV 21 qE116 [1] [] qr116_2:=fun θ=>by kernel_rfl
end Go.Proofs.YtibobihgolfplaaGreatDoor.Ev
