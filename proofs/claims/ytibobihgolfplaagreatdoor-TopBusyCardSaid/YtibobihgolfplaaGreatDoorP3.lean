/-
  annunciator/annunciatorplay.Bytes at some places. (Printed by tools/mqgen.py.)
-/
import Derived.Test.YtibobihgolfplaaGreatDoorByT
import Derived.Test.YtibobihgolfplaaGreatDoorVa
set_option maxRecDepth 1000000
set_option linter.unusedVariables false
namespace Go.Proofs.YtibobihgolfplaaGreatDoor.Ev
open Go
theorem qm116_3:PtsOk Tryz.prog toldV 21 qE116 [1] [] qr116_3:=fun θ=>by kernel_rfl
theorem qm116_4:PtsOk Tryz.prog toldV 21 qE116 [1] [] qr116_4:=fun θ=>by kernel_rfl
theorem qm116_5:PtsOk Tryz.prog toldV 21 qE116 [1] [] qr116_5:=fun θ=>by kernel_rfl
theorem qm116_6:PtsOk Tryz.prog toldV 21 qE116 [1] [] qr116_6:=fun θ=>by kernel_rfl
theorem qm116_7:PtsOk Tryz.prog toldV 21 qE116 [1] [] qr116_7:=fun θ=>by kernel_rfl
theorem qm116_8:PtsOk Tryz.prog toldV 21 qE116 [1] [] qr116_8:=fun θ=>by kernel_rfl
end Go.Proofs.YtibobihgolfplaaGreatDoor.Ev
