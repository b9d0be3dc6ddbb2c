/-
  TopReals: a round, but for the write and the answer to the read. (Printed by tools/rl.py.)
-/
import Derived.Test.YtpogcoolgnjejaaGreatDoorRlF
set_option maxRecDepth 1000000
set_option linter.unusedVariables false
namespace Go.Proofs.YtpogcoolgnjejaaGreatDoor.Ev
open Go
theorem rlsv7 : RlSv 7 := fun F L c y g cg Nx => by kernel_rfl
theorem rlsc7 : RlSc 7 := fun F L c y g cg Nx => by kernel_rfl
theorem rlrd7 : RlRd 7 := fun F L c y g cg Nx => by kernel_rfl
theorem rlsw7 : RlSw 7 := fun F L c y g cg Nx => by kernel_rfl
theorem rlse7 : RlSe 7 := fun F L c y g cg Nx => by kernel_rfl
end Go.Proofs.YtpogcoolgnjejaaGreatDoor.Ev
