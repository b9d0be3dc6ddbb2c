/-
  TopReals: a round, but for the write and the answer to the read. (Printed by tools/rl.py.)
-/
import Derived.Test.YtpogcoolgnjejaaGreatDoorRlF
set_option maxRecDepth 1000000
set_option linter.unusedVariables false
namespace Go.Proofs.YtpogcoolgnjejaaGreatDoor.Ev
open Go
theorem rlsv3 : RlSv 3 := fun F L c y g cg Nx => by kernel_rfl
theorem rlsc3 : RlSc 3 := fun F L c y g cg Nx => by kernel_rfl
theorem rlrd3 : RlRd 3 := fun F L c y g cg Nx => by kernel_rfl
theorem rlsw3 : RlSw 3 := fun F L c y g cg Nx => by kernel_rfl
theorem rlse3 : RlSe 3 := fun F L c y g cg Nx => by kernel_rfl
end Go.Proofs.YtpogcoolgnjejaaGreatDoor.Ev
