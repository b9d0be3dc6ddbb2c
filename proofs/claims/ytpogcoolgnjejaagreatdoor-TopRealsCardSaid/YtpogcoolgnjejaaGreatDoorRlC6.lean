/-
  TopReals: a round, but for the write and the answer to the read. (Printed by tools/rl.py.)
-/
import Derived.Test.YtpogcoolgnjejaaGreatDoorRlF
set_option maxRecDepth 1000000
set_option linter.unusedVariables false
namespace Go.Proofs.YtpogcoolgnjejaaGreatDoor.Ev
open Go
theorem rlsv6 : RlSv 6 := fun F L c y g cg Nx => by kernel_rfl
theorem rlsc6 : RlSc 6 := fun F L c y g cg Nx => by kernel_rfl
theorem rlrd6 : RlRd 6 := fun F L c y g cg Nx => by kernel_rfl
theorem rlsw6 : RlSw 6 := fun F L c y g cg Nx => by kernel_rfl
theorem rlse6 : RlSe 6 := fun F L c y g cg Nx => by kernel_rfl
end Go.Proofs.YtpogcoolgnjejaaGreatDoor.Ev
