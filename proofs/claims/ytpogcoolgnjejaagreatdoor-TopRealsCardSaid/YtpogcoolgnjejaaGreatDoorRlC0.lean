/-
  TopReals: a round, but for the write and the answer to the read. (Printed by tools/rl.py.)
-/
import Derived.Test.YtpogcoolgnjejaaGreatDoorRlF
set_option maxRecDepth 1000000
set_option linter.unusedVariables false
namespace Go.Proofs.YtpogcoolgnjejaaGreatDoor.Ev
open Go
theorem rlsv0 : RlSv 0 := fun F L c y g cg Nx => by kernel_rfl
theorem rlsc0 : RlSc 0 := fun F L c y g cg Nx => by kernel_rfl
theorem rlrd0 : RlRd 0 := fun F L c y g cg Nx => by kernel_rfl
theorem rlsw0 : RlSw 0 := fun F L c y g cg Nx => by kernel_rfl
theorem rlse0 : RlSe 0 := fun F L c y g cg Nx => by kernel_rfl
end Go.Proofs.YtpogcoolgnjejaaGreatDoor.Ev
