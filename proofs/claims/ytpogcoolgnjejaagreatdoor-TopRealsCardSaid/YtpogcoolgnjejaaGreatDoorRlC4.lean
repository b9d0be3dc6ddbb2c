/-
  TopReals: a round, but for the write and the answer to the read. (Printed by tools/rl.py.)
-/
import Derived.Test.YtpogcoolgnjejaaGreatDoorRlF
set_option maxRecDepth 1000000
set_option linter.unusedVariables false
namespace Go.Proofs.YtpogcoolgnjejaaGreatDoor.Ev
open Go
theorem rlsv4 : RlSv 4 := fun F L c y g cg Nx => by kernel_rfl
theorem rlsc4 : RlSc 4 := fun F L c y g cg Nx => by kernel_rfl
theorem rlrd4 : RlRd 4 := fun F L c y g cg Nx => by kernel_rfl
theorem rlsw4 : RlSw 4 := fun F L c y g cg Nx => by kernel_rfl
theorem rlse4 : RlSe 4 := fun F L c y g cg Nx => by kernel_rfl
end Go.Proofs.YtpogcoolgnjejaaGreatDoor.Ev
