/-
  TopReals: a round, but for the write and the answer to the read. (Printed by tools/rl.py.)
-/
import Derived.Test.YtpogcoolgnjejaaGreatDoorRlF
set_option maxRecDepth 1000000
set_option linter.unusedVariables false
namespace Go.Proofs.YtpogcoolgnjejaaGreatDoor.Ev
open Go
theorem rlsv1 : RlSv 1 := fun F L c y g cg Nx => by kernel_rfl
theorem rlsc1 : RlSc 1 := fun F L c y g cg Nx => by kernel_rfl
theorem rlrd1 : RlRd 1 := fun F L c y g cg Nx => by kernel_rfl
theorem rlsw1 : RlSw 1 := fun F L c y g cg Nx => by kernel_rfl
theorem rlse1 : RlSe 1 := fun F L c y g cg Nx => by kernel_rfl
end Go.Proofs.YtpogcoolgnjejaaGreatDoor.Ev
