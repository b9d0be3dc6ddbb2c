/-
  TopReals: a round, but for the write and the answer to the read. (Printed by tools/rl.py.)
-/
import Derived.Test.YtpogcoolgnjejaaGreatDoorRlF
set_option maxRecDepth 1000000
set_option linter.unusedVariables false
namespace Go.Proofs.YtpogcoolgnjejaaGreatDoor.Ev
open Go
theorem rlsv2 : RlSv 2 := fun F L c y g cg Nx => by kernel_rfl
theorem rlsc2 : RlSc 2 := fun F L c y g cg Nx => by kernel_rfl
theorem rlrd2 : RlRd 2 := fun F L c y g cg Nx => by kernel_rfl
theorem rlsw2 : RlSw 2 := fun F L c y g cg Nx => by kernel_rfl
theorem rlse2 : RlSe 2 := fun F L c y g cg Nx => by kernel_rfl
end Go.Proofs.YtpogcoolgnjejaaGreatDoor.Ev
