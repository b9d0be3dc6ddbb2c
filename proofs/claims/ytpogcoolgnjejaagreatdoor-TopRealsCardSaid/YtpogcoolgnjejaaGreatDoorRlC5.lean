/-
  TopReals: a round, but for the write and the answer to the read. (Printed by tools/rl.py.)
-/
import Derived.Test.YtpogcoolgnjejaaGreatDoorRlF
set_option maxRecDepth 1000000
set_option linter.unusedVariables false
namespace Go.Proofs.YtpogcoolgnjejaaGreatDoor.Ev
open Go
theorem rlsv5 : RlSv 5 := fun F L c y g cg Nx => by kernel_rfl
theorem rlsc5 : RlSc 5 := fun F L c y g cg Nx => by kernel_rfl
theorem rlrd5 : RlRd 5 := fun F L c y g cg Nx => by kernel_rfl
theorem rlsw5 : RlSw 5 := fun F L c y g cg Nx => by kernel_rfl
theorem rlse5 : RlSe 5 := fun F L c y g cg Nx => by kernel_rfl
end Go.Proofs.YtpogcoolgnjejaaGreatDoor.Ev
