/-
  TopReals: a round, the write, the answer to the read. (Printed by tools/rl.py.)
-/
import Derived.Test.YtpogcoolgnjejaaGreatDoorRlF
set_option maxRecDepth 1000000
set_option linter.unusedVariables false
namespace Go.Proofs.YtpogcoolgnjejaaGreatDoor.Ev
open Go
theorem rlwr5 : RlWr 5 := fun F L c y g cg Nx => by kernel_rfl
theorem rlsn5 : RlSn 5 := fun F L c y g cg Nx => by kernel_rfl
end Go.Proofs.YtpogcoolgnjejaaGreatDoor.Ev
