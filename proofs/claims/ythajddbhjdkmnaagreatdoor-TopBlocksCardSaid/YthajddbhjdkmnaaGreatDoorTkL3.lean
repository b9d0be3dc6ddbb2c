/-
  TopBlocks up to its loop, for some numbers.
-/
import Derived.Test.YthajddbhjdkmnaaGreatDoorTkV
set_option maxRecDepth 1000000
set_option linter.unusedVariables false
namespace Go.Proofs.YthajddbhjdkmnaaGreatDoor.Ev
open Go
theorem tkla3 : TkLaL 192 64 := fun L c y β => by kernel_rfl
end Go.Proofs.YthajddbhjdkmnaaGreatDoor.Ev
