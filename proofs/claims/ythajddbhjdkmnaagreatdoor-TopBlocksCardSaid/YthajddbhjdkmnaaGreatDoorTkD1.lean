/-
  TopBlocks: a scan, and what the law looks at (a truth comes in: false; it was one: true).
-/
import Derived.Test.YthajddbhjdkmnaaGreatDoorTkF
set_option maxRecDepth 1000000
set_option linter.unusedVariables false
namespace Go.Proofs.YthajddbhjdkmnaaGreatDoor.Ev
open Go
theorem tkb1 (L c : Nat) (y : Nat → Nat → Int) (lt now since edges N : Int) (i : Nat) (q tq et at' nq cv : Int) (Nx : Kt) : tkBA false true L c y lt now since edges N i q tq et at' nq cv Nx = tkBB false true L c y lt now since edges N i q tq et at' nq cv Nx := by kernel_rfl
end Go.Proofs.YthajddbhjdkmnaaGreatDoor.Ev
