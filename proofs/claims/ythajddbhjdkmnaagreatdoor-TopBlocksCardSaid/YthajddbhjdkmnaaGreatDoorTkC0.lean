/-
  TopBlocks: what comes in, how time goes, the boundary (the first round: false; a truth comes in: false).
-/
import Derived.Test.YthajddbhjdkmnaaGreatDoorTkF
set_option maxRecDepth 1000000
set_option linter.unusedVariables false
namespace Go.Proofs.YthajddbhjdkmnaaGreatDoor.Ev
open Go
theorem tka0 (L c : Nat) (y : Nat → Nat → Int) (lt now since edges N : Int) (was : Bool) (i : Nat) (x : TkV) (Nx : Kt) : tkAA false false L c y lt now since edges N was i x Nx = tkAB false false L c y lt now since edges N was i x Nx := by kernel_rfl
end Go.Proofs.YthajddbhjdkmnaaGreatDoor.Ev
