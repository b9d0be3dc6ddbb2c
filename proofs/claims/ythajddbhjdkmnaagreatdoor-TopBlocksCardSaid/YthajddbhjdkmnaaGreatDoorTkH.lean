/-
  TopBlocks: short pieces.
-/
import Derived.Test.YthajddbhjdkmnaaGreatDoorTkF
set_option maxRecDepth 1000000
set_option linter.unusedVariables false
namespace Go.Proofs.YthajddbhjdkmnaaGreatDoor.Ev
open Go
theorem tkhd (fst : Bool) (L c : Nat) (y : Nat → Nat → Int) (lt now since edges N : Int) (was : Bool) (i : Nat) (x : TkV) (Nx : Kt) : tkHdA fst L c y lt now since edges N was i x Nx = tkHdB fst L c y lt now since edges N was i x Nx := by
  cases fst
  · kernel_rfl
  · kernel_rfl
theorem tkex (fst : Bool) (L c : Nat) (y : Nat → Nat → Int) (lt now since edges N : Int) (was : Bool) (i : Nat) (x : TkV) (Nx : Kt) : tkExA fst L c y lt now since edges N was i x Nx = tkExB fst L c y lt now since edges N was i x Nx := by
  cases fst
  · kernel_rfl
  · kernel_rfl
theorem tkin (fst : Bool) (L c : Nat) (y : Nat → Nat → Int) (lt now since edges N : Int) (was : Bool) (i : Nat) (x : TkV) (Nx : Kt) : tkInA fst L c y lt now since edges N was i x Nx = tkInB fst L c y lt now since edges N was i x Nx := by
  cases fst
  · kernel_rfl
  · kernel_rfl
theorem tktl (L c : Nat) (y : Nat → Nat → Int) (lt now since edges N : Int) (was : Bool) (i : Nat) (x : TkV) (Nx : Kt) : tkTlA L c y lt now since edges N was i x Nx = tkTlB L c y lt now since edges N was i x Nx := by kernel_rfl
theorem tkMid_eq : tkMid = .seq (seqA tkMid) (chainC tkA tkM2) := by kernel_rfl
theorem tkBody_eq : tkBody = .seq tkHead (.seq (.block 1 tkMid) tkTail) := by kernel_rfl
end Go.Proofs.YthajddbhjdkmnaaGreatDoor.Ev
