/-
  TopReals: short pieces. (Printed by tools/rl.py.)
-/
import Derived.Test.YtpogcoolgnjejaaGreatDoorRlF
set_option maxRecDepth 1000000
set_option linter.unusedVariables false
namespace Go.Proofs.YtpogcoolgnjejaaGreatDoor.Ev
open Go
noncomputable def rlCqB (i : Nat) (F : List Nat → Nat) (L c : Nat) (y : Nat → Int) (g cg : Nat → Nat) (Nx : Kt) : Prop := br (!(bI (cg i) == bI (rlU y i))) False (need (!!(bI (cg i) == bI (rlU y i))) (Nx .normal (rlFr L c i) (rlMe 0 (i + 1) L g cg y)))
noncomputable def RlCq (i : Nat) : Prop := ∀ (F : List Nat → Nat) (L c : Nat) (y : Nat → Int) (g cg : Nat → Nat) (Nx : Kt), rlCkA i F L c y g cg Nx = rlCqB i F L c y g cg Nx
theorem rlhd0 : RlHd 0 := fun F L c y g cg Nx => by kernel_rfl
theorem rlex0 : RlEx 0 := fun F L c y g cg Nx => by kernel_rfl
theorem rlfl0 : RlFl 0 := fun F L c y g cg Nx => by kernel_rfl
theorem rlcq0 : RlCq 0 := fun F L c y g cg Nx => by kernel_rfl
theorem rltl0 : RlTl 0 := fun F L c y g cg Nx => by kernel_rfl
theorem rlhd1 : RlHd 1 := fun F L c y g cg Nx => by kernel_rfl
theorem rlex1 : RlEx 1 := fun F L c y g cg Nx => by kernel_rfl
theorem rlfl1 : RlFl 1 := fun F L c y g cg Nx => by kernel_rfl
theorem rlcq1 : RlCq 1 := fun F L c y g cg Nx => by kernel_rfl
theorem rltl1 : RlTl 1 := fun F L c y g cg Nx => by kernel_rfl
theorem rlhd2 : RlHd 2 := fun F L c y g cg Nx => by kernel_rfl
theorem rlex2 : RlEx 2 := fun F L c y g cg Nx => by kernel_rfl
theorem rlfl2 : RlFl 2 := fun F L c y g cg Nx => by kernel_rfl
theorem rlcq2 : RlCq 2 := fun F L c y g cg Nx => by kernel_rfl
theorem rltl2 : RlTl 2 := fun F L c y g cg Nx => by kernel_rfl
theorem rlhd3 : RlHd 3 := fun F L c y g cg Nx => by kernel_rfl
theorem rlex3 : RlEx 3 := fun F L c y g cg Nx => by kernel_rfl
theorem rlfl3 : RlFl 3 := fun F L c y g cg Nx => by kernel_rfl
theorem rlcq3 : RlCq 3 := fun F L c y g cg Nx => by kernel_rfl
theorem rltl3 : RlTl 3 := fun F L c y g cg Nx => by kernel_rfl
theorem rlhd4 : RlHd 4 := fun F L c y g cg Nx => by kernel_rfl
theorem rlex4 : RlEx 4 := fun F L c y g cg Nx => by kernel_rfl
theorem rlfl4 : RlFl 4 := fun F L c y g cg Nx => by kernel_rfl
theorem rlcq4 : RlCq 4 := fun F L c y g cg Nx => by kernel_rfl
theorem rltl4 : RlTl 4 := fun F L c y g cg Nx => by kernel_rfl
theorem rlhd5 : RlHd 5 := fun F L c y g cg Nx => by kernel_rfl
theorem rlex5 : RlEx 5 := fun F L c y g cg Nx => by kernel_rfl
theorem rlfl5 : RlFl 5 := fun F L c y g cg Nx => by kernel_rfl
theorem rlcq5 : RlCq 5 := fun F L c y g cg Nx => by kernel_rfl
theorem rltl5 : RlTl 5 := fun F L c y g cg Nx => by kernel_rfl
theorem rlhd6 : RlHd 6 := fun F L c y g cg Nx => by kernel_rfl
theorem rlex6 : RlEx 6 := fun F L c y g cg Nx => by kernel_rfl
theorem rlfl6 : RlFl 6 := fun F L c y g cg Nx => by kernel_rfl
theorem rlcq6 : RlCq 6 := fun F L c y g cg Nx => by kernel_rfl
theorem rltl6 : RlTl 6 := fun F L c y g cg Nx => by kernel_rfl
theorem rlhd7 : RlHd 7 := fun F L c y g cg Nx => by kernel_rfl
theorem rlex7 : RlEx 7 := fun F L c y g cg Nx => by kernel_rfl
theorem rlfl7 : RlFl 7 := fun F L c y g cg Nx => by kernel_rfl
theorem rlcq7 : RlCq 7 := fun F L c y g cg Nx => by kernel_rfl
theorem rltl7 : RlTl 7 := fun F L c y g cg Nx => by kernel_rfl
theorem rlex8 : RlEx 8 := fun F L c y g cg Nx => by kernel_rfl
end Go.Proofs.YtpogcoolgnjejaaGreatDoor.Ev
