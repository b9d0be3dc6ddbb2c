/-
  TopReals up to its loop.
-/
import Derived.Test.YtpogcoolgnjejaaGreatDoorRlF
import Derived.Test.YtpogcoolgnjejaaGreatDoorRlN
import Derived.Test.YtpogcoolgnjejaaGreatDoorGi
set_option maxRecDepth 1000000
set_option linter.unusedVariables false
namespace Go.Proofs.YtpogcoolgnjejaaGreatDoor.Ev
open Go
theorem rl_new : ptB Tryz.prog toldH 5 rlNArgs rlNNm rlNR rlNObjs = true := by kernel_rfl
def toldRn : Told := toldB.pt 5 rlNArgs rlNR rlNObjs
theorem toldRn_ok : ToldS Tryz.prog toldRn := Told.pt_ok toldB_ok (by kernel_rfl) (by kernel_rfl) (pt_ok follows toldH_ok (by kernel_rfl) rl_new)
noncomputable section
def gY (y : Nat → Int) (j : Nat) : Nat := bitsN (rlU y j)
def exR1 (L : Nat) (y : Nat → Int) (i : Nat) (K : Kt) : Prop := K (.exit 0) rlFx (rlMe 0 i L (gY y) (gY y) y)
def exRl (L : Nat) (y : Nat → Int) : Nat → Kt → Prop := fun _ K => exR1 L y 0 K ∧ exR1 L y 1 K ∧ exR1 L y 2 K ∧ exR1 L y 3 K ∧ exR1 L y 4 K ∧ exR1 L y 5 K ∧ exR1 L y 6 K ∧ exR1 L y 7 K ∧ exR1 L y 8 K
theorem rlBig (c L : Nat) (y : Nat → Int) (β : Bs) : lawE Tryz.prog toldRn 1000 50 β (fun _ => 0) (cnOf 1 (fun _ => [0, 6, 7])) (exRl L y) 3 [rlSl L c] (mkS [some (rlRow L y)]) trueE = br (decide (Int.ofNat L > 8)) True (LoopJ Tryz.prog β (exRl L y) 0 rlBody0 (rlFr L c 0) (rlMe 0 0 L (gY y) (gY y) y) ∧ (True ∧ True ∧ True ∧ True ∧ True ∧ True ∧ True ∧ True ∧ True)) := by kernel_rfl
end
end Go.Proofs.YtpogcoolgnjejaaGreatDoor.Ev
