/-
  What is told for TopReals's own code: sums of bytes by a function that is left open, reals' bits; checks that find nothing wrong are told along their ways.
-/
import Derived.Test.YtpogcoolgnjejaaGreatDoorRlB
import Derived.Test.YtpogcoolgnjejaaGreatDoorRlS
import Derived.Test.YtpogcoolgnjejaaGreatDoorVc
import Derived.Test.YtpogcoolgnjejaaGreatDoorGm
set_option linter.unusedVariables false
namespace Go.Proofs.YtpogcoolgnjejaaGreatDoor.Ev
open Go Go.RowKit
noncomputable section
def fl64 : List Bool := List.replicate 64 false
def toldX0 (F : List Nat → Nat) : Told := (((toldV.byt 303 F).byt 93 F).also 26 bitsSpec).also 185 bitsSpec
def toldX1 (F : List Nat → Nat) : Told := ((toldX0 F).asw Tryz.prog 262 [24] fl64).asw Tryz.prog 210 [26] fl64
def toldX2 (F : List Nat → Nat) : Told := ((toldX1 F).asw Tryz.prog 21 [43] [false]).asw Tryz.prog 48 [45] [false]
def toldX (F : List Nat → Nat) : Told := (toldX2 F).asw Tryz.prog 22 [102] [false]
theorem toldX_ok : ToldS Tryz.prog (toldX refSum) := by
  have h0 : ToldS Tryz.prog (toldX0 refSum) := rbits_okS (bits_okS (Told.byt_ok (Told.byt_ok toldV_ok fun v bs w h => by rw [← crcSum_eq]; exact sum_anyW v bs w h) fun v bs w h => (refSum_anyW v bs w h).mono fun e w' ⟨he, hw⟩ => ⟨he, by subst hw; exact Below.refl _ _⟩))
  have h1 : ToldS Tryz.prog (toldX1 refSum) := Told.asw_ok follows (Told.asw_ok follows h0)
  have h2 : ToldS Tryz.prog (toldX2 refSum) := Told.asw_ok follows (Told.asw_ok follows h1)
  exact Told.asw_ok follows h2
def rlRow (L : Nat) (y : Nat → Int) : AObj := .row .still 1 0 L fun i _ => .sc (.int .u64 (y i))
def rlBody0 : Code := loopOf Tryz.prog 3 0
end
end Go.Proofs.YtpogcoolgnjejaaGreatDoor.Ev
