/-
  The bits of a number: what the program's and the document's function tell.
-/
import Derived.Test.YtokpobfimphhgaaSyJ
set_option linter.unusedVariables false
namespace Go.Proofs.Ytokpobfimphhgaa.Ev
open Go

def bitsN (a : Nat) : Nat := cond (nanB .f64 a) 9221120237041090561 a
def bitsSpec : List Value → Option Value
  | [.float .f64 a] => some (.int .u64 (Int.ofNat (bitsN a)))
  | _ => none
set_option maxRecDepth 1000000
theorem vc_bits (a : Nat) (K : AE → ASt → Prop) : funK Try.prog noTold 100 20 16 [.float .f64 a] st0 K =
    br (Ieee.double.order a a != some .eq) (K (.returned (.int .u64 (Int.ofNat 9221120237041090561))) st0) (need (!nanB .f64 a) (K (.returned (.int .u64 (Int.ofNat a))) st0)) := by kernel_rfl
theorem vc_bits1 (a : Nat) (K : AE → ASt → Prop) : funK Try.prog noTold 100 20 17 [.float .f64 a] st0 K =
    br (Ieee.double.order a a != some .eq) (K (.returned (.int .u64 (Int.ofNat 9221120237041090561))) st0) (need (!nanB .f64 a) (K (.returned (.int .u64 (Int.ofNat a))) st0)) := by kernel_rfl
theorem order_self (a : Nat) : (Ieee.double.order a a != some .eq) = nanB .f64 a := by
  show (Ieee.double.order a a != some .eq) = (Ieee.double.order a a).isNone
  unfold Ieee.Format.order
  cases h : Ieee.double.read a with
  | nan s p => rfl
  | infinity s => simp [Ieee.Datum.order]
  | number s m i => simp [Ieee.Datum.order]
theorem bits_main (a : Nat) : br (Ieee.double.order a a != some .eq) (isK (.int .u64 (Int.ofNat (bitsN a))) (.returned (.int .u64 (Int.ofNat 9221120237041090561))) st0) (need (!nanB .f64 a) (isK (.int .u64 (Int.ofNat (bitsN a))) (.returned (.int .u64 (Int.ofNat a))) st0)) := by
  rw [order_self]
  refine br_of (fun h => ?_) (fun h => need_of (by rw [h]; rfl) ?_)
  · simp only [isK, bitsN, h, cond_true]
  · simp only [isK, bitsN, h, cond_false]
theorem follows : Try.prog.follows .mixedOrders = true := by kernel_rfl
def toldBits : Told := (noTold.also 16 bitsSpec).also 17 bitsSpec
theorem toldBits_ok : ToldS Try.prog toldBits := by
  refine Told.also_ok (Told.also_ok (noTold_ok _) ?_) ?_
  all_goals
    intro args v hv
    unfold bitsSpec at hv
    split at hv
    · rename_i a
      cases hv
      refine ⟨rfl, rfl, fun w args' ha => ?_⟩
      refine sym_is (fuel := 100) (n := 20) follows (noTold_ok _) ?_ w args' ha
      first
        | (rw [vc_bits]; exact bits_main a)
        | (rw [vc_bits1]; exact bits_main a)
    · cases hv
def sameN (a b : Nat) : Bool := decide (bitsN a = bitsN b)
def sameSpec : List Value → Option Value
  | [.float .f64 a, .float .f64 b] => some (.bool (sameN a b))
  | _ => none
theorem vc_same (a b : Nat) (K : AE → ASt → Prop) : funK Try.prog toldBits 100 20 19 [.float .f64 a, .float .f64 b] st0 K =
    K (.returned (.bool (decide (Int.ofNat (bitsN a) = Int.ofNat (bitsN b))))) st0 := by kernel_rfl
theorem vc_same1 (a b : Nat) (K : AE → ASt → Prop) : funK Try.prog toldBits 100 20 13 [.float .f64 a, .float .f64 b] st0 K =
    K (.returned (.bool (decide (Int.ofNat (bitsN a) = Int.ofNat (bitsN b))))) st0 := by kernel_rfl
theorem same_eq (a b : Nat) : decide (Int.ofNat (bitsN a) = Int.ofNat (bitsN b)) = sameN a b := by
  unfold sameN
  congr 1
  exact propext ⟨fun h => by injection h, fun h => by rw [h]⟩
def toldSame : Told := (toldBits.also 19 sameSpec).also 13 sameSpec
theorem toldSame_ok : ToldS Try.prog toldSame := by
  refine Told.also_ok (Told.also_ok toldBits_ok ?_) ?_
  all_goals
    intro args v hv
    unfold sameSpec at hv
    split at hv
    · rename_i a b
      cases hv
      refine ⟨rfl, rfl, fun w args' ha => ?_⟩
      refine sym_is (fuel := 100) (n := 20) follows toldBits_ok ?_ w args' ha
      first
        | (rw [vc_same, same_eq]; rfl)
        | (rw [vc_same1, same_eq]; rfl)
    · cases hv
end Go.Proofs.Ytokpobfimphhgaa.Ev
