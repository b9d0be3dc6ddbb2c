/-
  RealBits: what has to hold of bits holds.
-/
import Derived.Test.YtokpobfimphhgaaRealLaw
set_option linter.unusedVariables false
set_option linter.unusedSimpArgs false
namespace Go.Proofs.Ytokpobfimphhgaa.Ev
open Go Go.RowKit

theorem nan_word {a : Nat} (h : nanB .f64 a = true) : 9218868437227405312 < a % 9223372036854775808 := by
  obtain ⟨s, p, e⟩ := nan_read h
  have e' : Ieee.double.read a = .nan s p := e
  unfold Ieee.Format.read at e'
  simp only [show Ieee.double.signWeight = 9223372036854775808 by decide, show Ieee.double.infRung = 9218868437227405312 by decide, show Ieee.double.binade = 4503599627370496 by decide] at e'
  split at e'
  · cases e'
  · split at e'
    · cases e'
    · split at e'
      · cases e'
      · omega
theorem and_shift (a b n : Nat) : a &&& (b <<< n) = ((a >>> n) &&& b) <<< n := by
  apply Nat.eq_of_testBit_eq
  intro i
  simp only [Nat.testBit_and, Nat.testBit_shiftLeft, Nat.testBit_shiftRight]
  by_cases h : n ≤ i
  · simp [h, show n + (i - n) = i by omega]
  · simp [h]
theorem and_exp {a : Nat} (h : 9218868437227405312 < a % 9223372036854775808) : a &&& 9218868437227405312 = 9218868437227405312 := by
  rw [show (9218868437227405312 : Nat) = 2047 <<< 52 by decide, and_shift]
  congr 1
  rw [Nat.shiftRight_eq_div_pow, show (2047 : Nat) = 2 ^ 11 - 1 by decide, Nat.and_two_pow_sub_one_eq_mod]
  omega
theorem and_frac {a : Nat} (h : 9218868437227405312 < a % 9223372036854775808) : a &&& 4503599627370495 ≠ 0 := by
  rw [show (4503599627370495 : Nat) = 2 ^ 52 - 1 by decide, Nat.and_two_pow_sub_one_eq_mod]
  omega
theorem quo_nan : nanB .f64 (ariR .f64 .quo 0 0) = true := by decide +kernel
theorem bits_law (u : Int) (hu : 0 ≤ u ∧ u < 18446744073709551616) (w : World) : Calls Try.prog 4 #[.int .u64 u] w fun e w' => e = .returned (.bool true) ∧ Below w.heap.size w w' := by
  refine law_scal (args := [.int .u64 u]) (fuel := 100) (n := 20) (un := fun _ => 100) (lvs := fun _ => []) (ex := fun _ _ => False) follows toldSame_ok rfl w ?_
  rw [vc_bits_law]
  obtain ⟨a, rfl⟩ := Int.eq_ofNat_of_zero_le hu.1
  have ha : a < 18446744073709551616 := by omega
  have hf : FloatKind.format .f64 = Ieee.double := rfl
  have ht : (BitVec.ofInt (IntKind.bits .u64) (a : Int)).toNat = a := by
    show (BitVec.ofInt 64 (a : Int)).toNat = a
    rw [BitVec.toNat_ofInt]
    omega
  have hand : ∀ m : Nat, m < 18446744073709551616 → (BitVec.and (BitVec.ofInt (IntKind.bits .u64) (a : Int)) (BitVec.ofInt (IntKind.bits .u64) (m : Int))).toNat = a &&& m := by
    intro m hm
    show (BitVec.ofInt (IntKind.bits .u64) (a : Int) &&& BitVec.ofInt (IntKind.bits .u64) (m : Int)).toNat = _
    rw [BitVec.toNat_and, ht]
    congr 1
    show (BitVec.ofInt 64 (m : Int)).toNat = m
    rw [BitVec.toNat_ofInt]
    omega
  have hw : ∀ n : Nat, n < 18446744073709551616 → IntKind.u64.wrap (n : Int) = n := by
    intro n hn
    show (n : Int) % 18446744073709551616 = n
    omega
  rw [Int.toNat_natCast, hf, order_self]
  refine br_of (fun h => ?_) (fun h => ?_)
  · have hw1 := nan_word h
    have hle : ∀ m : Nat, a &&& m ≤ a := fun m => Nat.and_le_left
    have h1 := hand 9218868437227405312 (by decide)
    have h2 := hand 4503599627370495 (by decide)
    refine need_of ?_ (need_of ?_ (need_of ?_ (need_of ?_ trivial)))
    · simp only [bitsN, h, cond_true]; decide
    · simp only [sameN, bitsN, h, quo_nan, cond_true, decide_true]
    · have : (IntKind.wrap .u64 ((a &&& 9218868437227405312 : Nat) : Int)) = 9218868437227405312 := by rw [hw _ (by have := hle 9218868437227405312; omega), and_exp hw1]; rfl
      rw [← h1] at this
      simpa using this
    · have : (IntKind.wrap .u64 ((a &&& 4503599627370495 : Nat) : Int)) ≠ 0 := by
        rw [hw _ (by have := hle 4503599627370495; omega)]
        have := and_frac hw1
        omega
      rw [← h2] at this
      simpa using this
  · refine need_of ?_ (need_of (same_self _) (need_of ?_ trivial))
    · simp [bitsN, h]
    · have := order_self a
      rw [h] at this
      simpa using this
end Go.Proofs.Ytokpobfimphhgaa.Ev
