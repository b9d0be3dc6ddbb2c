/-
  Plain laws of floating-point numbers: sums and products in whichever order, the sign turned.
-/
import Derived.Test.YtokpobfimphhgaaRealS
namespace Go.Proofs.Ytokpobfimphhgaa.Ev
open Go Ieee

theorem sum_comm (x y : Datum) : x.sum y = y.sum x := by
  cases x <;> cases y <;> try rfl
  · rename_i s m i t n j
    simp only [Datum.sum]
    rw [Int.min_comm i j, Int.add_comm, Bool.and_comm]
  · rename_i s t
    simp only [Datum.sum]
    by_cases h : s = t
    · subst h; rfl
    · rw [if_neg h, if_neg (fun e => h e.symm)]
theorem product_comm (x y : Datum) : x.product y = y.product x := by
  cases x <;> cases y <;> try rfl
  · rename_i s m i t n j
    simp only [Datum.product]
    rw [Bool.xor_comm, Nat.mul_comm, Int.add_comm]
  · rename_i s t
    simp only [Datum.product]
    rw [Bool.xor_comm]
theorem add_comm64 (a b : Nat) : double.add a b = double.add b a := by simp only [Format.add, sum_comm]
theorem mul_comm64 (a b : Nat) : double.mul a b = double.mul b a := by simp only [Format.mul, product_comm]
theorem neg_neg64 (a : Nat) : Op.negFloat .f64 (Op.negFloat .f64 a) = a := by
  unfold Op.negFloat
  rw [Nat.xor_assoc, Nat.xor_self, Nat.xor_zero]
theorem sub_add_neg (a b : Nat) : double.sub a b = double.add a (Op.negFloat .f64 b) := by
  unfold Format.sub Format.add
  rw [read_neg]
theorem ari_add_comm (a b : Nat) : ariR .f64 .add a b = ariR .f64 .add b a := by simp only [ariR]; rw [show FloatKind.format .f64 = double from rfl, add_comm64]
theorem ari_mul_comm (a b : Nat) : ariR .f64 .mul a b = ariR .f64 .mul b a := by simp only [ariR]; rw [show FloatKind.format .f64 = double from rfl, mul_comm64]
theorem qnan64 : nanB .f64 (qnan .f64) = true := qnan_nan .f64
theorem ari_sub (a b : Nat) : ariR .f64 .sub a b = ariR .f64 .add a (negR b) := by
  cases h : nanB .f64 b with
  | true =>
    have h1 := (arith_nan (k := .f64) (a := a) (b := b) (by rw [h, Bool.or_true])).2.1
    have h2 := (arith_nan (k := .f64) (a := a) (b := qnan .f64) (by rw [qnan64, Bool.or_true])).1
    simp only [ariR, negR, h, cond_true, h1, h2, Option.getD_none]
  | false =>
    simp only [ariR, negR, h, cond_false]
    rw [show FloatKind.format .f64 = double from rfl, sub_add_neg]
theorem neg_nanB (a : Nat) : nanB .f64 (Op.negFloat .f64 a) = nanB .f64 a := by
  cases h : nanB .f64 a with
  | true => exact neg_nan h
  | false =>
    cases h2 : nanB .f64 (Op.negFloat .f64 a) with
    | false => rfl
    | true => have := neg_nan h2; rw [neg_neg64, h] at this; cases this
theorem bits_neg_neg (a : Nat) : bitsN (negR (negR a)) = bitsN a := by
  cases h : nanB .f64 a with
  | true => simp only [negR, h, cond_true, qnan64, bitsN]
  | false => simp only [negR, h, cond_false, neg_nanB, neg_neg64]
end Go.Proofs.Ytokpobfimphhgaa.Ev
