/-
  Numbers without what stands behind their point: how they stand to a power of two tells how great they are. Plain arithmetic, no condition.
-/
import Derived.Test.YtokpobfimphhgaaRealS
set_option linter.unusedVariables false
set_option linter.unusedSimpArgs false
namespace Go.Proofs.Ytokpobfimphhgaa.Ev
open Go

theorem cut_zero (neg : Bool) (n drop : Nat) : Ieee.Toward.zero.cut neg n drop = n / 2 ^ drop := by
  unfold Ieee.Toward.cut
  simp only [Nat.one_shiftLeft, Bool.toNat_false, Nat.add_zero]
  rcases Nat.le_total drop (n.log2 + 2) with h | h
  · rw [Nat.min_eq_left h]
  · rw [Nat.min_eq_right h]
    have h1 : n < 2 ^ (n.log2 + 2) := Nat.lt_of_lt_of_le Nat.lt_log2_self (Nat.pow_le_pow_right (by omega) (by omega))
    have h2 : n < 2 ^ drop := Nat.lt_of_lt_of_le h1 (Nat.pow_le_pow_right (by omega) h)
    rw [Nat.div_eq_of_lt h1, Nat.div_eq_of_lt h2]
theorem scale_lt {m a b i' j' K q : Nat} {i j : Int} (ha : i + K = a + i') (hb : j + K = b + i') (hj : j = (q : Int) - 52) (h : m * 2 ^ a < 2 ^ 52 * 2 ^ b) : m * 2 ^ i.toNat < 2 ^ q * 2 ^ (-i).toNat := by
  have h1 : m * 2 ^ (a + i') < 2 ^ (52 + b + i') := by
    rw [Nat.pow_add, ← Nat.mul_assoc, Nat.pow_add 2 (52 + b), Nat.pow_add 2 52]
    exact Nat.mul_lt_mul_of_pos_right h (Nat.pow_pos (by omega))
  have e1 : 52 + b + i' = q + K := by omega
  rw [e1] at h1
  have h2 : m * 2 ^ (a + i') * 2 ^ (-i).toNat < 2 ^ (q + K) * 2 ^ (-i).toNat := Nat.mul_lt_mul_of_pos_right h1 (Nat.pow_pos (by omega))
  have e2 : m * 2 ^ (a + i') * 2 ^ (-i).toNat = m * 2 ^ i.toNat * 2 ^ K := by
    rw [Nat.mul_assoc, ← Nat.pow_add, Nat.mul_assoc, ← Nat.pow_add]
    congr 2
    omega
  have e3 : 2 ^ (q + K) * 2 ^ (-i).toNat = 2 ^ q * 2 ^ (-i).toNat * 2 ^ K := by
    rw [Nat.pow_add, Nat.mul_assoc, Nat.mul_comm (2 ^ K), ← Nat.mul_assoc]
  rw [e2, e3] at h2
  exact Nat.lt_of_mul_lt_mul_right h2
theorem scale_le {m a b i' j' K q : Nat} {i j : Int} (ha : i + K = a + i') (hb : j + K = b + i') (hj : j = (q : Int) - 52) (h : m * 2 ^ a ≤ 2 ^ 52 * 2 ^ b) : m * 2 ^ i.toNat ≤ 2 ^ q * 2 ^ (-i).toNat := by
  have h1 : m * 2 ^ (a + i') ≤ 2 ^ (52 + b + i') := by
    rw [Nat.pow_add, ← Nat.mul_assoc, Nat.pow_add 2 (52 + b), Nat.pow_add 2 52]
    exact Nat.mul_le_mul_right _ h
  have e1 : 52 + b + i' = q + K := by omega
  rw [e1] at h1
  have h2 : m * 2 ^ (a + i') * 2 ^ (-i).toNat ≤ 2 ^ (q + K) * 2 ^ (-i).toNat := Nat.mul_le_mul_right _ h1
  have e2 : m * 2 ^ (a + i') * 2 ^ (-i).toNat = m * 2 ^ i.toNat * 2 ^ K := by
    rw [Nat.mul_assoc, ← Nat.pow_add, Nat.mul_assoc, ← Nat.pow_add]
    congr 2
    omega
  have e3 : 2 ^ (q + K) * 2 ^ (-i).toNat = 2 ^ q * 2 ^ (-i).toNat * 2 ^ K := by
    rw [Nat.pow_add, Nat.mul_assoc, Nat.mul_comm (2 ^ K), ← Nat.mul_assoc]
  rw [e2, e3] at h2
  exact Nat.le_of_mul_le_mul_right h2 (Nat.pow_pos (by omega))
theorem cmp_lt {x y : Int} : compare x y = .lt ↔ x < y := by
  simp only [compare, compareOfLessAndEq]
  split
  · simp_all
  · split <;> simp_all
/-- how a number stands to the power of two, and what it is without what stands behind its point -/
theorem toInt_bounds {s : Bool} {m : Nat} {i : Int} (q : Nat) (j : Int) (hj : j = (q : Int) - 52)
    (h1 : compare (Ieee.signed s m (i - min i j).toNat) (Ieee.signed false (2 ^ 52) (j - min i j).toNat) = .lt)
    (h2 : compare (Ieee.signed s m (i - min i j).toNat) (Ieee.signed true (2 ^ 52) (j - min i j).toNat) ≠ .lt) :
    ∃ v : Int, (Ieee.Datum.number s m i).toInt .zero = some v ∧ -((2 ^ q : Nat) : Int) ≤ v ∧ v < ((2 ^ q : Nat) : Int) := by
  refine ⟨Ieee.signed s (Ieee.Toward.zero.cut s (m <<< i.toNat) (-i).toNat) 0, rfl, ?_⟩
  rw [cut_zero, Nat.shiftLeft_eq]
  rw [cmp_lt] at h1
  have h2 : ¬ _ := fun h => h2 (cmp_lt.2 h)
  have ha : i + ((-(min i j)).toNat : Nat) = ((i - min i j).toNat : Nat) + ((min i j).toNat : Nat) := by omega
  have hb : j + ((-(min i j)).toNat : Nat) = ((j - min i j).toNat : Nat) + ((min i j).toNat : Nat) := by omega
  have hq : 0 < 2 ^ q := Nat.pow_pos (by omega)
  unfold Ieee.signed at h1 h2 ⊢
  cases s with
  | false =>
    simp only [Bool.false_eq_true, if_false, Nat.shiftLeft_eq] at h1 ⊢
    have h3 : m * 2 ^ (i - min i j).toNat < 2 ^ 52 * 2 ^ (j - min i j).toNat := by exact_mod_cast h1
    have h4 := scale_lt (j' := 0) ha hb hj h3
    have h5 : m * 2 ^ i.toNat / 2 ^ (-i).toNat < 2 ^ q := Nat.div_lt_of_lt_mul (by rw [Nat.mul_comm (2 ^ (-i).toNat) (2 ^ q)]; exact h4)
    simp only [Nat.pow_zero, Nat.mul_one]
    generalize m * 2 ^ i.toNat / 2 ^ (-i).toNat = c at h5
    generalize 2 ^ q = p at h5 hq
    omega
  | true =>
    simp only [if_true, Nat.shiftLeft_eq] at h2 ⊢
    have h3 : m * 2 ^ (i - min i j).toNat ≤ 2 ^ 52 * 2 ^ (j - min i j).toNat := by
      have : (((m * 2 ^ (i - min i j).toNat : Nat)) : Int) ≤ ((2 ^ 52 * 2 ^ (j - min i j).toNat : Nat) : Int) := by omega
      exact_mod_cast this
    have h4 := scale_le (j' := 0) ha hb hj h3
    have h5 : m * 2 ^ i.toNat / 2 ^ (-i).toNat ≤ 2 ^ q := Nat.div_le_of_le_mul (by rw [Nat.mul_comm (2 ^ (-i).toNat) (2 ^ q)]; exact h4)
    simp only [Nat.pow_zero, Nat.mul_one]
    generalize m * 2 ^ i.toNat / 2 ^ (-i).toNat = c at h5
    generalize 2 ^ q = p at h5 hq
    omega
theorem nan_is {a : Nat} (h : nanB .f64 a = true) : ∃ s p, Ieee.double.read a = .nan s p := nan_read (k := .f64) h
theorem nan_not {a : Nat} (h : nanB .f64 a = false) : ∀ s p, Ieee.double.read a ≠ .nan s p := fun s p e => by
  have := nan_of_read (k := .f64) e
  rw [h] at this; cases this
theorem order_some {a b : Nat} (h1 : nanB .f64 a = false) (h2 : nanB .f64 b = false) : Ieee.double.order a b ≠ none := by
  unfold Ieee.Format.order
  cases ha : Ieee.double.read a with
  | nan s p => exact absurd ha (nan_not h1 s p)
  | infinity s => cases hb : Ieee.double.read b with
    | nan t q => exact absurd hb (nan_not h2 t q)
    | infinity t => simp [Ieee.Datum.order]
    | number t n j => simp [Ieee.Datum.order]
  | number s m i => cases hb : Ieee.double.read b with
    | nan t q => exact absurd hb (nan_not h2 t q)
    | infinity t => simp [Ieee.Datum.order]
    | number t n j => simp [Ieee.Datum.order]
theorem order_nan {a b : Nat} (h : nanB .f64 a = true ∨ nanB .f64 b = true) : Ieee.double.order a b = none := by
  have h' : (nanB .f64 a || nanB .f64 b) = true := by simpa using h
  exact (arith_nan (k := .f64) h').2.2.2.2
theorem word_nan {s : Bool} {r : Nat} (h : r ≤ Ieee.double.infRung) : nanB .f64 (Ieee.double.word s r) = false := by
  have s1 : Ieee.double.signWeight = 9223372036854775808 := by decide
  have s2 : Ieee.double.infRung = 9218868437227405312 := by decide
  cases hq : nanB .f64 (Ieee.double.word s r) with
  | false => rfl
  | true =>
    obtain ⟨t, p, hr⟩ := nan_is hq
    have hw : Ieee.double.word s r % Ieee.double.signWeight = r := by
      unfold Ieee.Format.word
      rw [s1]
      rw [s2] at h
      cases s <;> simp <;> omega
    unfold Ieee.Format.read at hr
    simp only [hw] at hr
    split at hr
    · cases hr
    · split at hr
      · cases hr
      · split at hr
        · cases hr
        · rename_i h1 h2 h3; omega
theorem write_nan {d : Ieee.Datum} (h : ∀ s t, d ≠ .nan s t) : nanB .f64 (Ieee.double.write d) = false := by
  cases d with
  | nan s t => exact absurd rfl (h s t)
  | infinity s => exact word_nan (Nat.le_refl _)
  | number s m e =>
    show nanB .f64 (Ieee.double.nearest s m e) = false
    unfold Ieee.Format.nearest
    split
    · exact word_nan (Nat.zero_le _)
    · exact word_nan (Nat.min_le_right _ _)
theorem nan_trunc (a : Nat) : nanB .f64 (truncR a) = nanB .f64 a := by
  unfold truncR
  cases h : nanB .f64 a with
  | true => exact qnan_nan .f64
  | false =>
    refine write_nan fun s t e => ?_
    have e : (Ieee.double.read a).integral .zero = .nan s t := e
    cases hr : Ieee.double.read a with
    | nan s' t' => exact nan_not h _ _ hr
    | infinity s' => rw [hr] at e; cases e
    | number s' m i => rw [hr] at e; cases e
/-- within the powers of two, a number has a whole part within them -/
theorem whole_in {t L H q : Nat} (hL : Ieee.double.read L = .number true (2 ^ 52) ((q : Int) - 52)) (hH : Ieee.double.read H = .number false (2 ^ 52) ((q : Int) - 52)) (hq : q ≤ 63)
    (h1 : Ieee.double.order t H = some .lt) (h2 : Ieee.double.order t L = some .gt ∨ Ieee.double.order t L = some .eq) :
    ∃ v : Int, (FloatKind.decode .f64 t).toInt .zero = some v ∧ -9223372036854775808 ≤ v ∧ v ≤ 9223372036854775807 ∧ -((2 ^ q : Nat) : Int) ≤ v ∧ v < ((2 ^ q : Nat) : Int) := by
  unfold Ieee.Format.order at h1 h2
  rw [hH] at h1
  rw [hL] at h2
  show ∃ v : Int, (Ieee.double.read t).toInt .zero = some v ∧ _
  cases hr : Ieee.double.read t with
  | nan s p => rw [hr] at h1; simp [Ieee.Datum.order] at h1
  | infinity s =>
    rw [hr] at h1 h2
    simp only [Ieee.Datum.order] at h1 h2
    cases s <;> simp at h1 h2
  | number s m i =>
    rw [hr] at h1 h2
    simp only [Ieee.Datum.order, Option.some.injEq] at h1 h2
    obtain ⟨v, e1, e2, e3⟩ := toInt_bounds (s := s) (m := m) (i := i) q ((q : Int) - 52) rfl h1 (by rcases h2 with h | h <;> rw [h] <;> exact fun e => by cases e)
    have hp : 2 ^ q ≤ 9223372036854775808 := Nat.pow_le_pow_right (n := 2) (by omega) hq
    have hp : ((2 ^ q : Nat) : Int) ≤ 9223372036854775808 := Int.ofNat_le.2 hp
    exact ⟨v, e1, by omega, by omega, e2, e3⟩
end Go.Proofs.Ytokpobfimphhgaa.Ev
