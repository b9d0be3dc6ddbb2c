/-
  Floats: the whole part of a number, at one scale for all. Plain arithmetic, no condition.
-/
import Derived.Test.YtokpobfimphhgaaFlx
import Derived.Test.YtokpobfimphhgaaRealTr
set_option linter.unusedVariables false
set_option linter.unusedSimpArgs false
namespace Go.Proofs.Ytokpobfimphhgaa.Flx
open Go.Proofs.Ytokpobfimphhgaa.Ev

theorem sgn (s : Bool) (m k : Nat) : Ieee.signed s m k = if s then -((m * 2 ^ k : Nat) : Int) else ((m * 2 ^ k : Nat) : Int) := by
  unfold Ieee.signed; simp only [Nat.shiftLeft_eq]
/-- a number, as so many of the least there are -/
def val (s : Bool) (m : Nat) (i : Int) : Int := Ieee.signed s m (i + 1074).toNat
theorem cmp_scale (a b : Int) (c : Nat) (hc : 0 < c) : compare (a * c) (b * c) = compare a b := by
  have h : (0 : Int) < (c : Int) := by omega
  have h1 : (a * c < b * c) ↔ (a < b) := Int.mul_lt_mul_right h
  have h2 : (a * c = b * c) ↔ a = b := ⟨fun e => Int.eq_of_mul_eq_mul_right (by omega) e, fun e => by rw [e]⟩
  simp only [compare, compareOfLessAndEq, h1, h2]
theorem signed_mul (s : Bool) (m a c : Nat) : Ieee.signed s m (a + c) = Ieee.signed s m a * ((2 ^ c : Nat) : Int) := by
  have e : m * 2 ^ (a + c) = m * 2 ^ a * 2 ^ c := by rw [Nat.pow_add, Nat.mul_assoc]
  rw [sgn, sgn, e]
  cases s with
  | false => simp only [Bool.false_eq_true, if_false, Int.natCast_mul]
  | true => simp only [if_true, Int.natCast_mul, Int.neg_mul]
theorem val_scale (s : Bool) (m : Nat) {i b : Int} (hb : b ≤ i) (h : -1074 ≤ b) : val s m i = Ieee.signed s m (i - b).toNat * ((2 ^ (b + 1074).toNat : Nat) : Int) := by
  unfold val
  rw [← signed_mul]; congr 1; omega
theorem ord_val (s t : Bool) (m n : Nat) {i j : Int} (hi : -1074 ≤ i) (hj : -1074 ≤ j) : (Ieee.Datum.number s m i).order (.number t n j) = some (compare (val s m i) (val t n j)) := by
  rw [val_scale s m (b := min i j) (by omega) (by omega), val_scale t n (b := min i j) (by omega) (by omega), cmp_scale _ _ _ (Nat.two_pow_pos _)]
  rfl
theorem val_eq (s : Bool) (m : Nat) (i : Int) : val s m i = if s then -((m * 2 ^ (i + 1074).toNat : Nat) : Int) else ((m * 2 ^ (i + 1074).toNat : Nat) : Int) := sgn _ _ _
theorem sum_val (s t : Bool) (m n : Nat) {i j : Int} (hi : -1074 ≤ i) (hj : -1074 ≤ j) (h : val s m i + val t n j = 0) : ∃ g, (Ieee.Datum.number s m i).sum (.number t n j) = some (.number g 0 (min i j)) := by
  rw [val_scale s m (b := min i j) (by omega) (by omega), val_scale t n (b := min i j) (by omega) (by omega), ← Int.add_mul] at h
  have hp : ((2 ^ (min i j + 1074).toNat : Nat) : Int) ≠ 0 := by have := Nat.two_pow_pos (min i j + 1074).toNat; omega
  have h0 : Ieee.signed s m (i - min i j).toNat + Ieee.signed t n (j - min i j).toNat = 0 := by
    rcases Int.mul_eq_zero.1 h with h | h
    · exact h
    · exact absurd h hp
  have e : (Ieee.signed s m (i - min i j).toNat + Ieee.signed t n (j - min i j).toNat).natAbs = 0 := by rw [h0]; rfl
  exact ⟨_, congrArg (fun r => some (Ieee.Datum.number (if (Ieee.signed s m (i - min i j).toNat + Ieee.signed t n (j - min i j).toNat) = 0 then s && t else decide ((Ieee.signed s m (i - min i j).toNat + Ieee.signed t n (j - min i j).toNat) < 0)) r (min i j))) e⟩
/-- how many least ones one is -/
def KE : Nat := 1074
theorem KE_is : KE = 1074 := rfl
def D : Nat := 2 ^ KE
theorem D_pos : 0 < D := Nat.two_pow_pos KE
theorem to_D {k V : Nat} {j : Int} (hj : -1074 ≤ j) (h : k * 2 ^ j.toNat = V * 2 ^ (-j).toNat) : k * 2 ^ (j + 1074).toNat = V * D := by
  have hK := KE_is
  unfold D
  rcases (by omega : j < 0 ∨ 0 ≤ j) with hn | hn
  · have t1 : j.toNat = 0 := by omega
    rw [t1, Nat.pow_zero, Nat.mul_one] at h
    rw [h, Nat.mul_assoc, ← Nat.pow_add]; congr 2; omega
  · have t1 : (-j).toNat = 0 := by omega
    rw [t1, Nat.pow_zero, Nat.mul_one] at h
    have t2 : (j + 1074).toNat = j.toNat + KE := by omega
    rw [t2, Nat.pow_add, ← Nat.mul_assoc, h]
theorem of_D {k V : Nat} {j : Int} (hj : -1074 ≤ j) (h : k * 2 ^ (j + 1074).toNat = V * D) : k * 2 ^ j.toNat = V * 2 ^ (-j).toNat := by
  have hK := KE_is
  unfold D at h
  rcases (by omega : j < 0 ∨ 0 ≤ j) with hn | hn
  · have t1 : j.toNat = 0 := by omega
    rw [t1, Nat.pow_zero, Nat.mul_one]
    have e : (2 : Nat) ^ KE = 2 ^ (-j).toNat * 2 ^ (j + 1074).toNat := by rw [← Nat.pow_add]; congr 1; omega
    rw [e, ← Nat.mul_assoc] at h
    exact Nat.eq_of_mul_eq_mul_right (Nat.two_pow_pos _) h
  · have t1 : (-j).toNat = 0 := by omega
    have t2 : (j + 1074).toNat = j.toNat + KE := by omega
    rw [t1, Nat.pow_zero, Nat.mul_one]
    rw [t2, Nat.pow_add, ← Nat.mul_assoc] at h
    exact Nat.eq_of_mul_eq_mul_right (Nat.two_pow_pos _) h
/-- the whole part -/
def whole (m : Nat) (i : Int) : Nat := m * 2 ^ i.toNat / 2 ^ (-i).toNat
theorem whole_D {m : Nat} {i : Int} (hi : -1074 ≤ i) : whole m i = m * 2 ^ (i + 1074).toNat / D := by
  have hK := KE_is
  unfold whole D
  rcases (by omega : i < 0 ∨ 0 ≤ i) with hn | hn
  · have t1 : i.toNat = 0 := by omega
    have e : (2 : Nat) ^ KE = 2 ^ (-i).toNat * 2 ^ (i + 1074).toNat := by rw [← Nat.pow_add]; congr 1; omega
    rw [t1, Nat.pow_zero, Nat.mul_one, e, Nat.mul_div_mul_right _ _ (Nat.two_pow_pos _)]
  · have t1 : (-i).toNat = 0 := by omega
    have t2 : (i + 1074).toNat = i.toNat + KE := by omega
    rw [t1, Nat.pow_zero, Nat.div_one, t2, Nat.pow_add, ← Nat.mul_assoc, Nat.mul_div_cancel _ (Nat.two_pow_pos _)]
theorem whole_pos {m : Nat} {i : Int} (hn : 0 ≤ i) : m * 2 ^ (i + 1074).toNat = whole m i * D := by
  have hK := KE_is
  unfold whole D
  have t1 : (-i).toNat = 0 := by omega
  have t2 : (i + 1074).toNat = i.toNat + KE := by omega
  rw [t1, Nat.pow_zero, Nat.div_one, t2, Nat.pow_add, ← Nat.mul_assoc]
/-- a whole number of 53 digits and noughts is written as it is -/
theorem near_whole (s : Bool) (q p : Nat) (hq : q < 2 ^ 53) (hp : p ≤ 971) : ∃ (k : Nat) (j : Int), Ieee.double.read (Ieee.double.nearest s (q * 2 ^ p) 0) = .number s k j ∧ -1074 ≤ j ∧ k * 2 ^ (j + 1074).toNat = q * 2 ^ p * D := by
  rcases Nat.eq_zero_or_pos q with h | h
  · refine ⟨0, -1074, ?_, by omega, by rw [h, Nat.zero_mul, Nat.zero_mul, Nat.zero_mul]⟩
    rw [h, Nat.zero_mul]
    have e := read_word s 0 0 (by omega) (.inr rfl) (by decide)
    unfold Ieee.Format.nearest
    rw [if_pos rfl]
    exact e
  · obtain ⟨k, j, e, hk⟩ := nearest_int s q p h hq hp
    have hj := (read_num e).2.1
    exact ⟨k, j, e, hj, to_D hj hk⟩
theorem near_trunc (s : Bool) {m : Nat} {i : Int} (hm : m < 2 ^ 53) (hi : -1074 ≤ i) (hi2 : i ≤ 971) : ∃ (k : Nat) (j : Int), Ieee.double.read (Ieee.double.nearest s (whole m i) 0) = .number s k j ∧ -1074 ≤ j ∧ k * 2 ^ (j + 1074).toNat = whole m i * D := by
  rcases (by omega : i < 0 ∨ 0 ≤ i) with hn | hn
  · have h : whole m i < 2 ^ 53 := by
      unfold whole
      have t1 : i.toNat = 0 := by omega
      rw [t1, Nat.pow_zero, Nat.mul_one]
      exact Nat.lt_of_le_of_lt (Nat.div_le_self _ _) hm
    have := near_whole s (whole m i) 0 h (by omega)
    simpa using this
  · have h : whole m i = m * 2 ^ i.toNat := by
      unfold whole
      have t1 : (-i).toNat = 0 := by omega
      rw [t1, Nat.pow_zero, Nat.div_one]
    rw [h]
    exact near_whole s m i.toNat hm (by omega)
theorem trunc_read {a m : Nat} {s : Bool} {i : Int} (h : Ieee.double.read a = .number s m i) : ∃ (k : Nat) (j : Int), Ieee.double.read (truncR a) = .number s k j ∧ -1074 ≤ j ∧ k * 2 ^ (j + 1074).toNat = whole m i * D := by
  obtain ⟨h1, h2, h3⟩ := read_num h
  have hn : nanB .f64 a = false := by
    cases hq : nanB .f64 a with
    | false => rfl
    | true => obtain ⟨t, p, e⟩ := nan_is hq; rw [h] at e; cases e
  have e : truncR a = Ieee.double.nearest s (whole m i) 0 := by
    unfold truncR
    rw [hn]
    show Ieee.double.write ((Ieee.double.read a).integral .zero) = _
    rw [h]
    show Ieee.double.nearest s (Ieee.Toward.zero.cut s (m <<< i.toNat) (-i).toNat) 0 = _
    rw [cut_zero, Nat.shiftLeft_eq]; rfl
  rw [e]
  exact near_trunc s h1 h2 h3
theorem toInt_whole {s : Bool} {k V : Nat} {j : Int} (hj : -1074 ≤ j) (h : k * 2 ^ (j + 1074).toNat = V * D) : (Ieee.Datum.number s k j).toInt .zero = some (if s then -(V : Int) else (V : Int)) := by
  have e : whole k j = V := by rw [whole_D hj, h, Nat.mul_div_cancel _ D_pos]
  show some (Ieee.signed s (Ieee.Toward.zero.cut s (k <<< j.toNat) (-j).toNat) 0) = _
  rw [cut_zero, Nat.shiftLeft_eq, sgn, Nat.pow_zero, Nat.mul_one]
  have : k * 2 ^ j.toNat / 2 ^ (-j).toNat = V := e
  rw [this]
/-- a whole number as a float -/
theorem conv_val {n : Int} {q p : Nat} (hn : n.natAbs = q * 2 ^ p) (hq : q < 2 ^ 53) (hp : p ≤ 971) :
    ∃ (k : Nat) (j : Int), Ieee.double.read (Ieee.double.nearest (decide (n < 0)) n.natAbs 0) = .number (decide (n < 0)) k j ∧ -1074 ≤ j ∧ k * 2 ^ (j + 1074).toNat = n.natAbs * D := by
  rw [hn]; exact near_whole _ q p hq hp
/-- what a whole part is told by -/
structure Parts (a : Nat) (s : Bool) (m : Nat) (i n : Int) : Prop where
  rd : Ieee.double.read a = .number s m i
  n : n = if s then -(whole m i : Int) else (whole m i : Int)
theorem val_conv {n : Int} {k : Nat} {j : Int} (h : k * 2 ^ (j + 1074).toNat = n.natAbs * D) : val (decide (n < 0)) k j = n * (D : Int) := by
  rw [val_eq, h, Int.natCast_mul]
  rcases (by omega : n < 0 ∨ 0 ≤ n) with hn | hn
  · have : decide (n < 0) = true := decide_eq_true hn
    rw [this, if_pos rfl, ← Int.neg_mul]; congr 1; omega
  · have : decide (n < 0) = false := decide_eq_false (by omega)
    rw [this, if_neg (by simp)]; congr 1; omega
theorem val_trunc {s : Bool} {W k : Nat} {j : Int} (h : k * 2 ^ (j + 1074).toNat = W * D) : val s k j = (if s then -(W : Int) else (W : Int)) * (D : Int) := by
  rw [val_eq, h, Int.natCast_mul]
  cases s with
  | true => rw [if_pos rfl, if_pos rfl, Int.neg_mul]
  | false => rw [if_neg (by simp), if_neg (by simp)]
end Go.Proofs.Ytokpobfimphhgaa.Flx
