/-
  RealWhole: what has to hold holds.
-/
import Derived.Test.YtokpobfimphhgaaRealWhV
import Derived.Test.YtokpobfimphhgaaFly
import Derived.Test.YtokpobfimphhgaaPost
set_option linter.unusedVariables false
set_option linter.unusedSimpArgs false
namespace Go.Proofs.Ytokpobfimphhgaa.Ev
open Go Go.Proofs Go.RowKit Go.Proofs.Ytokpobfimphhgaa.Flx

theorem gt_b (x y : Int) : (some (compare x y) == some Ordering.gt) = decide (y < x) := by
  simp only [compare, compareOfLessAndEq]
  rcases Int.lt_trichotomy x y with h | h | h
  · rw [if_pos h, decide_eq_false (by omega)]; rfl
  · rw [if_neg (by omega), if_pos h, decide_eq_false (by omega)]; rfl
  · rw [if_neg (by omega), if_neg (by omega), decide_eq_true h]; rfl
theorem lt_b (x y : Int) : (some (compare x y) == some Ordering.lt) = decide (x < y) := by
  simp only [compare, compareOfLessAndEq]
  rcases Int.lt_trichotomy x y with h | h | h
  · rw [if_pos h, decide_eq_true h]; rfl
  · rw [if_neg (by omega), if_pos h, decide_eq_false (by omega)]; rfl
  · rw [if_neg (by omega), if_neg (by omega), decide_eq_false (by omega)]; rfl
theorem eq_b (x y : Int) : (some (compare x y) == some Ordering.eq) = decide (x = y) := by
  simp only [compare, compareOfLessAndEq]
  rcases Int.lt_trichotomy x y with h | h | h
  · rw [if_pos h, decide_eq_false (by omega)]; rfl
  · rw [if_neg (by omega), if_pos h, decide_eq_true h]; rfl
  · rw [if_neg (by omega), if_neg (by omega), decide_eq_false (by omega)]; rfl
theorem ge_b (x y : Int) : (some (compare x y) == some Ordering.gt || some (compare x y) == some Ordering.eq) = decide (y ≤ x) := by
  rw [gt_b, eq_b]
  by_cases h : y ≤ x
  · rw [decide_eq_true h]
    rcases Int.lt_or_eq_of_le h with h | h
    · rw [decide_eq_true h]; rfl
    · rw [decide_eq_true h.symm]; simp
  · rw [decide_eq_false h, decide_eq_false (by omega), decide_eq_false (by omega)]; rfl
theorem val_pow (s : Bool) (q : Nat) : val s (2 ^ 52) ((q : Int) - 52) = (if s then -((2 ^ q : Nat) : Int) else ((2 ^ q : Nat) : Int)) * (D : Int) := by
  refine val_trunc ?_
  have hK := KE_is
  unfold D
  rw [← Nat.pow_add, ← Nat.pow_add]; congr 1; omega
/-- how two numbers stand, by values -/
theorem od_val {x y : Nat} {s t : Bool} {m n : Nat} {i j : Int} (hx : Ieee.double.read x = .number s m i) (hy : Ieee.double.read y = .number t n j) : od x y = some (compare (val s m i) (val t n j)) := by
  unfold od Ieee.Format.order
  rw [hx, hy]
  exact ord_val _ _ _ _ (read_num hx).2.1 (read_num hy).2.1
theorem od_int {x y : Nat} {s t : Bool} {m n : Nat} {i j a b : Int} (hx : Ieee.double.read x = .number s m i) (hy : Ieee.double.read y = .number t n j) (ha : val s m i = a * (D : Int)) (hb : val t n j = b * (D : Int)) : od x y = some (compare a b) := by
  rw [od_val hx hy, ha, hb, cmp_scale _ _ _ D_pos]
/-- what stands ahead of the point -/
def ahead (s : Bool) (m : Nat) (i : Int) : Int := if s then -(whole m i : Int) else (whole m i : Int)
def inB (q : Nat) (n : Int) : Bool := decide (-((2 ^ q : Nat) : Int) ≤ n) && decide (n < ((2 ^ q : Nat) : Int))
theorem okq_val {L H q a m : Nat} {s : Bool} {i : Int} (hL : Ieee.double.read L = .number true (2 ^ 52) ((q : Int) - 52)) (hH : Ieee.double.read H = .number false (2 ^ 52) ((q : Int) - 52)) (h : Ieee.double.read a = .number s m i) :
    okq L H a = inB q (ahead s m i) := by
  obtain ⟨k, j, e1, e2, e3⟩ := trunc_read h
  have hv : val s k j = ahead s m i * (D : Int) := val_trunc e3
  unfold okq inB
  rw [od_int e1 hL hv (val_pow true q), od_int e1 hH hv (val_pow false q), ge_b, lt_b]
  simp only [if_true, Bool.false_eq_true, if_false]
  generalize decide (-((2 ^ q : Nat) : Int) ≤ ahead s m i) = b1
  cases b1 <;> rfl
theorem toInt_val {a m : Nat} {s : Bool} {i : Int} (h : Ieee.double.read a = .number s m i) : ((FloatKind.decode .f64 (truncR a)).toInt .zero) = some (ahead s m i) := by
  obtain ⟨k, j, e1, e2, e3⟩ := trunc_read h
  show (Ieee.double.read (truncR a)).toInt .zero = _
  rw [e1, toInt_whole e2 e3]; rfl
theorem wh4 {a m : Nat} {s : Bool} {i : Int} (h : Ieee.double.read a = .number s m i) : whI 4 a = cond (inB 63 (ahead s m i)) (ahead s m i) 0 ∧ whE 4 a = cond (inB 63 (ahead s m i)) 0 7 := by
  have e := okq_val rd63.1 rd63.2 h
  have t := toInt_val h
  unfold whI whE
  rw [e, t]
  exact ⟨rfl, rfl⟩
theorem wh3 {a m : Nat} {s : Bool} {i : Int} (h : Ieee.double.read a = .number s m i) : whI 3 a = cond (inB 31 (ahead s m i)) (ahead s m i) 0 ∧ whE 3 a = cond (inB 31 (ahead s m i)) 0 7 := by
  have e := okq_val rd31.1 rd31.2 h
  have t := toInt_val h
  unfold whI whE
  rw [e, t]
  exact ⟨rfl, rfl⟩
theorem wh2 {a m : Nat} {s : Bool} {i : Int} (h : Ieee.double.read a = .number s m i) : whE 2 a = cond (inB 15 (ahead s m i)) 0 7 := by
  have e := okq_val rd15.1 rd15.2 h
  unfold whE
  rw [e]
  rfl
/-- a whole number as a float -/
theorem fl_read {n : Int} {q p : Nat} (hn : n.natAbs = q * 2 ^ p) (hq : q < 2 ^ 53) (hp : p ≤ 971) :
    ∃ (k : Nat) (j : Int), Ieee.double.read (FloatKind.nearest .f64 n) = .number (decide (n < 0)) k j ∧ k * 2 ^ (j + 1074).toNat = n.natAbs * D ∧ val (decide (n < 0)) k j = n * (D : Int) ∧ ahead (decide (n < 0)) k j = n := by
  obtain ⟨k, j, e1, e2, e3⟩ := conv_val hn hq hp
  have e : whole k j = n.natAbs := by rw [whole_D e2, e3, Nat.mul_div_cancel _ D_pos]
  refine ⟨k, j, e1, e3, val_conv e3, ?_⟩
  unfold ahead
  rw [e]
  rcases (by omega : n < 0 ∨ 0 ≤ n) with hn | hn
  · rw [decide_eq_true hn, if_pos rfl]; omega
  · rw [decide_eq_false (by omega), if_neg (by simp)]; omega
theorem small_fl {v : Int} (h1 : -2147483648 ≤ v) (h2 : v ≤ 2147483647) : whI 3 (FloatKind.nearest .f64 v) = v ∧ whE 3 (FloatKind.nearest .f64 v) = 0 ∧ whE 2 (FloatKind.nearest .f64 v) = cond (inB 15 v) 0 7 := by
  obtain ⟨k, j, e1, e2, e3, e4⟩ := fl_read (n := v) (q := v.natAbs) (p := 0) (by simp) (by omega) (by omega)
  have b1 : inB 31 v = true := by
    unfold inB
    rw [decide_eq_true (by omega), decide_eq_true (by omega)]; rfl
  have w3 := wh3 e1
  have w2 := wh2 e1
  rw [e4, b1] at w3
  rw [e4] at w2
  exact ⟨w3.1, w3.2, w2⟩
theorem inB15 (v : Int) : (cond (inB 15 v) (0 : Int) 7 == (0 : Int)) = (decide (v ≥ -32768) && decide (v ≤ 32767)) := by
  have : inB 15 v = (decide (v ≥ -32768) && decide (v ≤ 32767)) := by
    unfold inB
    congr 1
    exact decide_eq_decide.2 ⟨fun h => by have h : v < 32768 := h; omega, fun h => by show v < 32768; omega⟩
  rw [this]
  cases (decide (v ≥ -32768) && decide (v ≤ 32767)) <;> rfl
/-- what is asked of whole numbers -/
theorem tail_ok {v : Int} (h1 : -2147483648 ≤ v) (h2 : v ≤ 2147483647) :
    need (whE (3 : Int) (FloatKind.nearest FloatKind.f64 v) == (0 : Int)) (need (whI (3 : Int) (FloatKind.nearest FloatKind.f64 v) == IntKind.wrap IntKind.i64 v) (br (decide (v ≥ (-32768 : Int)))
      (need ((whE (2 : Int) (FloatKind.nearest FloatKind.f64 v) == (0 : Int)) == decide (v ≤ (32767 : Int))) True)
      (need ((whE (2 : Int) (FloatKind.nearest FloatKind.f64 v) == (0 : Int)) == false) True))) := by
  obtain ⟨a1, a2, a3⟩ := small_fl h1 h2
  have hw : IntKind.wrap .i64 v = v := w64 (by omega) (by omega)
  rw [a1, a2, a3, hw, inB15]
  refine need_of (by simp) (need_of (by simp) (br_of (fun h => need_of ?_ trivial) (fun h => need_of ?_ trivial)))
  · rw [h]; simp
  · rw [h]; simp
theorem read1 : Ieee.double.read 4607182418800017408 = .number false (2 ^ 52) (-52) := by decide +kernel
theorem read0 : Ieee.double.read 0 = .number false 0 (-1074) := by decide +kernel
theorem val0 : val false 0 (-1074) = 0 := by rw [val_eq]; simp
/-- below one -/
theorem sub_lt {x y : Nat} {g : Bool} {q : Nat} {base : Int} (h : (Ieee.double.read x).sum (Ieee.double.read y).opposite = some (.number g q base)) (hl : (Ieee.double.read (Ieee.double.write (.number g q base))).order (.number false (2 ^ 52) (-52)) = some .lt) :
    od (ariR .f64 .sub x y) 4607182418800017408 = some .lt := by
  have e : ariR .f64 .sub x y = Ieee.double.write (.number g q base) := by
    show (Ieee.double.sub x y).getD _ = _
    unfold Ieee.Format.sub
    rw [h]; rfl
  rw [e]
  unfold od Ieee.Format.order
  rw [read1]; exact hl
theorem sub_small {a m : Nat} {s : Bool} {i : Int} (h : Ieee.double.read a = .number s m i) :
    od (ariR .f64 .sub a (FloatKind.nearest .f64 (ahead s m i))) 4607182418800017408 = some .lt ∧ od (ariR .f64 .sub (FloatKind.nearest .f64 (ahead s m i)) a) 4607182418800017408 = some .lt := by
  obtain ⟨h1, h2, h3⟩ := read_num h
  have hab : (ahead s m i).natAbs = whole m i := by unfold ahead; cases s <;> simp
  rcases (by omega : i < 0 ∨ 0 ≤ i) with hn | hn
  · have hw : whole m i = m / 2 ^ (-i).toNat := by
      unfold whole
      have t1 : i.toNat = 0 := by omega
      rw [t1, Nat.pow_zero, Nat.mul_one]
    obtain ⟨k, j, e1, e2, e3, e4⟩ := fl_read (n := ahead s m i) (q := whole m i) (p := 0) (by rw [hab]; simp) (by rw [hw]; exact Nat.lt_of_le_of_lt (Nat.div_le_self _ _) h1) (by omega)
    have hj := (read_num e1).2.1
    rw [hab] at e2
    have hv := of_D hj e2
    rw [hw] at hv
    have hs : decide (ahead s m i < 0) = s ∨ k = 0 := by
      rcases Nat.eq_zero_or_pos (whole m i) with hz | hz
      · right
        rw [hz, Nat.zero_mul] at e2
        rcases Nat.mul_eq_zero.1 e2 with h | h
        · exact h
        · have := Nat.two_pow_pos (j + 1074).toNat; omega
      · left
        unfold ahead
        cases s with
        | true => exact decide_eq_true (by simp only [if_true]; omega)
        | false => exact decide_eq_false (by simp only [Bool.false_eq_true, if_false]; omega)
    generalize decide (ahead s m i < 0) = s' at *
    have hP := Nat.two_pow_pos (-i).toNat
    have hq : m % 2 ^ (-i).toNat < 2 ^ (-i).toNat := Nat.mod_lt _ hP
    have hq53 : m % 2 ^ (-i).toNat < 2 ^ 53 := Nat.lt_of_le_of_lt (Nat.mod_le _ _) h1
    have fin : ∀ (g : Bool) (base : Int), base ≤ i → (Ieee.double.read (Ieee.double.write (.number g (m % 2 ^ (-i).toNat * 2 ^ (i - base).toNat) base))).order (.number false (2 ^ 52) (-52)) = some .lt := fun g base hb => by
      rcases Nat.eq_zero_or_pos (m % 2 ^ (-i).toNat) with hz | hz
      · rw [hz, Nat.zero_mul]; exact zero_lt g base
      · have hbd : base + ((i - base).toNat : Nat) = i := by omega
        exact small_lt g _ _ base hz hq53 (by rw [hbd]; exact h2) (by rw [hbd]; omega) (by rw [hbd]; exact hq)
    refine ⟨?_, ?_⟩
    · obtain ⟨g, eg⟩ := frac_sum s s' hn hs hv
      exact sub_lt (g := g) (by rw [h, e1]; exact eg) (fin g _ (by omega))
    · obtain ⟨g, eg⟩ := frac_sum2 s s' hn hs hv
      exact sub_lt (g := g) (by rw [h, e1]; exact eg) (fin g _ (by omega))
  · have hw : whole m i = m * 2 ^ i.toNat := by
      unfold whole
      have t1 : (-i).toNat = 0 := by omega
      rw [t1, Nat.pow_zero, Nat.div_one]
    obtain ⟨k, j, e1, e2, e3, e4⟩ := fl_read (n := ahead s m i) (q := m) (p := i.toNat) (by rw [hab, hw]) h1 (by omega)
    have hj := (read_num e1).2.1
    have hvf : val s m i = ahead s m i * (D : Int) := val_trunc (whole_pos hn)
    have opp : ∀ (t : Bool) (n : Nat) (i : Int), val (!t) n i = -val t n i := fun t n i => by
      rw [val_eq, val_eq]; cases t <;> simp
    refine ⟨?_, ?_⟩
    · obtain ⟨g, eg⟩ := sum_val s (!decide (ahead s m i < 0)) m k h2 hj (by rw [opp, hvf, e3]; omega)
      exact sub_lt (g := g) (by rw [h, e1]; exact eg) (zero_lt g _)
    · obtain ⟨g, eg⟩ := sum_val (decide (ahead s m i < 0)) (!s) k m hj h2 (by rw [opp, hvf, e3]; omega)
      exact sub_lt (g := g) (by rw [h, e1]; exact eg) (zero_lt g _)
/-- what is told of one that is a number -/
structure Told1 (a : Nat) : Prop where
  hi : (od a 4890909195324358656 == some .gt || od a 4890909195324358656 == some .eq) = true → whE 4 a = 7 ∧ whI 4 a = 0
  lo : (od a 14114281232179134464 == some .lt) = true → whE 4 a = 7 ∧ whI 4 a = 0
  mid : (od a 4890909195324358656 == some .gt || od a 4890909195324358656 == some .eq) = false → (od a 14114281232179134464 == some .lt) = false →
    whE 4 a = 0 ∧ ((od (FloatKind.nearest .f64 (whI 4 a)) a == some .gt) = true → (od a 0 == some .gt || od a 0 == some .eq) = false) ∧
    ((od (FloatKind.nearest .f64 (whI 4 a)) a == some .lt) = true → (od a 0 == some .lt) = false) ∧
    od (ariR .f64 .sub a (FloatKind.nearest .f64 (whI 4 a))) 4607182418800017408 = some .lt ∧ od (ariR .f64 .sub (FloatKind.nearest .f64 (whI 4 a)) a) 4607182418800017408 = some .lt
theorem told_num {a m : Nat} {s : Bool} {i : Int} (h : Ieee.double.read a = .number s m i) : Told1 a := by
  obtain ⟨h1, h2, h3⟩ := read_num h
  have w4 := wh4 h
  have oH := od_val h rd63.2
  have oL := od_val h rd63.1
  have o0 := od_val h read0
  rw [val_pow] at oH oL
  rw [val0] at o0
  have hv := val_eq s m i
  have hA : whole m i = m * 2 ^ (i + 1074).toNat / D := whole_D h2
  have hAD := Nat.div_mul_le_self (m * 2 ^ (i + 1074).toNat) D
  rw [← hA] at hAD
  have hDp := D_pos
  have hle : ∀ c : Nat, c ≤ whole m i ↔ c * D ≤ m * 2 ^ (i + 1074).toNat := fun c => by rw [hA]; exact Nat.le_div_iff_mul_le D_pos
  obtain ⟨C, hp63⟩ : ∃ C : Nat, (2 : Nat) ^ 63 = C := ⟨_, rfl⟩
  have hC53 : 2 ^ 53 ≤ C := by rw [← hp63]; exact Nat.pow_le_pow_right (by omega) (by omega)
  have hC0 : 0 < C * D := Nat.mul_pos (by omega) D_pos
  have hbig : C * D < m * 2 ^ (i + 1074).toNat → m * 2 ^ (i + 1074).toNat = whole m i * D := fun hb => by
    rcases (by omega : i < 0 ∨ 0 ≤ i) with hn | hn
    · exfalso
      have hK := KE_is
      have c1 : 2 ^ (i + 1074).toNat ≤ D := by unfold D; exact Nat.pow_le_pow_right (by omega) (by omega)
      have c2 : m * 2 ^ (i + 1074).toNat ≤ C * D := Nat.mul_le_mul (by omega) c1
      omega
    · exact whole_pos hn
  have hle63 := hle C
  have hlt63 : whole m i ≤ C ∨ C * D < m * 2 ^ (i + 1074).toNat := by
    rcases Nat.lt_or_ge C (whole m i) with hc | hc
    · right
      have c1 := Nat.mul_lt_mul_of_pos_right hc D_pos
      omega
    · exact .inl hc
  have hbig2 : C * D < whole m i * D → C < whole m i := fun hc => Nat.lt_of_mul_lt_mul_right hc
  have hin : inB 63 (ahead s m i) = true ↔ (-(C : Int) ≤ ahead s m i ∧ ahead s m i < (C : Int)) := by
    unfold inB
    rw [hp63, Bool.and_eq_true, decide_eq_true_iff, decide_eq_true_iff]
  have hout : ¬ (-(C : Int) ≤ ahead s m i ∧ ahead s m i < (C : Int)) → whE 4 a = 7 ∧ whI 4 a = 0 := fun hn => by
    have : inB 63 (ahead s m i) = false := by
      cases hb : inB 63 (ahead s m i) with
      | false => rfl
      | true => exact absurd (hin.1 hb) hn
    rw [this] at w4
    exact ⟨w4.2, w4.1⟩
  have hok : (-(C : Int) ≤ ahead s m i ∧ ahead s m i < (C : Int)) → whE 4 a = 0 ∧ whI 4 a = ahead s m i := fun hn => by
    rw [hin.2 hn] at w4
    exact ⟨w4.2, w4.1⟩
  rw [hp63] at oH oL
  have oH : od a 4890909195324358656 = some (compare (val s m i) ((C * D : Nat) : Int)) := by
    rw [oH, Int.natCast_mul]; rfl
  have oL : od a 14114281232179134464 = some (compare (val s m i) (-((C * D : Nat) : Int))) := by
    rw [oL, Int.natCast_mul, ← Int.neg_mul]; rfl
  have hsub := sub_small h
  have hah : ahead s m i = if s then -(whole m i : Int) else (whole m i : Int) := rfl
  -- the whole part as a float
  have hcv : ∃ (k : Nat) (j : Int), Ieee.double.read (FloatKind.nearest .f64 (ahead s m i)) = .number (decide (ahead s m i < 0)) k j ∧ val (decide (ahead s m i < 0)) k j = ahead s m i * (D : Int) := by
    have hab : (ahead s m i).natAbs = whole m i := by unfold ahead; cases s <;> simp
    rcases (by omega : i < 0 ∨ 0 ≤ i) with hn | hn
    · have hw : whole m i = m / 2 ^ (-i).toNat := by
        unfold whole
        have t1 : i.toNat = 0 := by omega
        rw [t1, Nat.pow_zero, Nat.mul_one]
      obtain ⟨k, j, e1, e2, e3, e4⟩ := fl_read (n := ahead s m i) (q := whole m i) (p := 0) (by rw [hab]; simp) (by rw [hw]; exact Nat.lt_of_le_of_lt (Nat.div_le_self _ _) h1) (by omega)
      exact ⟨k, j, e1, e3⟩
    · have hw : whole m i = m * 2 ^ i.toNat := by
        unfold whole
        have t1 : (-i).toNat = 0 := by omega
        rw [t1, Nat.pow_zero, Nat.div_one]
      obtain ⟨k, j, e1, e2, e3, e4⟩ := fl_read (n := ahead s m i) (q := m) (p := i.toNat) (by rw [hab, hw]) h1 (by omega)
      exact ⟨k, j, e1, e3⟩
  obtain ⟨k, j, c1, c2⟩ := hcv
  have ocv := od_val c1 h
  rw [c2] at ocv
  have hnD : ahead s m i * (D : Int) = if s then -((whole m i * D : Nat) : Int) else ((whole m i * D : Nat) : Int) := by
    rw [hah]
    cases s with
    | true => simp only [if_true, Int.neg_mul, Int.natCast_mul]
    | false => simp only [Bool.false_eq_true, if_false, Int.natCast_mul]
  rw [hnD] at ocv
  have hW63 : ∀ x : Nat, x = whole m i → True := fun _ _ => trivial
  refine ⟨fun hh => ?_, fun hh => ?_, fun hh1 hh2 => ?_⟩
  · rw [oH, ge_b, decide_eq_true_iff, hv] at hh
    refine hout ?_
    generalize m * 2 ^ (i + 1074).toNat = A at *
    generalize C * D = P at *
    generalize whole m i * D = WD at *
    rw [hah]
    cases s with
    | true => simp only [if_true] at hh ⊢; omega
    | false =>
      simp only [Bool.false_eq_true, if_false] at hh ⊢
      have c : C ≤ whole m i := hle63.2 (Int.ofNat_le.1 hh)
      clear hbig hbig2 hle63 hlt63 hle hA hAD hin hout hok h1 hC53; omega
  · rw [oL, lt_b, decide_eq_true_iff, hv] at hh
    refine hout ?_
    generalize m * 2 ^ (i + 1074).toNat = A at *
    generalize C * D = P at *
    generalize whole m i * D = WD at *
    rw [hah]
    cases s with
    | true =>
      simp only [if_true] at hh ⊢
      have c1 : P < A := by omega
      have c2 := hbig c1
      have c3 := hbig2 (by omega)
      omega
    | false => simp only [Bool.false_eq_true, if_false] at hh ⊢; omega
  · rw [oH, ge_b, decide_eq_false_iff_not, hv] at hh1
    rw [oL, lt_b, decide_eq_false_iff_not, hv] at hh2
    have hr : -(C : Int) ≤ ahead s m i ∧ ahead s m i < (C : Int) := by
      generalize m * 2 ^ (i + 1074).toNat = A at *
      generalize C * D = P at *
      generalize whole m i * D = WD at *
      rw [hah]
      cases s with
      | true => simp only [if_true] at hh1 hh2 ⊢; omega
      | false =>
        simp only [Bool.false_eq_true, if_false] at hh1 hh2 ⊢
        have c : ¬ C ≤ whole m i := fun c => hh1 (Int.ofNat_le.2 (hle63.1 c))
        clear hbig hbig2 hle63 hlt63 hle hA hin hout hok h1 hC53 hh1; omega
    obtain ⟨e1, e2⟩ := hok hr
    rw [e2]
    refine ⟨e1, fun hh => ?_, fun hh => ?_, hsub⟩
    · rw [ocv, gt_b, decide_eq_true_iff, hv] at hh
      rw [o0, ge_b, decide_eq_false_iff_not, hv]
      generalize m * 2 ^ (i + 1074).toNat = A at *
      generalize whole m i * D = WD at *
      cases s with
      | true => simp only [if_true] at hh ⊢; omega
      | false => simp only [Bool.false_eq_true, if_false] at hh ⊢; omega
    · rw [ocv, lt_b, decide_eq_true_iff, hv] at hh
      rw [o0, lt_b, decide_eq_false_iff_not, hv]
      generalize m * 2 ^ (i + 1074).toNat = A at *
      generalize whole m i * D = WD at *
      cases s with
      | true => simp only [if_true] at hh ⊢; omega
      | false => simp only [Bool.false_eq_true, if_false] at hh ⊢; omega
theorem read_H : Ieee.double.read 4890909195324358656 = .number false (2 ^ 52) (((63 : Nat) : Int) - 52) := rd63.2
theorem nan_out {a : Nat} (h : ∀ (s : Bool) (m : Nat) (i : Int), Ieee.double.read a ≠ .number s m i) : whE 4 a = 7 ∧ whI 4 a = 0 := by
  have ht : okq 14114281232179134464 4890909195324358656 a = false := by
    cases hq : okq 14114281232179134464 4890909195324358656 a with
    | false => rfl
    | true =>
      obtain ⟨q1, q2⟩ := okq_in rd63.1 rd63.2 (by omega) hq
      cases hr : Ieee.double.read a with
      | number s m i => exact absurd hr (h s m i)
      | nan s p =>
        have := nan_of_read (k := .f64) hr
        rw [nan_trunc, this] at q1; cases q1
      | infinity s =>
        have hn : nanB .f64 a = false := by
          cases hq : nanB .f64 a with
          | false => rfl
          | true => obtain ⟨t, p, e⟩ := nan_is hq; rw [hr] at e; cases e
        have e : truncR a = Ieee.double.write (.infinity s) := by
          unfold truncR
          rw [hn]
          show Ieee.double.write ((Ieee.double.read a).integral .zero) = _
          rw [hr]; rfl
        rw [e] at q2
        cases s <;> revert q2 <;> decide +kernel
  unfold whE whI
  rw [ht]
  exact ⟨rfl, rfl⟩
theorem told_inf {a : Nat} {s : Bool} (h : Ieee.double.read a = .infinity s) : Told1 a := by
  have ho := nan_out (a := a) (fun t m i e => by rw [h] at e; cases e)
  refine ⟨fun _ => ho, fun _ => ho, fun h1 h2 => ?_⟩
  exfalso
  unfold od Ieee.Format.order at h1 h2
  rw [h, rd63.2] at h1
  rw [h, rd63.1] at h2
  cases s with
  | true => cases h2
  | false => cases h1
theorem whole_law (u v : Int) (h1 : -2147483648 ≤ v) (h2 : v ≤ 2147483647) (w : World) : Calls Try.prog 5 #[.int .u64 u, .int .i32 v] w fun e w' => e = .returned (.bool true) ∧ Below w.heap.size w w' := by
  refine law_scal (args := [.int .u64 u, .int .i32 v]) (fuel := 100) (n := 20) (un := fun _ => 0) (lvs := lvW) (ex := fun _ _ => False) follows toldF_ok rfl w fun β hβ => ?_
  rw [vc_rw]
  have tl := tail_ok h1 h2
  have hd : FloatKind.format .f64 = Ieee.double := rfl
  simp only [hd]
  refine br_of (fun hn => ?_) (fun hn => ?_)
  · have ho := nan_out (a := u.toNat) (fun s m i e => by
      rw [order_self] at hn
      obtain ⟨t, p, e2⟩ := nan_is hn
      rw [e] at e2; cases e2)
    rw [ho.1, ho.2]
    exact br_of (fun h => by cases h) (fun _ => br_of (fun h => by cases h) (fun _ => tl))
  · have ht : Told1 u.toNat := by
      cases hr : Ieee.double.read u.toNat with
      | number s m i => exact told_num hr
      | infinity s => exact told_inf hr
      | nan s p =>
        have := nan_of_read (k := .f64) hr
        rw [order_self, this] at hn; cases hn
    refine br_of (fun hh => ?_) (fun hh => br_of (fun hl => ?_) (fun hl => ?_))
    · have ho := ht.hi hh
      rw [ho.1, ho.2]
      exact br_of (fun h => by cases h) (fun _ => br_of (fun h => by cases h) (fun _ => tl))
    · have ho := ht.lo hl
      rw [ho.1, ho.2]
      exact br_of (fun h => by cases h) (fun _ => br_of (fun h => by cases h) (fun _ => tl))
    · obtain ⟨m1, m2, m3, m4, m5⟩ := ht.mid hh hl
      unfold od at m2 m3 m4 m5
      rw [m1, m4, m5]
      have tl2 : ∀ X : Prop, br (some Ordering.lt == some Ordering.gt || some Ordering.lt == some Ordering.eq) False (br (some Ordering.lt == some Ordering.gt || some Ordering.lt == some Ordering.eq) False X) = X := fun X => rfl
      refine br_of (fun h => by cases h) (fun _ => br_of (fun hg => ?_) (fun hg => br_of (fun hs => ?_) (fun hs => ?_)))
      · rw [m2 hg]
        refine br_of (fun h => by cases h) (fun _ => br_of (fun hs => ?_) (fun hs => ?_))
        · rw [m3 hs]
          refine br_of (fun h => by cases h) (fun _ => ?_)
          rw [tl2]; exact tl
        · rw [tl2]; exact tl
      · rw [m3 hs]
        refine br_of (fun h => by cases h) (fun _ => ?_)
        rw [tl2]; exact tl
      · rw [tl2]; exact tl
end Go.Proofs.Ytokpobfimphhgaa.Ev
