/-
  Floats: what is representable is written as it is.
-/
import Ieee.Arith
set_option linter.unusedVariables false
set_option linter.unusedSimpArgs false
namespace Go.Proofs.Ytokpobfimphhgaa.Flx

theorem cut_exact (neg : Bool) (q d : Nat) : Ieee.Toward.even.cut neg (q * 2 ^ d) d = q := by
  have hp := Nat.two_pow_pos d
  unfold Ieee.Toward.cut
  have hg : (1 <<< min d ((q * 2 ^ d).log2 + 2) = 2 ^ d) ∨ q = 0 := by
    rcases Nat.eq_zero_or_pos q with h | h
    · exact .inr h
    · left
      have hn : q * 2 ^ d ≠ 0 := by have := Nat.mul_pos h hp; omega
      have hle : 2 ^ d ≤ q * 2 ^ d := Nat.le_mul_of_pos_left _ h
      have hlog : d ≤ (q * 2 ^ d).log2 := (Nat.le_log2 hn).2 hle
      rw [Nat.min_eq_left (by omega), Nat.shiftLeft_eq, Nat.one_mul]
  rcases hg with hg | rfl
  · simp only [hg, Nat.mul_div_cancel _ hp, Nat.mul_mod_left]
    have h1 : decide (2 ^ d < 2 * 0) = false := decide_eq_false (by omega)
    have h2 : (2 ^ d == 2 * 0) = false := by simp
    rw [h1, h2]; simp
  · have hpos : 0 < 1 <<< min d ((0 * 2 ^ d).log2 + 2) := by rw [Nat.shiftLeft_eq, Nat.one_mul]; exact Nat.two_pow_pos _
    generalize 1 <<< min d ((0 * 2 ^ d).log2 + 2) = g at *
    have h1 : decide (g < 2 * 0) = false := decide_eq_false (by omega)
    have h2 : (g == 2 * 0) = false := by simp; omega
    simp only [Nat.zero_mul, Nat.zero_div, Nat.zero_mod, h1, h2]
    simp
/-- the place of the last digit that is kept -/
def lastP (mag : Nat) (place : Int) : Int := max (place + mag.log2 - 52) (-1074)
/-- what fits is kept whole: either it has to be shifted up, or what is dropped is noughts -/
theorem nearest_exact (neg : Bool) (mag kept : Nat) (place : Int) (h0 : mag ≠ 0)
    (hk : mag * 2 ^ (place - lastP mag place).toNat = kept * 2 ^ (lastP mag place - place).toNat) :
    Ieee.double.nearest neg mag place = Ieee.double.word neg (min ((lastP mag place + 1074).toNat * 2 ^ 52 + kept) Ieee.double.infRung) := by
  unfold Ieee.Format.nearest
  rw [if_neg h0]
  have e1 : Ieee.double.leastPlace = -1074 := by decide
  have e2 : (Ieee.double.fractionBits : Int) = 52 := rfl
  have e3 : Ieee.double.binade = 2 ^ 52 := rfl
  simp only [e1, e2, e3]
  have e4 : max (place + (mag.log2 : Int) - 52) (-1074) = lastP mag place := rfl
  simp only [e4, Nat.shiftLeft_eq, hk, cut_exact]
  have e5 : lastP mag place - -1074 = lastP mag place + 1074 := by omega
  rw [e5]
theorem read_word (neg : Bool) (kept e : Nat) (h1 : kept < 2 ^ 53) (h2 : 2 ^ 52 ≤ kept ∨ e = 0) (h3 : e * 2 ^ 52 + kept < Ieee.double.infRung) :
    Ieee.double.read (Ieee.double.word neg (e * 2 ^ 52 + kept)) = .number neg kept ((e : Int) - 1074) := by
  have i1 : Ieee.double.infRung = 2047 * 2 ^ 52 := by decide
  have i2 : Ieee.double.signWeight = 2 ^ 63 := by decide
  have i3 : Ieee.double.binade = 2 ^ 52 := rfl
  have i4 : Ieee.double.leastPlace = -1074 := by decide
  rw [i1] at h3
  generalize hr : e * 2 ^ 52 + kept = r at *
  have hr63 : r < 2 ^ 63 := by omega
  have hw : Ieee.double.word neg r = (if neg then 2 ^ 63 + r else r) := by unfold Ieee.Format.word; rw [i2]
  have hneg : (Ieee.double.word neg r / 2 ^ 63 % 2 == 1) = neg := by
    rw [hw]
    cases neg with
    | true =>
      have : (2 ^ 63 + r) / 2 ^ 63 = 1 := by omega
      simp only [if_true, this]; rfl
    | false =>
      have : r / 2 ^ 63 = 0 := by omega
      simp only [Bool.false_eq_true, if_false, this]; rfl
  have hrem : Ieee.double.word neg r % 2 ^ 63 = r := by
    rw [hw]; cases neg with
    | true => simp only [if_true]; omega
    | false => simp only [Bool.false_eq_true, if_false]; omega
  unfold Ieee.Format.read
  simp only [i1, i2, i3, i4, hneg, hrem]
  by_cases hs : r < 2 ^ 52
  · rw [if_pos hs]
    have he : e = 0 := by omega
    subst he
    have : kept = r := by omega
    rw [this]; rfl
  · rw [if_neg hs, if_pos h3]
    rcases Nat.lt_or_ge kept (2 ^ 52) with hk | hk
    · omega
    · have d1 : r / 2 ^ 52 = e + 1 := by omega
      have d2 : r % 2 ^ 52 = kept - 2 ^ 52 := by omega
      rw [d1, d2]
      have d3 : 2 ^ 52 + (kept - 2 ^ 52) = kept := by omega
      have d4 : (-1074 : Int) + ((e + 1 - 1 : Nat) : Int) = (e : Int) - 1074 := by omega
      rw [d3, d4]
/-- a whole number of 53 digits and noughts is written as it is -/
theorem nearest_int (neg : Bool) (q p : Nat) (hq0 : 0 < q) (hq : q < 2 ^ 53) (hp : p ≤ 971) :
    ∃ (kept : Nat) (i : Int), Ieee.double.read (Ieee.double.nearest neg (q * 2 ^ p) 0) = .number neg kept i ∧ kept * 2 ^ i.toNat = q * 2 ^ p * 2 ^ (-i).toNat := by
  have hpp := Nat.two_pow_pos p
  have hn : q * 2 ^ p ≠ 0 := by have := Nat.mul_pos hq0 hpp; omega
  have hL1 : 2 ^ (q * 2 ^ p).log2 ≤ q * 2 ^ p := (Nat.le_log2 hn).1 (Nat.le_refl _)
  have hL2 : q * 2 ^ p < 2 ^ ((q * 2 ^ p).log2 + 1) := (Nat.log2_lt hn).1 (Nat.lt_succ_self _)
  have hL3 : (q * 2 ^ p).log2 < 53 + p := (Nat.log2_lt hn).2 (by rw [Nat.pow_add]; exact Nat.mul_lt_mul_of_pos_right hq hpp)
  have hlast : lastP (q * 2 ^ p) 0 = ((q * 2 ^ p).log2 : Int) - 52 := by unfold lastP; omega
  generalize hLL : (q * 2 ^ p).log2 = L at *
  have fin : ∀ kept : Nat, (q * 2 ^ p) * 2 ^ (-((L : Int) - 52)).toNat = kept * 2 ^ ((L : Int) - 52).toNat → 2 ^ 52 ≤ kept → kept < 2 ^ 53 → ∃ (kept : Nat) (i : Int), Ieee.double.read (Ieee.double.nearest neg (q * 2 ^ p) 0) = .number neg kept i ∧ kept * 2 ^ i.toNat = q * 2 ^ p * 2 ^ (-i).toNat := fun kept hk k1 k2 => by
    have e := nearest_exact neg (q * 2 ^ p) kept 0 hn (by rw [hlast, Int.zero_sub, Int.sub_zero]; exact hk)
    have i1 : Ieee.double.infRung = 2047 * 2 ^ 52 := by decide
    have he : (lastP (q * 2 ^ p) 0 + 1074).toNat = L + 1022 := by rw [hlast]; omega
    rw [he, Nat.min_eq_left (by rw [i1]; omega)] at e
    refine ⟨kept, (L : Int) - 52, ?_, hk.symm⟩
    rw [e, read_word neg kept (L + 1022) k2 (.inl k1) (by rw [i1]; omega)]
    have : ((L + 1022 : Nat) : Int) - 1074 = (L : Int) - 52 := by omega
    rw [this]
  rcases Nat.lt_or_ge L 53 with h | h
  · have t1 : (-((L : Int) - 52)).toNat = 52 - L := by omega
    have t2 : ((L : Int) - 52).toNat = 0 := by omega
    refine fin (q * 2 ^ p * 2 ^ (52 - L)) (by rw [t1, t2, Nat.pow_zero, Nat.mul_one]) ?_ ?_
    · have : 2 ^ L * 2 ^ (52 - L) = 2 ^ 52 := by rw [← Nat.pow_add]; congr 1; omega
      rw [← this]; exact Nat.mul_le_mul_right _ hL1
    · have : 2 ^ (L + 1) * 2 ^ (52 - L) = 2 ^ 53 := by rw [← Nat.pow_add]; congr 1; omega
      rw [← this]; exact Nat.mul_lt_mul_of_pos_right hL2 (Nat.two_pow_pos _)
  · have t1 : (-((L : Int) - 52)).toNat = 0 := by omega
    have t2 : ((L : Int) - 52).toNat = L - 52 := by omega
    have hs : q * 2 ^ p = q * 2 ^ (p - (L - 52)) * 2 ^ (L - 52) := by
      rw [Nat.mul_assoc, ← Nat.pow_add]; congr 2; omega
    have h52 := Nat.two_pow_pos (L - 52)
    refine fin (q * 2 ^ (p - (L - 52))) (by rw [t1, t2, Nat.pow_zero, Nat.mul_one]; exact hs) ?_ ?_
    · have : 2 ^ 52 * 2 ^ (L - 52) = 2 ^ L := by rw [← Nat.pow_add]; congr 1; omega
      refine Nat.le_of_mul_le_mul_right (c := 2 ^ (L - 52)) ?_ h52
      rw [this, ← hs]; exact hL1
    · have : 2 ^ 53 * 2 ^ (L - 52) = 2 ^ (L + 1) := by rw [← Nat.pow_add]; congr 1; omega
      refine Nat.lt_of_mul_lt_mul_right (a := 2 ^ (L - 52)) ?_
      rw [this, ← hs]; exact hL2
/-- any number of at most 53 digits in its own place is written as it is: mag * 2 ^ place with place between the least place and 900 -/
theorem nearest_own (neg : Bool) (mag : Nat) (place : Int) (h0 : 0 < mag) (h1 : mag < 2 ^ 53) (hp : -1074 ≤ place) (hp2 : place ≤ 900) :
    ∃ (kept : Nat) (i : Int), Ieee.double.read (Ieee.double.nearest neg mag place) = .number neg kept i ∧ i ≤ place ∧ -1074 ≤ i ∧ kept = mag * 2 ^ (place - i).toNat := by
  have hn : mag ≠ 0 := by omega
  have hL1 : 2 ^ mag.log2 ≤ mag := (Nat.le_log2 hn).1 (Nat.le_refl _)
  have hL2 : mag < 2 ^ (mag.log2 + 1) := (Nat.log2_lt hn).1 (Nat.lt_succ_self _)
  have hL3 : mag.log2 < 53 := (Nat.log2_lt hn).2 h1
  have hle : lastP mag place ≤ place := by unfold lastP; omega
  have hge : -1074 ≤ lastP mag place := by unfold lastP; omega
  have hcase : lastP mag place = -1074 ∨ lastP mag place = place + mag.log2 - 52 := by unfold lastP; omega
  have hge2 : place + mag.log2 - 52 ≤ lastP mag place := by unfold lastP; omega
  generalize hLL : mag.log2 = L at *
  have t1 : (lastP mag place - place).toNat = 0 := by omega
  have e := nearest_exact neg mag (mag * 2 ^ (place - lastP mag place).toNat) place hn (by rw [t1, Nat.pow_zero, Nat.mul_one])
  have i1 : Ieee.double.infRung = 2047 * 2 ^ 52 := by decide
  generalize hl : lastP mag place = last at *
  obtain ⟨d, hd⟩ : ∃ d : Nat, (place - last).toNat = d := ⟨_, rfl⟩
  have hdL : d + L ≤ 52 := by omega
  rw [hd] at e
  have hpow : 2 ^ (L + 1) * 2 ^ d ≤ 2 ^ 53 := by rw [← Nat.pow_add]; exact Nat.pow_le_pow_right (by omega) (by omega)
  have k2 : mag * 2 ^ d < 2 ^ 53 := Nat.lt_of_lt_of_le (Nat.mul_lt_mul_of_pos_right hL2 (Nat.two_pow_pos _)) hpow
  obtain ⟨ee, hee⟩ : ∃ ee : Nat, (last + 1074).toNat = ee := ⟨_, rfl⟩
  rw [hee] at e
  have k1 : 2 ^ 52 ≤ mag * 2 ^ d ∨ ee = 0 := by
    rcases hcase with h | h
    · right; omega
    · left
      have : 2 ^ L * 2 ^ d = 2 ^ 52 := by rw [← Nat.pow_add]; congr 1; omega
      rw [← this]; exact Nat.mul_le_mul_right _ hL1
  have hb : ee * 2 ^ 52 + mag * 2 ^ d < Ieee.double.infRung := by rw [i1]; omega
  rw [Nat.min_eq_left (by omega)] at e
  refine ⟨mag * 2 ^ d, last, ?_, hle, hge, by rw [hd]⟩
  rw [e, read_word neg _ ee k2 k1 hb]
  have : (ee : Int) - 1074 = last := by omega
  rw [this]
theorem log2_shift {q : Nat} (d : Nat) (h : 0 < q) : (q * 2 ^ d).log2 = q.log2 + d := by
  have hp := Nat.two_pow_pos d
  have hn : q ≠ 0 := by omega
  have hn2 : q * 2 ^ d ≠ 0 := by have := Nat.mul_pos h hp; omega
  have h1 : 2 ^ q.log2 ≤ q := (Nat.le_log2 hn).1 (Nat.le_refl _)
  have h2 : q < 2 ^ (q.log2 + 1) := (Nat.log2_lt hn).1 (Nat.lt_succ_self _)
  have l1 : q.log2 + d ≤ (q * 2 ^ d).log2 := (Nat.le_log2 hn2).2 (by rw [Nat.pow_add]; exact Nat.mul_le_mul_right _ h1)
  have l2 : (q * 2 ^ d).log2 < q.log2 + d + 1 := (Nat.log2_lt hn2).2 (by
    have : 2 ^ (q.log2 + d + 1) = 2 ^ (q.log2 + 1) * 2 ^ d := by rw [← Nat.pow_add]; congr 1; omega
    rw [this]; exact Nat.mul_lt_mul_of_pos_right h2 hp)
  omega
/-- noughts behind a number of at most 53 digits may stand in its place as well -/
theorem nearest_shift (neg : Bool) (q d : Nat) (place : Int) (h0 : 0 < q) (h1 : q < 2 ^ 53) (hp : -1074 ≤ place + d) :
    Ieee.double.nearest neg (q * 2 ^ d) place = Ieee.double.nearest neg q (place + d) := by
  have hn : q ≠ 0 := by omega
  have hn2 : q * 2 ^ d ≠ 0 := by have := Nat.mul_pos h0 (Nat.two_pow_pos d); omega
  have hL3 : q.log2 < 53 := (Nat.log2_lt hn).2 h1
  have hl : lastP (q * 2 ^ d) place = lastP q (place + d) := by
    unfold lastP; rw [log2_shift d h0]; congr 1; omega
  have hle : lastP q (place + d) ≤ place + d := by unfold lastP; omega
  generalize hla : lastP q (place + d) = last at *
  have t1 : (last - (place + d)).toNat = 0 := by omega
  have e1 := nearest_exact neg q (q * 2 ^ (place + d - last).toNat) (place + d) hn (by rw [hla, t1, Nat.pow_zero, Nat.mul_one])
  have e2 := nearest_exact neg (q * 2 ^ d) (q * 2 ^ (place + d - last).toNat) place hn2 (by
    rw [hl, Nat.mul_assoc, Nat.mul_assoc, ← Nat.pow_add, ← Nat.pow_add]; congr 2; omega)
  rw [e1, e2, hl, hla]
theorem cmp_int {x y : Int} (h : x < y) : compare x y = .lt := by
  simp [compare, compareOfLessAndEq, h]
/-- what is less than one is so in order, of either sign -/
theorem lt_one (g : Bool) (q : Nat) (P i : Int) (hi : i ≤ P) (hP : P ≤ 0) (hq : q < 2 ^ (-P).toNat) : (Ieee.Datum.number g (q * 2 ^ (P - i).toNat) i).order (.number false (2 ^ 52) (-52)) = some .lt := by
  have hlt : q * 2 ^ (P - i).toNat * 2 ^ (i - min i (-52)).toNat < 2 ^ 52 * 2 ^ (-52 - min i (-52)).toNat := by
    generalize hb : min i (-52) = b at *
    have b1 : b ≤ i := by omega
    have b2 : b ≤ -52 := by omega
    have e1 : q * 2 ^ (P - i).toNat * 2 ^ (i - b).toNat = q * 2 ^ (P - b).toNat := by
      rw [Nat.mul_assoc, ← Nat.pow_add]; congr 2; omega
    have e2 : 2 ^ 52 * 2 ^ (-52 - b).toNat = 2 ^ (-P).toNat * 2 ^ (P - b).toNat := by
      rw [← Nat.pow_add, ← Nat.pow_add]; congr 1; omega
    rw [e1, e2]
    exact Nat.mul_lt_mul_of_pos_right hq (Nat.two_pow_pos _)
  show some (compare (Ieee.signed g (q * 2 ^ (P - i).toNat) (i - min i (-52)).toNat) (Ieee.signed false (2 ^ 52) (-52 - min i (-52)).toNat)) = some .lt
  rw [cmp_int]
  unfold Ieee.signed
  simp only [Nat.shiftLeft_eq]
  cases g with
  | true =>
    simp only [if_true, Bool.false_eq_true, if_false]
    have : 0 < 2 ^ 52 * 2 ^ (-52 - min i (-52)).toNat := Nat.mul_pos (Nat.two_pow_pos _) (Nat.two_pow_pos _)
    generalize 2 ^ 52 * 2 ^ (-52 - min i (-52)).toNat = R at *
    generalize q * 2 ^ (P - i).toNat * 2 ^ (i - min i (-52)).toNat = Lh at *
    omega
  | false =>
    simp only [Bool.false_eq_true, if_false]
    exact Int.ofNat_lt.2 hlt
/-- a difference below one, of at most 53 digits and noughts, is below one when it is written -/
theorem small_lt (g : Bool) (q d : Nat) (base : Int) (h0 : 0 < q) (h1 : q < 2 ^ 53) (hp : -1074 ≤ base + d) (hP : base + d ≤ 0) (hq : q < 2 ^ (-(base + d)).toNat) :
    (Ieee.double.read (Ieee.double.write (.number g (q * 2 ^ d) base))).order (.number false (2 ^ 52) (-52)) = some .lt := by
  show (Ieee.double.read (Ieee.double.nearest g (q * 2 ^ d) base)).order _ = _
  rw [nearest_shift g q d base h0 h1 hp]
  obtain ⟨kept, i, e, hi, _, hk⟩ := nearest_own g q (base + d) h0 h1 hp (by omega)
  rw [e, hk]
  exact lt_one g q (base + d) i hi hP hq
theorem zero_lt (g : Bool) (base : Int) : (Ieee.double.read (Ieee.double.write (.number g 0 base))).order (.number false (2 ^ 52) (-52)) = some .lt := by
  have : Ieee.double.read (Ieee.double.write (.number g 0 base)) = .number g 0 (-1074) := by
    have h := read_word g 0 0 (by omega) (.inr rfl) (by decide)
    show Ieee.double.read (Ieee.double.nearest g 0 base) = _
    unfold Ieee.Format.nearest
    rw [if_pos rfl]
    exact h
  rw [this]; cases g <;> rfl
theorem frac_nat {m k : Nat} {i j b : Int} (hi : i < 0) (hb : b ≤ i) (hbj : b ≤ j) (hv : k * 2 ^ j.toNat = (m / 2 ^ (-i).toNat) * 2 ^ (-j).toNat) :
    m * 2 ^ (i - b).toNat = k * 2 ^ (j - b).toNat + (m % 2 ^ (-i).toNat) * 2 ^ (i - b).toNat := by
  have hB : k * 2 ^ (j - b).toNat = (m / 2 ^ (-i).toNat) * 2 ^ (-b).toNat := by
    rcases (by omega : j < 0 ∨ 0 ≤ j) with h | h
    · have t1 : j.toNat = 0 := by omega
      rw [t1, Nat.pow_zero, Nat.mul_one] at hv
      rw [hv, Nat.mul_assoc, ← Nat.pow_add]; congr 2; omega
    · have t1 : (-j).toNat = 0 := by omega
      rw [t1, Nat.pow_zero, Nat.mul_one] at hv
      rw [← hv, Nat.mul_assoc, ← Nat.pow_add]; congr 2; omega
  have hm := Nat.div_add_mod m (2 ^ (-i).toNat)
  have e : (m / 2 ^ (-i).toNat) * 2 ^ (-b).toNat = 2 ^ (-i).toNat * (m / 2 ^ (-i).toNat) * 2 ^ (i - b).toNat := by
    rw [Nat.mul_comm (2 ^ (-i).toNat), Nat.mul_assoc, ← Nat.pow_add]; congr 2; omega
  rw [hB, e, ← Nat.add_mul, hm]
/-- what stands behind the point: a number less its whole part -/
theorem frac_sum (s s' : Bool) {m k : Nat} {i j : Int} (hi : i < 0) (hs : s' = s ∨ k = 0) (hv : k * 2 ^ j.toNat = (m / 2 ^ (-i).toNat) * 2 ^ (-j).toNat) :
    ∃ g, (Ieee.Datum.number s m i).sum (.number (!s') k j) = some (.number g ((m % 2 ^ (-i).toNat) * 2 ^ (i - min i j).toNat) (min i j)) := by
  have h := frac_nat (b := min i j) hi (by omega) (by omega) hv
  have e : (Ieee.signed s m (i - min i j).toNat + Ieee.signed (!s') k (j - min i j).toNat).natAbs = (m % 2 ^ (-i).toNat) * 2 ^ (i - min i j).toNat := by
    unfold Ieee.signed
    simp only [Nat.shiftLeft_eq]
    have hk0 : k = 0 → k * 2 ^ (j - min i j).toNat = 0 := fun q => by rw [q, Nat.zero_mul]
    generalize m * 2 ^ (i - min i j).toNat = A at *
    generalize k * 2 ^ (j - min i j).toNat = B at *
    generalize (m % 2 ^ (-i).toNat) * 2 ^ (i - min i j).toNat = R at *
    rcases hs with rfl | q
    · cases s' <;> simp <;> omega
    · have hB := hk0 q
      subst hB
      cases s <;> cases s' <;> simp <;> omega
  exact ⟨if (Ieee.signed s m (i - min i j).toNat + Ieee.signed (!s') k (j - min i j).toNat) = 0 then s && !s' else decide ((Ieee.signed s m (i - min i j).toNat + Ieee.signed (!s') k (j - min i j).toNat) < 0), congrArg (fun r => some (Ieee.Datum.number (if (Ieee.signed s m (i - min i j).toNat + Ieee.signed (!s') k (j - min i j).toNat) = 0 then s && !s' else decide ((Ieee.signed s m (i - min i j).toNat + Ieee.signed (!s') k (j - min i j).toNat) < 0)) r (min i j))) e⟩
/-- and the other way about -/
theorem frac_sum2 (s s' : Bool) {m k : Nat} {i j : Int} (hi : i < 0) (hs : s' = s ∨ k = 0) (hv : k * 2 ^ j.toNat = (m / 2 ^ (-i).toNat) * 2 ^ (-j).toNat) :
    ∃ g, (Ieee.Datum.number s' k j).sum (.number (!s) m i) = some (.number g ((m % 2 ^ (-i).toNat) * 2 ^ (i - min j i).toNat) (min j i)) := by
  have h := frac_nat (b := min j i) hi (by omega) (by omega) hv
  have e : (Ieee.signed s' k (j - min j i).toNat + Ieee.signed (!s) m (i - min j i).toNat).natAbs = (m % 2 ^ (-i).toNat) * 2 ^ (i - min j i).toNat := by
    unfold Ieee.signed
    simp only [Nat.shiftLeft_eq]
    have hk0 : k = 0 → k * 2 ^ (j - min j i).toNat = 0 := fun q => by rw [q, Nat.zero_mul]
    generalize m * 2 ^ (i - min j i).toNat = A at *
    generalize k * 2 ^ (j - min j i).toNat = B at *
    generalize (m % 2 ^ (-i).toNat) * 2 ^ (i - min j i).toNat = R at *
    rcases hs with rfl | q
    · cases s' <;> simp <;> omega
    · have hB := hk0 q
      subst hB
      cases s <;> cases s' <;> simp <;> omega
  exact ⟨if (Ieee.signed s' k (j - min j i).toNat + Ieee.signed (!s) m (i - min j i).toNat) = 0 then s' && !s else decide ((Ieee.signed s' k (j - min j i).toNat + Ieee.signed (!s) m (i - min j i).toNat) < 0), congrArg (fun r => some (Ieee.Datum.number (if (Ieee.signed s' k (j - min j i).toNat + Ieee.signed (!s) m (i - min j i).toNat) = 0 then s' && !s else decide ((Ieee.signed s' k (j - min j i).toNat + Ieee.signed (!s) m (i - min j i).toNat) < 0)) r (min j i))) e⟩
/-- a whole number of 53 digits and noughts, made a float, reads as its value -/
theorem conv_read {n : Int} {q p : Nat} (hn : n.natAbs = q * 2 ^ p) (hq : q < 2 ^ 53) (hp : p ≤ 971) :
    ∃ (k : Nat) (j : Int), Ieee.double.read (Ieee.double.nearest (decide (n < 0)) n.natAbs 0) = .number (decide (n < 0)) k j ∧ k * 2 ^ j.toNat = n.natAbs * 2 ^ (-j).toNat := by
  rcases Nat.eq_zero_or_pos q with h | h
  · have h0 : n.natAbs = 0 := by rw [hn, h, Nat.zero_mul]
    refine ⟨0, -1074, ?_, by rw [h0, Nat.zero_mul, Nat.zero_mul]⟩
    have e := read_word (decide (n < 0)) 0 0 (by omega) (.inr rfl) (by decide)
    unfold Ieee.Format.nearest
    rw [if_pos h0]
    exact e
  · rw [hn]
    exact nearest_int _ q p h hq hp
/-- the whole part of a number stands on the side of nought -/
theorem frac_order (s s' : Bool) {m k : Nat} {i j : Int} (hi : i < 0) (hs : s' = s ∨ k = 0) (hv : k * 2 ^ j.toNat = (m / 2 ^ (-i).toNat) * 2 ^ (-j).toNat) :
    ∃ c, (Ieee.Datum.number s' k j).order (.number s m i) = some c ∧ (s = false → c ≠ .gt) ∧ (s = true → c ≠ .lt) := by
  have h := frac_nat (b := min j i) hi (by omega) (by omega) hv
  refine ⟨compare (Ieee.signed s' k (j - min j i).toNat) (Ieee.signed s m (i - min j i).toNat), rfl, ?_⟩
  have hk0 : k = 0 → k * 2 ^ (j - min j i).toNat = 0 := fun q => by rw [q, Nat.zero_mul]
  unfold Ieee.signed
  simp only [Nat.shiftLeft_eq]
  generalize m * 2 ^ (i - min j i).toNat = A at *
  generalize k * 2 ^ (j - min j i).toNat = B at *
  generalize (m % 2 ^ (-i).toNat) * 2 ^ (i - min j i).toNat = R at *
  have gt_ne : ∀ x y : Int, x ≤ y → compare x y ≠ .gt := fun x y hxy q => by
    have : compare x y = if x < y then .lt else if x = y then .eq else .gt := rfl
    rw [this] at q
    split at q
    · cases q
    · split at q
      · cases q
      · omega
  have lt_ne : ∀ x y : Int, y ≤ x → compare x y ≠ .lt := fun x y hxy q => by
    have : compare x y = if x < y then .lt else if x = y then .eq else .gt := rfl
    rw [this] at q
    split at q
    · omega
    · split at q <;> cases q
  refine ⟨fun e => gt_ne _ _ ?_, fun e => lt_ne _ _ ?_⟩
  · subst e
    rcases hs with rfl | q
    · simp; omega
    · have hB := hk0 q
      subst hB
      cases s' <;> simp
  · subst e
    rcases hs with rfl | q
    · simp; omega
    · have hB := hk0 q
      subst hB
      cases s' <;> simp
/-- what a double reads as -/
theorem read_num {a m : Nat} {s : Bool} {i : Int} (h : Ieee.double.read a = .number s m i) : m < 2 ^ 53 ∧ -1074 ≤ i ∧ i ≤ 971 := by
  have i1 : Ieee.double.infRung = 2047 * 2 ^ 52 := by decide
  have i3 : Ieee.double.binade = 2 ^ 52 := rfl
  have i4 : Ieee.double.leastPlace = -1074 := by decide
  unfold Ieee.Format.read at h
  simp only [i1, i3, i4] at h
  generalize a % Ieee.double.signWeight = r at *
  split at h
  · cases h; omega
  · split at h
    · cases h; omega
    · split at h <;> cases h
/-- the integer part of a read number -/
theorem toInt_val {s : Bool} {m : Nat} {i : Int} : (Ieee.Datum.number s m i).toInt .zero = some (Ieee.signed s (Ieee.Toward.zero.cut s (m <<< i.toNat) (-i).toNat) 0) := rfl
end Go.Proofs.Ytokpobfimphhgaa.Flx
