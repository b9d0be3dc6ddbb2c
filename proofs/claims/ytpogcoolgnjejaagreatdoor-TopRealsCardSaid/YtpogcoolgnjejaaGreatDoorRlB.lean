/-
  Reals' bits as the programs have them, told; bits as bytes, bytes as bits.
-/
import Derived.Test.YtpogcoolgnjejaaGreatDoorGh
import Derived.Test.YtpogcoolgnjejaaGreatDoorStC
import Derived.Test.YtpogcoolgnjejaaGreatDoorGm
import Derived.Test.YtpogcoolgnjejaaGreatDoorGi
set_option linter.unusedVariables false
set_option linter.unusedSimpArgs false
set_option maxRecDepth 1000000
namespace Go.Proofs.YtpogcoolgnjejaaGreatDoor.Ev
open Go Go.RowKit

def bitsN (a : Nat) : Nat := cond (nanB .f64 a) 9221120237041090561 a
def bitsSpec : List Value → Option Value
  | [.float .f64 a] => some (.int .u64 (Int.ofNat (bitsN a)))
  | _ => none
theorem vc_bits1 (a : Nat) (K : AE → ASt → Prop) : funK Tryz.prog noTold 100 20 26 [.float .f64 a] st0 K =
    br (Ieee.double.order a a != some .eq) (K (.returned (.int .u64 (Int.ofNat 9221120237041090561))) st0) (need (!nanB .f64 a) (K (.returned (.int .u64 (Int.ofNat a))) st0)) := by kernel_rfl
theorem vc_rbits1 (a : Nat) (K : AE → ASt → Prop) : funK Tryz.prog noTold 100 20 185 [.float .f64 a] st0 K =
    br (Ieee.double.order a a != some .eq) (K (.returned (.int .u64 (Int.ofNat 9221120237041090561))) st0) (need (!nanB .f64 a) (K (.returned (.int .u64 (Int.ofNat a))) st0)) := by kernel_rfl
theorem order_self (a : Nat) : (Ieee.double.order a a != some .eq) = nanB .f64 a := by
  show (Ieee.double.order a a != some .eq) = (Ieee.double.order a a).isNone
  unfold Ieee.Format.order
  cases h : Ieee.double.read a with
  | nan s p => rfl
  | infinity s => simp [Ieee.Datum.order]
  | number s m i => simp [Ieee.Datum.order]
theorem bits_main (a : Nat) : br (Ieee.double.order a a != some .eq) (isK (.int .u64 (Int.ofNat (bitsN a))) (.returned (.int .u64 (Int.ofNat 9221120237041090561))) st0) (need (!nanB .f64 a) (isK (.int .u64 (Int.ofNat (bitsN a))) (.returned (.int .u64 (Int.ofNat a))) st0)) := by
  rw [order_self]
  refine br_of (fun h => ?_) (fun h => need_of (by rw [h]; rfl) ?_)
  · simp only [isK, bitsN, h, cond_true]
  · simp only [isK, bitsN, h, cond_false]
theorem bits_okS {C : Told} (hC : ToldS Tryz.prog C) : ToldS Tryz.prog (C.also 26 bitsSpec) := by
  refine Told.also_ok hC ?_
  intro args v hv
  unfold bitsSpec at hv
  split at hv
  · rename_i a
    cases hv
    refine ⟨rfl, rfl, fun w args' ha => ?_⟩
    refine sym_is (fuel := 100) (n := 20) follows (noTold_ok _) ?_ w args' ha
    rw [vc_bits1]; exact bits_main a
  · cases hv
theorem rbits_okS {C : Told} (hC : ToldS Tryz.prog C) : ToldS Tryz.prog (C.also 185 bitsSpec) := by
  refine Told.also_ok hC ?_
  intro args v hv
  unfold bitsSpec at hv
  split at hv
  · rename_i a
    cases hv
    refine ⟨rfl, rfl, fun w args' ha => ?_⟩
    refine sym_is (fuel := 100) (n := 20) follows (noTold_ok _) ?_ w args' ha
    rw [vc_rbits1]; exact bits_main a
  · cases hv
theorem bitsN_lt {a : Nat} (h : a < 18446744073709551616) : bitsN a < 18446744073709551616 := by
  unfold bitsN
  cases nanB .f64 a
  · exact h
  · show 9221120237041090561 < 18446744073709551616; omega
theorem bitsN_idem (a : Nat) : bitsN (bitsN a) = bitsN a := by
  cases h : nanB .f64 a with
  | false =>
    have e : bitsN a = a := by unfold bitsN; rw [h]; rfl
    rw [e, e]
  | true =>
    have e : bitsN a = 9221120237041090561 := by unfold bitsN; rw [h]; rfl
    rw [e]
    unfold bitsN
    cases nanB .f64 9221120237041090561 <;> rfl
/-! ### bytes, the lowest at 0 -/
def hiV (v : Int) : Nat → Int
  | 0 => v
  | k + 1 => IntKind.wrap .u64 ((hiV v k).tdiv 256)
/-- by division -/
def hiB (v : Int) (k : Nat) : Int := IntKind.wrap .u8 ((hiV v k).tmod 256)
/-- by a shift -/
def fdB (v : Int) (k : Nat) : Int := IntKind.wrap .u8 (Int.fdiv v (Int.ofNat (256 ^ k)))
theorem wu8 {x : Int} (h1 : 0 ≤ x) (h2 : x < 256) : IntKind.wrap .u8 x = x := by
  unfold IntKind.wrap
  simp [IntKind.signed, IntKind.bits]
  omega
theorem hiV_eq {n : Nat} (h : n < 18446744073709551616) : ∀ k, hiV (.ofNat n) k = .ofNat (n / 256 ^ k) := by
  intro k
  induction k with
  | zero => show Int.ofNat n = _; rw [Nat.pow_zero, Nat.div_one]
  | succ k ih =>
    show IntKind.wrap .u64 ((hiV (.ofNat n) k).tdiv 256) = _
    rw [ih]
    show IntKind.wrap .u64 (Int.ofNat (n / 256 ^ k / 256)) = _
    have e : n / 256 ^ k / 256 = n / 256 ^ (k + 1) := by rw [Nat.div_div_eq_div_mul, Nat.pow_succ]
    have l : n / 256 ^ (k + 1) ≤ n := Nat.div_le_self _ _
    rw [e]
    generalize n / 256 ^ (k + 1) = q at l ⊢
    rw [wu64 (by simp only [Int.ofNat_eq_natCast]; omega) (by simp only [Int.ofNat_eq_natCast]; omega)]
theorem hiB_eq {n : Nat} (h : n < 18446744073709551616) (k : Nat) : hiB (.ofNat n) k = .ofNat (n / 256 ^ k % 256) := by
  unfold hiB
  rw [hiV_eq h]
  show IntKind.wrap .u8 (Int.ofNat (n / 256 ^ k % 256)) = _
  rw [wu8 (by simp only [Int.ofNat_eq_natCast]; omega) (by simp only [Int.ofNat_eq_natCast]; omega)]
theorem fdB_eq (n k : Nat) : fdB (.ofNat n) k = .ofNat (n / 256 ^ k % 256) := by
  unfold fdB
  have e : Int.fdiv (Int.ofNat n) (Int.ofNat (256 ^ k)) = Int.ofNat (n / 256 ^ k) := by
    simp only [Int.ofNat_eq_natCast]
    rw [Int.fdiv_eq_ediv_of_nonneg _ (Int.natCast_nonneg _)]
    simp
  rw [e]
  unfold IntKind.wrap
  simp [IntKind.signed, IntKind.bits]
theorem bytR_of (n : Nat) : bytR (.ofNat (n % 256)) = true := by
  unfold bytR
  simp; omega
theorem bytR_hi {n : Nat} (h : n < 18446744073709551616) (k : Nat) : bytR (hiB (.ofNat n) k) = true := by
  rw [hiB_eq h]; exact bytR_of _
theorem bytR_fd (n k : Nat) : bytR (fdB (.ofNat n) k) = true := by
  rw [fdB_eq]; exact bytR_of _
/-! ### bytes put together -/
def orN (a b : Int) : Int := IntKind.wrap .i64 (Int.ofNat (BitVec.toNat (BitVec.ofInt 64 (IntKind.wrap .i64 (a * 256)) ||| BitVec.ofInt 64 (IntKind.wrap .i64 b))))
/-- k of eight bytes, by shifts -/
def orD (f : Nat → Int) : Nat → Int
  | 0 => 0
  | k + 1 => orN (orD f k) (f (7 - k))
/-- by sums -/
def adD (f : Nat → Int) : Nat → Int
  | 0 => 0
  | k + 1 => IntKind.wrap .u64 (IntKind.wrap .u64 (adD f k * 256) + IntKind.wrap .u64 (f (7 - k)))
theorem wr_ofInt (x : Int) : BitVec.ofInt 64 (IntKind.wrap .i64 x) = BitVec.ofInt 64 x := by
  apply BitVec.eq_of_toNat_eq
  simp only [BitVec.toNat_ofInt]
  unfold IntKind.wrap
  simp [IntKind.signed, IntKind.bits]
  omega
theorem wr_mod (x y : Int) (h : (x - y) % 18446744073709551616 = 0) : IntKind.wrap .i64 x = IntKind.wrap .i64 y := by
  unfold IntKind.wrap
  simp [IntKind.signed, IntKind.bits]
  omega
theorem or_low {a b : Nat} (hb : b < 256) : a * 256 ||| b = a * 256 + b := by
  have h := Nat.two_pow_add_eq_or_of_lt (i := 8) (b := b) (by omega) a
  rw [show 2 ^ 8 * a = a * 256 by omega] at h
  exact h.symm
theorem orN_eq {v b : Nat} (hb : b < 256) : orN (IntKind.wrap .i64 (v : Int)) (.ofNat b) = IntKind.wrap .i64 ((v * 256 + b : Nat) : Int) := by
  unfold orN
  have e0 : IntKind.wrap .i64 (Int.ofNat b) = (b : Int) := w64 (by simp only [Int.ofNat_eq_natCast]; omega) (by simp only [Int.ofNat_eq_natCast]; omega)
  have e1 : BitVec.ofInt 64 (IntKind.wrap .i64 (IntKind.wrap .i64 (v : Int) * 256)) = BitVec.ofInt 64 ((v * 256 : Nat) : Int) := by
    rw [wr_ofInt]
    apply BitVec.eq_of_toNat_eq
    simp only [BitVec.toNat_ofInt]
    unfold IntKind.wrap
    simp [IntKind.signed, IntKind.bits]
    omega
  rw [e0, e1]
  have e2 : (BitVec.ofInt 64 ((v * 256 : Nat) : Int)).toNat = (v % 72057594037927936) * 256 := by
    simp only [BitVec.toNat_ofInt]
    omega
  have e3 : (BitVec.ofInt 64 (b : Int)).toNat = b := by
    simp only [BitVec.toNat_ofInt]
    omega
  rw [BitVec.toNat_or, e2, e3, or_low hb]
  apply wr_mod
  simp only [Int.ofNat_eq_natCast]
  omega
theorem step_div (n k : Nat) (hk : k < 8) : n / 256 ^ (8 - k) * 256 + n / 256 ^ (7 - k) % 256 = n / 256 ^ (8 - (k + 1)) := by
  have e1 : 8 - k = (7 - k) + 1 := by omega
  have e2 : 8 - (k + 1) = 7 - k := by omega
  rw [e2, e1, Nat.pow_succ, ← Nat.div_div_eq_div_mul]
  omega
theorem orD_eq {n : Nat} (h : n < 18446744073709551616) {f : Nat → Int} (hf : ∀ k, f k = .ofNat (n / 256 ^ k % 256)) : ∀ k, k ≤ 8 → orD f k = IntKind.wrap .i64 ((n / 256 ^ (8 - k) : Nat) : Int) := by
  intro k
  induction k with
  | zero =>
    intro _
    have : n / 256 ^ (8 - 0) = 0 := Nat.div_eq_of_lt (by simpa using h)
    rw [this]; rfl
  | succ k ih =>
    intro hk
    show orN (orD f k) (f (7 - k)) = _
    rw [ih (by omega), hf, orN_eq (Nat.mod_lt _ (by omega)), step_div n k (by omega)]
theorem adD_eq {n : Nat} (h : n < 18446744073709551616) {f : Nat → Int} (hf : ∀ k, f k = .ofNat (n / 256 ^ k % 256)) : ∀ k, k ≤ 8 → adD f k = .ofNat (n / 256 ^ (8 - k)) := by
  intro k
  induction k with
  | zero =>
    intro _
    have : n / 256 ^ (8 - 0) = 0 := Nat.div_eq_of_lt (by simpa using h)
    rw [this]; rfl
  | succ k ih =>
    intro hk
    show IntKind.wrap .u64 (IntKind.wrap .u64 (adD f k * 256) + IntKind.wrap .u64 (f (7 - k))) = _
    have hs := step_div n k (by omega)
    have hl : n / 256 ^ (8 - (k + 1)) ≤ n := Nat.div_le_self _ _
    rw [ih (by omega), hf]
    generalize n / 256 ^ (8 - k) = A at hs ⊢
    generalize n / 256 ^ (7 - k) % 256 = B at hs ⊢
    rw [← hs] at hl ⊢
    have e1 : IntKind.wrap .u64 (Int.ofNat A * 256) = Int.ofNat A * 256 := wu64 (by simp only [Int.ofNat_eq_natCast]; omega) (by simp only [Int.ofNat_eq_natCast]; omega)
    have e2 : IntKind.wrap .u64 (Int.ofNat B) = Int.ofNat B := wu64 (by simp only [Int.ofNat_eq_natCast]; omega) (by simp only [Int.ofNat_eq_natCast]; omega)
    rw [e1, e2, wu64 (by simp only [Int.ofNat_eq_natCast]; omega) (by simp only [Int.ofNat_eq_natCast]; omega)]
    simp only [Int.ofNat_eq_natCast]; omega
theorem orD_all {n : Nat} (h : n < 18446744073709551616) {f : Nat → Int} (hf : ∀ k, f k = .ofNat (n / 256 ^ k % 256)) : (IntKind.wrap .u64 (orD f 8)).toNat = n := by
  rw [orD_eq h hf 8 (Nat.le_refl _)]
  have : n / 256 ^ (8 - 8) = n := by simp
  rw [this]
  unfold IntKind.wrap
  simp [IntKind.signed, IntKind.bits]
  split <;> omega
theorem adD_all {n : Nat} (h : n < 18446744073709551616) {f : Nat → Int} (hf : ∀ k, f k = .ofNat (n / 256 ^ k % 256)) : (adD f 8).toNat = n := by
  rw [adD_eq h hf 8 (Nat.le_refl _)]
  have : n / 256 ^ (8 - 8) = n := by simp
  rw [this]; rfl
/-- four bytes of a sum, by division and by a shift -/
theorem crc_by (S k : Nat) (hk : k < 4) : hiB (IntKind.wrap .u64 (.ofNat S)) k = fdB (.ofNat S) k := by
  have e : IntKind.wrap .u64 (Int.ofNat S) = Int.ofNat (S % 18446744073709551616) := by
    unfold IntKind.wrap
    simp [IntKind.signed, IntKind.bits]
  rw [e, hiB_eq (Nat.mod_lt _ (by omega)), fdB_eq]
  have : k = 0 ∨ k = 1 ∨ k = 2 ∨ k = 3 := by omega
  rcases this with rfl | rfl | rfl | rfl <;> simp <;> omega
end Go.Proofs.YtpogcoolgnjejaaGreatDoor.Ev
