/-
  The plain law of CRC-32: by nibbles is bit by bit; the sum is affine; a turn of at most 32 bits in a row is seen; bytes with their sum behind them have one sum. No program is spoken of.
-/
import Derived.Test.YtdmagcdkklacdaaRefSum
namespace Go.Proofs.Ytdmagcdkklacdaa

theorem xor_odd (a b : Nat) : (a ^^^ b) % 2 = 1 ↔ ¬ (a % 2 = 1 ↔ b % 2 = 1) := by
  have h := Nat.testBit_xor a b 0
  simp only [Nat.testBit_zero] at h
  by_cases ha : a % 2 = 1 <;> by_cases hb : b % 2 = 1 <;> simp [ha, hb] at h ⊢ <;> omega
theorem bitStep_xor (a b : Nat) : bitStep (a ^^^ b) = bitStep a ^^^ bitStep b := by
  have h1 := xor_odd a b
  have h2 : (a ^^^ b) / 2 = a / 2 ^^^ b / 2 := by
    apply Nat.eq_of_testBit_eq; intro i
    simp [← Nat.testBit_succ]
  unfold bitStep
  rw [h2]
  generalize a / 2 = x
  generalize b / 2 = y
  by_cases ha : a % 2 = 1 <;> by_cases hb : b % 2 = 1 <;> simp only [ha, hb, h1, iff_self, not_true_eq_false, if_true, if_false, iff_true, iff_false, not_false_eq_true] <;> (apply Nat.eq_of_testBit_eq; intro i; simp only [Nat.testBit_xor]; cases x.testBit i <;> cases y.testBit i <;> cases Nat.testBit 3988292384 i <;> rfl)
theorem bitN_xor (n a b : Nat) : bitN n (a ^^^ b) = bitN n a ^^^ bitN n b := by
  induction n with
  | zero => rfl
  | succ n ih => rw [bitN_succ, bitN_succ, bitN_succ, ih, bitStep_xor]
theorem bitN_add (m n c : Nat) : bitN (m + n) c = bitN m (bitN n c) := by
  induction m with
  | zero => simp [bitN]
  | succ m ih => rw [Nat.succ_add, bitN_succ, ih, bitN_succ]
theorem bitStep_two (h : Nat) : bitStep (2 * h) = h := by
  unfold bitStep
  rw [if_neg (by omega)]; omega
theorem bitN_pow (n h : Nat) : bitN n (2 ^ n * h) = h := by
  induction n generalizing h with
  | zero => simp [bitN]
  | succ n ih =>
    rw [bitN_succ, show 2 ^ (n + 1) * h = 2 ^ n * (2 * h) by rw [Nat.pow_succ, Nat.mul_assoc], ih, bitStep_two]
theorem split_xor (n a : Nat) : a = 2 ^ n * (a / 2 ^ n) ^^^ (a % 2 ^ n) := by
  apply Nat.eq_of_testBit_eq; intro i
  rw [Nat.testBit_xor, Nat.testBit_two_pow_mul, Nat.testBit_mod_two_pow, Nat.testBit_div_two_pow]
  by_cases h : n ≤ i
  · have h1 : ¬ i < n := by omega
    simp [h, h1, Nat.sub_add_cancel h]
  · have h1 : i < n := by omega
    simp [h, h1]
theorem nib_eq (c : Nat) : nib c = bitN 4 c := by
  have key : ∀ i : Fin 16, tab i.val = bitN 4 i.val := by decide
  have h := key ⟨c % 16, by omega⟩
  conv => rhs; rw [split_xor 4 c, bitN_xor, bitN_pow]
  unfold nib
  rw [h]
theorem byteStep_eq (c x : Nat) : byteStep c x = refByte c x := by
  unfold byteStep refByte
  rw [nib_eq, nib_eq, ← bitN_add]
theorem crcSum_eq (bs : List Nat) : crcSum bs = refSum bs := by
  unfold crcSum crcRaw refSum
  rw [show byteStep = refByte from funext fun c => funext fun x => byteStep_eq c x]

/-! the fold from a state -/
theorem fold_xor (l m : List Nat) (a b : Nat) (hl : l.length = m.length) : (List.zipWith (· ^^^ ·) l m).foldl refByte (a ^^^ b) = l.foldl refByte a ^^^ m.foldl refByte b := by
  induction l generalizing m a b with
  | nil => cases m with
    | nil => rfl
    | cons _ _ => simp at hl
  | cons x l ih => cases m with
    | nil => simp at hl
    | cons y m =>
      simp only [List.zipWith_cons_cons, List.foldl_cons]
      rw [show refByte (a ^^^ b) (x ^^^ y) = refByte a x ^^^ refByte b y by
        unfold refByte
        rw [← bitN_xor]
        congr 1
        rw [Nat.xor_assoc, ← Nat.xor_assoc b, Nat.xor_comm b x, Nat.xor_assoc x, Nat.xor_assoc]]
      exact ih m _ _ (by simpa using hl)

/-- a number as n bytes, the lowest first -/
def lows : Nat → Nat → List Nat
  | 0, _ => []
  | n + 1, v => (v % 256) :: lows n (v / 256)
theorem fold_lows (n c v : Nat) (hv : v < 256 ^ n) : (lows n v).foldl refByte c = bitN (8 * n) (c ^^^ v) := by
  induction n generalizing c v with
  | zero =>
    have : v = 0 := by simp at hv; omega
    subst this; simp [lows, bitN]
  | succ n ih =>
    simp only [lows, List.foldl_cons]
    rw [ih _ _ (by rw [Nat.pow_succ] at hv; omega)]
    rw [show 8 * (n + 1) = 8 * n + 8 by omega, bitN_add]
    congr 1
    unfold refByte
    conv => rhs; rw [split_xor 8 v]
    rw [Nat.xor_comm (2 ^ 8 * _), ← Nat.xor_assoc, bitN_xor (b := 2 ^ 8 * _), bitN_pow]
theorem bitStep_ne (c : Nat) (h : c < 4294967296) (h0 : c ≠ 0) : bitStep c ≠ 0 := by
  unfold bitStep
  split
  · intro e
    have : c / 2 = 3988292384 := by
      have h2 : c / 2 ^^^ 3988292384 ^^^ 3988292384 = 0 ^^^ 3988292384 := by rw [e]
      rw [Nat.xor_assoc] at h2; simpa using h2
    omega
  · omega
theorem bitN_ne (n c : Nat) (h : c < 4294967296) (h0 : c ≠ 0) : bitN n c ≠ 0 := by
  induction n with
  | zero => exact h0
  | succ n ih => exact bitStep_ne _ (bitN_lt n c h) ih
theorem refByte_zero (c : Nat) : refByte c 0 = bitN 8 c := by simp [refByte]
theorem fold_zeros (n c : Nat) : (List.replicate n 0).foldl refByte c = bitN (8 * n) c := by
  induction n generalizing c with
  | zero => rfl
  | succ n ih =>
    rw [List.replicate_succ, List.foldl_cons, ih, refByte_zero, ← bitN_add]; rfl
theorem bitN_zero (n : Nat) : bitN n 0 = 0 := by
  induction n with
  | zero => rfl
  | succ n ih => rw [bitN_succ, ih]; rfl

/-- a turn of at most 32 bits in a row, anywhere: the fold is another one -/
theorem turned (bs : List Nat) (k by_ sh : Nat) (hk : k + 5 ≤ bs.length) (hs : sh < 8) (hb : by_ < 4294967296) (h0 : by_ ≠ 0) (c : Nat) :
    (List.zipWith (· ^^^ ·) bs (List.replicate k 0 ++ lows 5 (2 ^ sh * by_) ++ List.replicate (bs.length - k - 5) 0)).foldl refByte c ≠ bs.foldl refByte c := by
  have hlen : bs.length = (List.replicate k 0 ++ lows 5 (2 ^ sh * by_) ++ List.replicate (bs.length - k - 5) 0).length := by
    simp [lows]; omega
  have h := fold_xor bs _ c 0 hlen
  rw [Nat.xor_zero] at h
  rw [h]
  have hv : 2 ^ sh * by_ < 256 ^ 5 := by
    have : 2 ^ sh ≤ 2 ^ 7 := Nat.pow_le_pow_right (by omega) (by omega)
    calc 2 ^ sh * by_ ≤ 2 ^ 7 * by_ := Nat.mul_le_mul_right _ this
      _ < 256 ^ 5 := by omega
  rw [List.foldl_append, List.foldl_append, fold_zeros k, bitN_zero, fold_lows _ _ _ hv, fold_zeros, Nat.zero_xor]
  rw [show 8 * 5 = (40 - sh) + sh by omega, bitN_add, bitN_pow, ← bitN_add]
  intro e
  have e2 : bs.foldl refByte c ^^^ (bs.foldl refByte c ^^^ bitN (8 * (bs.length - k - 5) + (40 - sh)) by_) = bs.foldl refByte c ^^^ bs.foldl refByte c := by rw [e]
  rw [← Nat.xor_assoc, Nat.xor_self, Nat.zero_xor] at e2
  exact bitN_ne _ _ hb h0 e2
theorem rest (bs : List Nat) (hb : ∀ i, i < bs.length → bs.getD i 0 < 256) : refSum (bs ++ lows 4 (refSum bs)) = 558161692 := by
  have hlt : refSum bs < 256 ^ 4 := by
    rw [← crcSum_eq]; exact crcSum_lt bs hb
  have h := fold_lows 4 (bs.foldl refByte 4294967295) (refSum bs) hlt
  conv at h => rhs; unfold refSum
  generalize lows 4 (refSum bs) = t at h ⊢
  unfold refSum
  rw [List.foldl_append]
  have e : ∀ x : Nat, x ^^^ (4294967295 ^^^ x) = 4294967295 := fun x => by rw [Nat.xor_comm 4294967295 x, ← Nat.xor_assoc, Nat.xor_self, Nat.zero_xor]
  rw [h, e]
  decide
theorem join (a b c : List Nat) (h1 : a.length = b.length) (h2 : a.length = c.length) :
    refSum (List.zipWith (· ^^^ ·) (List.zipWith (· ^^^ ·) a b) c) = refSum a ^^^ refSum b ^^^ refSum c := by
  unfold refSum
  have e1 : (4294967295 : Nat) = 4294967295 ^^^ 4294967295 ^^^ 4294967295 := by decide
  conv => lhs; rhs; rw [e1]
  rw [fold_xor _ _ _ _ (by simp; omega), fold_xor _ _ _ _ h1]
  generalize a.foldl refByte 4294967295 = x
  generalize b.foldl refByte 4294967295 = y
  generalize c.foldl refByte 4294967295 = z
  generalize (4294967295 : Nat) = q
  apply Nat.eq_of_testBit_eq; intro i
  simp only [Nat.testBit_xor]
  cases q.testBit i <;> cases x.testBit i <;> cases y.testBit i <;> cases z.testBit i <;> rfl

end Go.Proofs.Ytdmagcdkklacdaa
