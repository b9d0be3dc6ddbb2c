/-
  The contracts of crc.table and crc.Sum: for every slice of bytes the sum is 'crcSum' of what it reads, and nothing that was there is changed.
-/
import Derived.Test.YtachglcffimmeaaGreatQ14
import Derived.Test.YtachglcffimmeaaGreatQ13
set_option linter.unusedVariables false
set_option linter.unusedSimpArgs false
set_option maxRecDepth 1000000
section
namespace Go.Proofs.YtachglcffimmeaaGreat
open Go.RowKit
def tabL : List Nat := [0, 498536548, 997073096, 651767980, 1994146192, 1802195444, 1303535960, 1342533948, 3988292384, 4027552580, 3604390888, 3412177804, 2607071920, 2262029012, 2685067896, 3183342108]
def tab (i : Nat) : Nat := tabL.getD i 0
def nib (c : Nat) : Nat := (c / 16) ^^^ tab (c % 16)
def byteStep (c x : Nat) : Nat := nib (nib (c ^^^ x))
def crcRaw (bs : List Nat) : Nat := bs.foldl byteStep 4294967295
def crcSum (bs : List Nat) : Nat := 4294967295 ^^^ crcRaw bs
theorem tab_lt (i : Nat) : tab i < 4294967296 := by
 unfold tab
 by_cases h : i < 16
 ·have : ∀ i : Fin 16, tabL.getD i.val 0 < 4294967296 := by decide
  exact this ⟨i, h⟩
 ·simp [List.getD, List.getElem?_eq_none (l := tabL) (i := i) (by simp [tabL]; omega)]
theorem tab_key (i : Nat) (h : i < 16) : tabA[i]? = some (.int .u32 (tab i : Nat)) := by
 have key : tabA.toList = tabL.map (fun n => Value.int .u32 (n : Nat)) := rfl
 rw [← Array.getElem?_toList, key, List.getElem?_map]
 unfold tab
 have : i < tabL.length := by simpa [tabL] using h
 simp [List.getD, List.getElem?_eq_getElem this]
theorem nib_lt (c : Nat) (h : c < 4294967296) : nib c < 4294967296 := by
 unfold nib
 exact Nat.xor_lt_two_pow (n := 32) (by omega) (by have := tab_lt (c % 16); omega)
theorem xor_lt (c x : Nat) (h : c < 4294967296) (hx : x < 256) : c ^^^ x < 4294967296 := Nat.xor_lt_two_pow (n := 32) h (by omega)
theorem byteStep_lt (c x : Nat) (h : c < 4294967296) (hx : x < 256) : byteStep c x < 4294967296 := nib_lt _ (nib_lt _ (xor_lt _ _ h hx))
theorem and15 (n : Int) (h : 0 ≤ n) (h' : n < 4294967296) : bits .and .u32 n 15 = n % 16 := by
 obtain ⟨A, rfl⟩ := Int.eq_ofNat_of_zero_le h
 have h2 := Nat.and_two_pow_sub_one_eq_mod A 4
 simp at h2
 have h3 := u32_and_nat A 15 (by omega) (by omega)
 rw [h2] at h3
 simpa using h3
theorem foldl_lt (bs : List Nat) (hb : ∀ i, i < bs.length → bs.getD i 0 < 256) (k : Nat) (hk : k ≤ bs.length) : (bs.take k).foldl byteStep 4294967295 < 4294967296 := by
 induction k with
 | zero => simp
 | succ k ih =>
  have hlt : k < bs.length := by omega
  have h := hb k hlt
  rw [List.take_succ_eq_append_getElem hlt, List.foldl_append]
  simp only [List.getD, List.getElem?_eq_getElem hlt, Option.getD_some] at h
  exact byteStep_lt _ _ (ih (by omega)) h
theorem crcFold_succ (bs : List Nat) (k : Nat) (hlt : k < bs.length) : (bs.take (k+1)).foldl byteStep 4294967295 = byteStep ((bs.take k).foldl byteStep 4294967295) (bs.getD k 0) := by
 rw [List.take_succ_eq_append_getElem hlt, List.foldl_append]
 simp [List.getD, List.getElem?_eq_getElem hlt]
theorem nib_walk (c : Nat) (h : c < 4294967296) : bits .xor .u32 ((c : Int) / 16) (tab (c % 16) : Nat) = (nib c : Nat) := by
 have h1 : ((c : Int) / 16) = ((c / 16 : Nat) : Int) := by simp
 rw [h1, u32_xor_nat _ _ (by omega) (tab_lt _)]
 rfl
theorem not_walk (c : Nat) (h : c < 4294967296) : bits .xor .u32 IntKind.u32.max (c : Int) = ((4294967295 ^^^ c : Nat) : Int) :=
 u32_xor_nat 4294967295 c (by decide) h
set_option maxHeartbeats 400000 in
theorem sum_exactW (v : Value) (bs : List Nat) (w : World) (hv : BytesW w v bs) :
  Calls Tryz.prog 71 #[v] w fun e w' => e = .returned (.int .u32 (crcSum bs : Nat)) ∧ w' = (w.alloc (.cells tabA 147)).alloc (.cells tabA 147) := by
 obtain ⟨a, cap, rfl, hm, hb, hc⟩ := hv
 unfold maxLen at hm
 go_enter Tryz.func71, Tryz.ntmps71
 go_wp2_with (go_at_call 91; refine (table_any _).mono ?_; rintro e w' ⟨rfl, rfl⟩; unfold tabA)
 have hW : ∃ W, W = (w.alloc (.cells tabA 147)).alloc (.cells tabA 147) := ⟨_, rfl⟩
 obtain ⟨W, hW⟩ := hW
 have h1 : ∀ i, i < 16 → W.cell? ⟨w.heap.size + 1, i, none⟩ = some (.int .u32 (tab i : Nat)) := by
  intro i hi
  rw [hW]
  have := World.cell?_alloc_new (w.alloc (.cells tabA 147)) tabA 147 i
  simp only [World.size_alloc] at this
  exact this.trans (tab_key i hi)
 have h2 : ∀ b o, b < w.heap.size → W.cell? ⟨b, o, none⟩ = w.cell? ⟨b, o, none⟩ := by
  intro b o hlt
  rw [hW, World.cell?_alloc_lt _ _ _ (by simp; omega), World.cell?_alloc_lt _ _ _ (by simpa using hlt)]
 unfold tabA at hW
 rw [← hW]
 have HW := Lib.hid hW; clear hW
 go_loop [4, 10] (fun c i => ∃ k : Nat, k ≤ bs.length ∧ i = .int .i64 k ∧ c = .int .u32 ((bs.take k).foldl byteStep 4294967295 : Nat)) (fun _ i => bs.length - (intOf i).toNat)
 case atStart => exact ⟨0, Nat.zero_le _, rfl, rfl⟩
 case round =>
  obtain ⟨k, hk, rfl, rfl⟩ := hrel
  by_cases hlt : k < bs.length
  ·have hC := foldl_lt bs hb k hk
   have hX := hb k hlt
   obtain ⟨b, off, rfl, hbl, hcell⟩ := hc (by intro h; simp [h] at hlt)
   have hx := (h2 b (off + k) hbl).trans (hcell k hlt)
   have HS := Lib.hid (crcFold_succ bs k hlt)
   clear hcell
   revert HS hC hX hx
   generalize (bs.take k).foldl byteStep 4294967295 = C
   generalize bs.getD k 0 = x
   intro hC hX hx HS
   clear hb hc h2
   have q1 := xor_lt C x hC hX
   have q2 := nib_lt _ q1
   have e1 := u32_xor_nat C x hC (by omega)
   have e2 := and15 (C ^^^ x : Nat) (by omega) (by omega)
   have e3 := nib_walk _ q1
   have e4 := and15 (nib (C ^^^ x) : Nat) (by omega) (by omega)
   have e5 := nib_walk _ q2
   have c1 := h1 ((C ^^^ x) % 16) (by omega)
   have c2 := h1 (nib (C ^^^ x) % 16) (by omega)
   clear h1
   go_wp2
   refine wp_loop_rounds 3 ?_
   iterate 3 (rw [rounds_succ]; go_wp2)
   exact ⟨⟨k + 1, by omega, by go_num, by rw [HS.out]; rfl⟩, by simp [intOf]; omega⟩
  ·have e1 := not_walk _ (foldl_lt bs hb k hk)
   have hk2 : k = bs.length := by omega
   have HK := Lib.hid hk2
   clear hb hc h2 h1 hk2
   go_wp2
   go_ret
   exact ⟨ret_int (by simp only [HK.out, List.take_length]; rfl), HW.out⟩
theorem sum_anyW (v : Value) (bs : List Nat) (w : World) (hv : BytesW w v bs) :
  Calls Tryz.prog 71 #[v] w fun e w' => e = .returned (.int .u32 (crcSum bs : Nat)) ∧ Below w.heap.size w w' :=
 (sum_exactW v bs w hv).mono fun _ _ ⟨he, hw⟩ => ⟨he, by subst hw; exact ((Below.refl _ _).alloc (Nat.le_refl _) _).alloc (by simp) _⟩
def bitStep (c : Nat) : Nat := if c % 2 = 1 then (c / 2) ^^^ 3988292384 else c / 2
def bitN : Nat → Nat → Nat
 | 0, c => c
 | n + 1, c => bitStep (bitN n c)
theorem bitN_succ (n c : Nat) : bitN (n + 1) c = bitStep (bitN n c) := rfl
def refByte (c x : Nat) : Nat := bitN 8 (c ^^^ x)
def refSum (bs : List Nat) : Nat := 4294967295 ^^^ bs.foldl refByte 4294967295
theorem bitStep_lt (c : Nat) (h : c < 4294967296) : bitStep c < 4294967296 := by
 unfold bitStep
 split
 ·exact Nat.xor_lt_two_pow (n := 32) (by omega) (by decide)
 ·omega
theorem bitN_lt (n c : Nat) (h : c < 4294967296) : bitN n c < 4294967296 := by
 induction n with
 | zero => exact h
 | succ n ih => exact bitStep_lt _ ih
theorem refByte_lt (c x : Nat) (h : c < 4294967296) (hx : x < 256) : refByte c x < 4294967296 := bitN_lt _ _ (xor_lt _ _ h hx)
theorem refFold_lt (bs : List Nat) (hb : ∀ i, i < bs.length → bs.getD i 0 < 256) (k : Nat) (hk : k ≤ bs.length) : (bs.take k).foldl refByte 4294967295 < 4294967296 := by
 induction k with
 | zero => simp
 | succ k ih =>
  have hlt : k < bs.length := by omega
  have h := hb k hlt
  rw [List.take_succ_eq_append_getElem hlt, List.foldl_append]
  simp only [List.getD, List.getElem?_eq_getElem hlt, Option.getD_some] at h
  exact refByte_lt _ _ (ih (by omega)) h
theorem refFold_succ (bs : List Nat) (k : Nat) (hlt : k < bs.length) : (bs.take (k+1)).foldl refByte 4294967295 = refByte ((bs.take k).foldl refByte 4294967295) (bs.getD k 0) := by
 rw [List.take_succ_eq_append_getElem hlt, List.foldl_append]
 simp [List.getD, List.getElem?_eq_getElem hlt]
theorem bit_odd (c : Nat) (h : c < 4294967296) (ho : c % 2 = 1) : bits .xor .u32 ((c : Int) / 2) 3988292384 = (bitStep c : Nat) := by
 have h1 : ((c : Int) / 2) = ((c / 2 : Nat) : Int) := by simp
 have := u32_xor_nat (c / 2) 3988292384 (by omega) (by decide)
 rw [h1]
 simp only [bitStep, if_pos ho]
 simpa using this
theorem bit_even (c : Nat) (ho : ¬ c % 2 = 1) : (c : Int) / 2 = (bitStep c : Nat) := by
 simp only [bitStep, if_neg ho]
 simp
set_option maxHeartbeats 400000 in
theorem refSum_anyW (v : Value) (bs : List Nat) (w : World) (hv : BytesW w v bs) :
  Calls Tryz.prog 42 #[v] w fun e w' => e = .returned (.int .u32 (refSum bs : Nat)) ∧ w = w' := by
 obtain ⟨a, cap, rfl, hm, hb, hc⟩ := hv
 unfold maxLen at hm
 go_enter Tryz.func42, Tryz.ntmps42
 go_wp2
 go_loop [3, 4] (fun c i => ∃ k : Nat, k ≤ bs.length ∧ i = .int .i64 k ∧ c = .int .u32 ((bs.take k).foldl refByte 4294967295 : Nat)) (fun _ i => bs.length - (intOf i).toNat)
 case atStart => exact ⟨0, Nat.zero_le _, rfl, rfl⟩
 case round =>
  obtain ⟨k, hk, rfl, rfl⟩ := hrel
  by_cases hlt : k < bs.length
  ·have hC := refFold_lt bs hb k hk
   have hX := hb k hlt
   obtain ⟨b, off, rfl, hbl, hcell⟩ := hc (by intro h; simp [h] at hlt)
   have hx := hcell k hlt
   have HS := Lib.hid (refFold_succ bs k hlt)
   clear hcell
   revert HS hC hX hx
   generalize (bs.take k).foldl refByte 4294967295 = C
   generalize bs.getD k 0 = x
   intro hC hX hx HS
   clear hb hc
   have q1 := xor_lt C x hC hX
   have e1 := u32_xor_nat C x hC (by omega)
   go_wp2
   go_loop [3, 5] (fun c j => ∃ n : Nat, n ≤ 8 ∧ j = .int .i64 n ∧ c = .int .u32 (bitN n (C ^^^ x) : Nat)) (fun _ j => 8 - (intOf j).toNat)
   case atStart => exact ⟨0, Nat.zero_le _, rfl, rfl⟩
   case round =>
    obtain ⟨n, hn, rfl, rfl⟩ := hrel
    have hD := bitN_lt n _ q1
    have HN := Lib.hid (bitN_succ n (C ^^^ x))
    by_cases hl8 : n < 8
    ·revert HN hD
     generalize bitN n (C ^^^ x) = D
     intro hD HN
     by_cases ho : D % 2 = 1
     ·have o1 : ((D : Int) % 2 == 1) = true := by rw [beq_iff_eq]; omega
      have o2 := bit_odd D hD ho
      go_wp2
      go_round
      case rel => exact ⟨n + 1, by omega, by go_num, by rw [HN.out]⟩
      case measure => simp [intOf]; omega
     ·have o1 : ((D : Int) % 2 == 1) = false := by rw [beq_eq_false_iff_ne]; omega
      have o2 := bit_even D ho
      go_wp2
      go_round
      case rel => exact ⟨n + 1, by omega, by go_num, by rw [HN.out]⟩
      case measure => simp [intOf]; omega
    ·obtain rfl : n = 8 := by omega
     go_wp2
     go_round
     case rel => exact ⟨k + 1, by omega, by go_num, by rw [HS.out]; rfl⟩
     case measure => simp [intOf]; omega
  ·have e1 := not_walk _ (refFold_lt bs hb k hk)
   have hk2 : k = bs.length := by omega
   have HK := Lib.hid hk2
   clear hb hc hk2
   go_wp2
   go_ret
   exact ⟨ret_int (by simp only [HK.out, List.take_length]; rfl), rfl⟩
end Go.Proofs.YtachglcffimmeaaGreat
end
section
namespace Go.Proofs.YtachglcffimmeaaGreat
theorem xor_odd (a b : Nat) : (a ^^^ b) % 2 = 1 ↔ ¬ (a % 2 = 1 ↔ b % 2 = 1) := by
 have h := Nat.testBit_xor a b 0
 simp only [Nat.testBit_zero] at h
 by_cases ha : a % 2 = 1 <;> by_cases hb : b % 2 = 1 <;> simp [ha, hb] at h ⊢ <;> omega
theorem bitStep_xor (a b : Nat) : bitStep (a ^^^ b) = bitStep a ^^^ bitStep b := by
 have h1 := xor_odd a b
 have h2 : (a ^^^ b) / 2 = a / 2 ^^^ b / 2 := by
  apply Nat.eq_of_testBit_eq; intro i
  simp [← Nat.testBit_succ]
 unfold bitStep
 rw [h2]
 generalize a / 2 = x
 generalize b / 2 = y
 by_cases ha : a % 2 = 1 <;> by_cases hb : b % 2 = 1 <;> simp only [ha, hb, h1, iff_self, not_true_eq_false, if_true, if_false, iff_true, iff_false, not_false_eq_true] <;> (apply Nat.eq_of_testBit_eq; intro i; simp only [Nat.testBit_xor]; cases x.testBit i <;> cases y.testBit i <;> cases Nat.testBit 3988292384 i <;> rfl)
theorem bitN_xor (n a b : Nat) : bitN n (a ^^^ b) = bitN n a ^^^ bitN n b := by
 induction n with
 | zero => rfl
 | succ n ih => rw [bitN_succ, bitN_succ, bitN_succ, ih, bitStep_xor]
theorem bitN_add (m n c : Nat) : bitN (m + n) c = bitN m (bitN n c) := by
 induction m with
 | zero => simp [bitN]
 | succ m ih => rw [Nat.succ_add, bitN_succ, ih, bitN_succ]
theorem bitStep_two (h : Nat) : bitStep (2 * h) = h := by
 unfold bitStep
 rw [if_neg (by omega)]; omega
theorem bitN_pow (n h : Nat) : bitN n (2 ^ n * h) = h := by
 induction n generalizing h with
 | zero => simp [bitN]
 | succ n ih =>
  rw [bitN_succ, show 2 ^ (n + 1) * h = 2 ^ n * (2 * h) by rw [Nat.pow_succ, Nat.mul_assoc], ih, bitStep_two]
theorem split_xor (n a : Nat) : a = 2 ^ n * (a / 2 ^ n) ^^^ (a % 2 ^ n) := by
 apply Nat.eq_of_testBit_eq; intro i
 rw [Nat.testBit_xor, Nat.testBit_two_pow_mul, Nat.testBit_mod_two_pow, Nat.testBit_div_two_pow]
 by_cases h : n ≤ i
 ·have h1 : ¬ i < n := by omega
  simp [h, h1, Nat.sub_add_cancel h]
 ·have h1 : i < n := by omega
  simp [h, h1]
theorem nib_eq (c : Nat) : nib c = bitN 4 c := by
 have key : ∀ i : Fin 16, tab i.val = bitN 4 i.val := by decide
 have h := key ⟨c % 16, by omega⟩
 conv => rhs; rw [split_xor 4 c, bitN_xor, bitN_pow]
 unfold nib
 rw [h]
theorem byteStep_eq (c x : Nat) : byteStep c x = refByte c x := by
 unfold byteStep refByte
 rw [nib_eq, nib_eq, ← bitN_add]
theorem crcSum_eq (bs : List Nat) : crcSum bs = refSum bs := by
 unfold crcSum crcRaw refSum
 rw [show byteStep = refByte from funext fun c => funext fun x => byteStep_eq c x]
end Go.Proofs.YtachglcffimmeaaGreat
end
section
namespace Go.Proofs.YtachglcffimmeaaGreat.Ev
open Go Go.Proofs Go.RowKit
structure U8 where
 v : Int
def u8E (a : U8) (_ : Nat) : Td := .sc (.int .u8 a.v)
def u8D (c : Nat → Td) : U8 := match c 0 with
 | .sc (.int .u8 a) => ⟨a⟩
 | _ => ⟨0⟩
def u8Ok (c : Nat → Td) : Bool := match c 0 with
 | .sc (.int .u8 a) => decide (0 ≤ a) && decide (a < 256)
 | _ => false
theorem u8Ok_inv {c : Nat → Td} (h : u8Ok c = true) : c 0 = .sc (.int .u8 (u8D c).v) ∧ 0 ≤ (u8D c).v ∧ (u8D c).v < 256 := by
 unfold u8Ok at h
 split at h
 ·rename_i a h0
  simp only [Bool.and_eq_true, decide_eq_true_eq] at h
  simp only [u8D, h0]
  exact ⟨trivial, h.1, h.2⟩
 ·cases h
instance encU : Enc U8 where
 es := 1
 enc := u8E
 dec := u8D
 ok := u8Ok
 dflt := ⟨0⟩
 good c := u8Ok c = true
 okgood c h := h
 law c h w F j y hj ht := by
  have : j = 0 := by omega
  subst this
  rw [(u8Ok_inv h).1] at ht
  exact ht
 back a := rfl
 mrg a b w F j y hj := ⟨fun h => h, fun h => h⟩
instance : EncM U8 where
 cong c c' h := by
  have h0 : c 0 = c' 0 := h 0 (by show 0 < 1; omega)
  exact ⟨by show u8D c = u8D c'; unfold u8D; rw [h0], by show u8Ok c = u8Ok c'; unfold u8Ok; rw [h0]⟩
 mt a b := ⟨rfl, rfl⟩
 mf a b := ⟨rfl, rfl⟩
theorem esU : Enc.es U8 = 1 := rfl
def okU (b : U8) : Bool := decide (0 ≤ b.v) && decide (b.v < 256)
theorem okA_u8 (a : U8) : okA U8 a = okU a := rfl
theorem okU_iff (a : U8) : okA U8 a = true ↔ 0 ≤ a.v ∧ a.v < 256 := by
 rw [okA_u8]; simp [okU]
def shU (_ : Nat) : Sh := .int .u8
theorem goodU (c : Nat → Td) (h : ∀ j, j < 1 → ShOk (shU j) (c j)) : Enc.good U8 c := by
 have h0 := h 0 (by omega)
 show u8Ok c = true
 unfold u8Ok
 revert h0
 cases c 0 with
 | fr => intro h; exact h.elim
 | sc x =>
  cases x with
  | int k n =>
   intro h
   obtain ⟨rfl, hw⟩ := h
   simp [Lit.wf, IntKind.min, IntKind.max, IntKind.signed, IntKind.bits] at hw
   show (decide (0 ≤ n) && decide (n < 256)) = true
   simp; omega
  | _ => intro h; exact h.elim
theorem goodU_all {t : Td} (h : goodT U8 t) : (listT U8 t).all (okA U8) = true := by
 rw [List.all_eq_true]
 refine goodT_all (p := fun b => okA U8 b = true) (fun c hc => ?_) h
 have := u8Ok_inv hc
 exact (okU_iff _).2 this.2
def natsU (l : List U8) : List Nat := l.map fun b => b.v.toNat
theorem natsU_len (l : List U8) : (natsU l).length = l.length := by simp [natsU]
theorem natsU_get {l : List U8} {i : Nat} (h : i < l.length) : (natsU l).getD i 0 = (l.getD i Enc.dflt).v.toNat := by
 simp [natsU, List.getD, h]
theorem all_getU {l : List U8} (h : l.all (okA U8) = true) {i : Nat} (hi : i < l.length) : 0 ≤ (l.getD i Enc.dflt).v ∧ (l.getD i Enc.dflt).v < 256 := by
 rw [List.all_eq_true] at h
 exact (okU_iff _).1 (h _ (by simp [List.getD, hi]))
theorem bytesW_of {w : World} {F : Nat → Prop} {y : Value} {l : List U8} {c : Nat} (hl : l.length ≤ 1000000) (hok : l.all (okA U8) = true) (h : TRo w F (tdL l c) y) : BytesW w y (natsU l) := by
 have hm : (natsU l).length ≤ maxLen := by rw [natsU_len]; unfold maxLen; omega
 have hb : ∀ i, i < (natsU l).length → (natsU l).getD i 0 < 256 := fun i hi => by
  rw [natsU_len] at hi
  rw [natsU_get hi]
  have := all_getU hok hi
  omega
 rcases h with ⟨h0, _, rfl⟩ | ⟨h0, _, a, c', rfl⟩ | ⟨h0, b, o, c', rfl, h2, h3, h4⟩
 ·have : l = [] := List.eq_nil_of_length_eq_zero h0
  subst this
  exact ⟨none, 0, rfl, hm, hb, fun h => absurd rfl h⟩
 ·have : l = [] := List.eq_nil_of_length_eq_zero h0
  subst this
  exact ⟨some a, c', rfl, hm, hb, fun h => absurd rfl h⟩
 ·refine ⟨some ⟨b, o, none⟩, c', by rw [natsU_len], hm, hb, fun _ => ⟨b, o, rfl, h3, fun i hi => ?_⟩⟩
  rw [natsU_len] at hi
  obtain ⟨z, z1, z2, z3⟩ := h4 i hi 0 (by show 0 < 1; omega)
  have z3 : VR noRho (.int .u8 (l.getD i Enc.dflt).v) z := z3
  cases z3
  have he : o + i = o + i * Enc.es U8 + 0 := by rw [esU]; omega
  rw [he, z1, natsU_get hi]
  have := all_getU hok hi
  rw [Int.toNat_of_nonneg this.1]
theorem sum_told {P : Program} {g : FuncId} (h : ∀ (v : Value) (bs : List Nat) (w : World), BytesW w v bs → Calls P g #[v] w fun e w' => e = .returned (.int .u32 (refSum bs : Nat)) ∧ Below w.heap.size w w') :
  ToldW P g (ok1 U8 fun l _ => l.all (okA U8)) (ans1 U8 fun l _ => .ret (.cell (.sc (.int .u32 (Int.ofNat (refSum (natsU l))))))) := by
 intro ts hok w args' F hF ha
 unfold ok1 at hok
 split at hok
 ·rename_i t
  simp only [Bool.and_eq_true] at hok
  obtain ⟨h1, h2⟩ := okT_len hok.1
  obtain ⟨y, m, e, hy, hm'⟩ := ha.uncons
  have := hm'.nil_inv
  subst this
  have : args' = #[y] := by
   have := congrArg List.toArray e
   simpa using this
  subst this
  refine (h y (natsU (listT U8 t)) w (bytesW_of h1 hok.2 (okT_TRo hok.1 hy))).mono fun e w' ⟨he, hb⟩ => ?_
  subst he
  exact ⟨hb, F, fun b hb => .inr hb, _, [], rfl, ⟨rfl, .int _ _⟩, List.nodup_nil⟩
 ·cases hok
theorem csum_told : ToldW Tryz.prog 71 (ok1 U8 fun l _ => l.all (okA U8)) (ans1 U8 fun l _ => .ret (.cell (.sc (.int .u32 (Int.ofNat (refSum (natsU l))))))) := sum_told fun v bs w h => by rw [← crcSum_eq]; exact sum_anyW v bs w h
theorem rsum_told : ToldW Tryz.prog 42 (ok1 U8 fun l _ => l.all (okA U8)) (ans1 U8 fun l _ => .ret (.cell (.sc (.int .u32 (Int.ofNat (refSum (natsU l))))))) := sum_told fun v bs w h => (refSum_anyW v bs w h).mono fun e w' ⟨he, hw⟩ => ⟨he, by subst hw; exact Below.refl _ _⟩
theorem cloneU_told : ToldW Tryz.prog 47 (okC 1) (ansC 1) := clone_told follows (fun n c f β K => by kernel_rfl) (fun es' f β K => by kernel_rfl)
def toldU : Told := ((toldB.tree 71 (ok1 U8 fun l _ => l.all (okA U8)) (ans1 U8 fun l _ => .ret (.cell (.sc (.int .u32 (Int.ofNat (refSum (natsU l)))))))).tree 42 (ok1 U8 fun l _ => l.all (okA U8)) (ans1 U8 fun l _ => .ret (.cell (.sc (.int .u32 (Int.ofNat (refSum (natsU l)))))))).tree 47 (okC 1) (ansC 1)
theorem toldU_ok : ToldS Tryz.prog toldU := Told.tree_ok (Told.tree_ok (Told.tree_ok toldB_ok csum_told) rsum_told) cloneU_told
def slE : List Nat := [0, 1, 12, 13]
def lvE : AX → List Nat := fun x => match x with
 | .ret => [4]
 | _ => slE
def FE (l m : List U8) (c d : Nat) (i : Int) : AFr := mkF 26 [(0, .slice (some ⟨0, 0, some 0⟩) l.length c), (1, .slice (some ⟨1, 0, some 0⟩) m.length d), (12, .int .i64 (Int.ofNat l.length)), (13, .int .i64 i)]
def SE (l m : List U8) : ASt := mkS [some (rowO .look l), some (rowO .look m)]
def FEr (q : Bool) : AFr := mkF 26 [(4, .bool q)]
def sameU (l m : List U8) : Bool := decide (l.length = m.length) && (List.range l.length).all fun i => decide ((l.getD i Enc.dflt).v = (m.getD i Enc.dflt).v)
def exE (l m : List U8) (c d : Nat) : Nat → Kt → Prop := fun b K => (sameU l m = true → K (.exit b) (FE l m c d l.length) (SE l m)) ∧ (sameU l m = false → K .ret (FEr false) (SE l m))
def shpE (l m : List U8) (c d : Nat) (i' : Int) : AFr × ASt := (FE l m c d i', SE l m)
def shpEr (l m : List U8) (q' : Bool) : AFr × ASt := (FEr q', SE l m)
theorem vc_eq (l m : List U8) (c d : Nat) (β : Bs) (K : AE → Prop) : lawE Tryz.prog toldU 100 20 β (fun _ => 0) (cnOf 2 fun _ => slE) (exE l m c d) 66 [.slice (some ⟨0, 0, some 0⟩) l.length c, .slice (some ⟨1, 0, some 0⟩) m.length d] (mkS [some (rowO .look l), some (rowO .look m)]) (fun r _ => K r) =
 (br (Int.ofNat l.length != Int.ofNat m.length) (K (.returned (.bool false))) (LoopJ Tryz.prog β (exE l m c d) 0 (loopOf Tryz.prog 66 0) (FE l m c d (0 : Int)) (SE l m) ∧ (sameU l m = true → K (.returned (.bool true))) ∧ (sameU l m = false → K (.returned (.bool false))))) := by kernel_rfl
theorem vc_eq_r (l m : List U8) (c d : Nat) (i : Int) (β : Bs) (N : Kt) (ex : Nat → Kt → Prop) : roundJ Tryz.prog toldU 100 20 β (fun _ => 0) (cnOf 2 fun _ => slE) ex 66 0 2 lvE (FE l m c d i) (SE l m) N =
 (fun (z0 z1 : Nat) => (br (decide (i < Int.ofNat z1)) (need (decide ((0 : Int) ≤ i)) (need (Nat.blt (Int.toNat i) z1) (need (Nat.ble 0 z0 && Nat.blt z0 z1) (need (decide ((0 : Int) ≤ i)) (need (Nat.blt (Int.toNat i) m.length) (need (Nat.ble 0 z0 && Nat.blt z0 m.length) (br (U8.v (List.getD l z0 Enc.dflt) != U8.v (List.getD m z0 Enc.dflt)) (onP N .ret (shpEr l m false)) (onP N .normal (shpE l m c d (IntKind.wrap .i64 (i + (1 : Int)))))))))))) (onP N (.exit 0) (shpE l m c d i)))) (0 + Int.toNat i) l.length := by kernel_rfl
theorem sameU_iff (l m : List U8) (h : l.length = m.length) : sameU l m = true ↔ ∀ i, i < l.length → (l.getD i Enc.dflt).v = (m.getD i Enc.dflt).v := by
 unfold sameU
 rw [decide_eq_true h, Bool.true_and, List.all_eq_true]
 exact ⟨fun h j hj => of_decide_eq_true (h j (List.mem_range.2 hj)), fun h j hj => decide_eq_true (h j (List.mem_range.1 hj))⟩
theorem u8_ext {a b : U8} (h : a.v = b.v) : a = b := by cases a; cases b; simp at h; subst h; rfl
theorem sameU_eq (l m : List U8) : sameU l m = true ↔ l = m := by
 constructor
 ·intro h
  have hl : l.length = m.length := by
   unfold sameU at h
   rw [Bool.and_eq_true] at h
   exact of_decide_eq_true h.1
  have h2 := (sameU_iff l m hl).1 h
  apply List.ext_getElem hl
  intro i h1 h3
  have := h2 i h1
  simp [List.getD, h1, h3] at this
  exact u8_ext this
 ·intro h
  subst h
  exact (sameU_iff l l rfl).2 fun _ _ => rfl
theorem eq_round {l m : List U8} {c d : Nat} {β : Bs} (hβ : β.X.length = 2) (hn : l.length = m.length) (hn6 : l.length ≤ 1000000) (K : Kt) (h1 : sameU l m = true → K (.exit 0) (FE l m c d l.length) (SE l m)) (h2 : sameU l m = false → K .ret (FEr false) (SE l m)) (k : Nat) (hk : k ≤ l.length ∧ ∀ j, j < k → (l.getD j Enc.dflt).v = (m.getD j Enc.dflt).v) :
  J Tryz.prog β (loopOf Tryz.prog 66 0) (FE l m c d k) (SE l m) (Nn β (fun k : Nat => k ≤ l.length ∧ ∀ j, j < k → (l.getD j Enc.dflt).v = (m.getD j Enc.dflt).v) (fun k => l.length - k) (fun k => FE l m c d k) (fun _ => SE l m) k K) := by
 refine rJ_ (E := 2) (lvs := fun _ => slE) (un := fun _ => 0) (fuel := 100) (n := 20) (ex := fun _ _ => False) follows toldU_ok hβ (lv := lvE) ?_
 rw [vc_eq_r]
 by_cases hkn : k < l.length
 ·have c1 : decide ((k : Int) < Int.ofNat l.length) = true := by simpa using hkn
  have c2 : decide ((0 : Int) ≤ (k : Int)) = true := by simp
  have e0 : Int.toNat (k : Int) = k := Int.toNat_natCast k
  have c3 : Nat.blt k l.length = true := by simpa using hkn
  have c4 : Nat.blt k m.length = true := by rw [← hn]; exact c3
  have c5 : Nat.ble 0 k = true := by simp
  have hw : IntKind.wrap .i64 ((k : Int) + 1) = ((k + 1 : Nat) : Int) := w64 (by omega) (by omega)
  simp only [c1, c2, e0, Nat.zero_add, c3, c4, c5, Bool.true_and, br_t, need_t, hw]
  refine br_of (fun q => Nn.ret (Seen.refl _ _ _) (h2 ?_)) (fun q => ?_)
  ·cases hq : sameU l m with
   | false => rfl
   | true =>
    have := (sameU_iff l m hn).1 hq k hkn
    rw [this] at q
    simp at q
  ·refine Nn.next (I := fun k : Nat => k ≤ l.length ∧ ∀ j, j < k → (l.getD j Enc.dflt).v = (m.getD j Enc.dflt).v) (m := fun k => l.length - k) (F := fun k : Nat => FE l m c d k) (S := fun _ => SE l m) (p := k) (k + 1) ⟨hkn, fun j hj => ?_⟩ (by omega) (Seen.refl _ _ _)
   by_cases hjk : j < k
   ·exact hk.2 j hjk
   ·have : j = k := by omega
    subst this
    simpa using q
 ·have c1 : decide ((k : Int) < Int.ofNat l.length) = false := by simpa using hkn
  have hkn' : k = l.length := by omega
  simp only [c1, br_f]
  subst hkn'
  exact Nn.exit (Seen.refl _ _ _) (h1 ((sameU_iff l m hn).2 hk.2))
theorem equal_told : ToldW Tryz.prog 66 (ok2 U8 U8 fun _ _ _ _ => true) (ans2 U8 U8 fun l _ m _ => bAns (sameU l m)) := by
 refine told2 follows fun l c m d hl hc hm hd _ => ⟨toldU, 100, 20, fun _ => 0, fun _ => slE, exE l m c d, toldU_ok, fun β hβ => ?_⟩
 show lawE _ _ _ _ _ _ (cnOf 2 fun _ => slE) _ _ _ _ _
 have hK : ∀ b, sameU l m = b → ansE (bAns (sameU l m)) (.returned (.bool b)) st0 := fun b hb => by subst hb; exact bAns_ok _ _
 rw [bAns_any, vc_eq l m c d β fun r => ansE (bAns (sameU l m)) r st0]
 refine br_of (fun h => ?_) (fun h => ⟨?_, fun h1 => hK true h1, fun h1 => hK false h1⟩)
 ·have : ¬ l.length = m.length := by simp at h; omega
  exact hK false (by simp only [sameU]; rw [decide_eq_false this, Bool.false_and])
 ·have hn : l.length = m.length := by simp at h; omega
  exact loop_rule (fun k : Nat => k ≤ l.length ∧ ∀ j, j < k → (l.getD j Enc.dflt).v = (m.getD j Enc.dflt).v) (fun k => FE l m c d k) (fun _ => SE l m) (fun k => l.length - k) (fun k hk K hK => eq_round hβ hn hl K hK.1 hK.2 k hk) 0 ⟨Nat.zero_le _, fun j hj => by omega⟩
def toldE : Told := toldU.tree 66 (ok2 U8 U8 fun _ _ _ _ => true) (ans2 U8 U8 fun l _ m _ => bAns (sameU l m))
theorem toldE_ok : ToldS Tryz.prog toldE := Told.tree_ok toldU_ok equal_told
theorem vc_put (l : List U8) (c : Nat) (β : Bs) (K : AE → List (Option AObj) → Prop) : lawE Tryz.prog toldE 100 20 β (fun _ => 8) (cnOf 1 fun _ => []) (fun _ _ => False) 51 [.slice (some ⟨0, 0, some 0⟩) l.length c] (mkS [some (rowO .look l)]) (outK K) =
 (fun (z11 z12 z13 z32 : Nat) (z33 : List Td) => ((fun (z2 z4 : Int) (z8 z22 : AObj) (z15 z31 z34 z35 : Bool) (z25 z29 : Nat) => ((fun (z9 z10 z28 : Int) => ((fun (z3 : List Td) (z7 z26 z27 : AObj) (z30 : Nat) => ((fun (z0 z14 : Td) (z5 : List (Option AObj)) => ((fun (z1 z6 : Int) => ((fun (z16 z17 z18 z19 z20 z21 z23 z24 : Int) => (br (decide (Int.ofNat z13 > (200 : Int))) (K (.returned (Value.tuple (Array.mk [.slice none 0 0, .bool false]))) [some z22]) (br z15 (K (AE.panicked (Value.iface 9 (.string (ByteArray.mk #[(108 : UInt8), (101 : UInt8), (110 : UInt8), (32 : UInt8), (111 : UInt8), (117 : UInt8), (116 : UInt8), (32 : UInt8), (111 : UInt8), (102 : UInt8), (32 : UInt8), (114 : UInt8), (97 : UInt8), (110 : UInt8), (103 : UInt8), (101 : UInt8)])))) z5) (br z15 (K (AE.panicked (Value.iface 9 (.string (ByteArray.mk #[(99 : UInt8), (97 : UInt8), (110 : UInt8), (110 : UInt8), (111 : UInt8), (116 : UInt8), (32 : UInt8), (98 : UInt8), (101 : UInt8), (32 : UInt8), (110 : UInt8), (101 : UInt8), (103 : UInt8), (97 : UInt8), (116 : UInt8), (105 : UInt8), (118 : UInt8), (101 : UInt8)])))) z5) (br (decide (IntKind.wrap .i64 z4 > (0 : Int))) (need (decide ((0 : Int) ≤ IntKind.wrap .i64 z4)) (need (Nat.ble (Int.toNat z28) 1000000) (need (Nat.ble (0 + Int.toNat z28) 1000000) (need z31 (need (Nat.ble z11 1000000) (need z34 (need (ok1 U8 (fun l x => List.all l (okA U8)) [Ta.cell z0]) (need (Nat.ble z25 1000000) (need z34 (K (.returned (Value.tuple (Array.mk [.slice (some ⟨18, 0, some 0⟩) z25 z30, .bool true]))) [some z22, some z27, none, some z26, some z7, some z8, none, none, none, none, some (.cells [.int .u8 z16] true 1), none, some (.cells [.int .u8 z18] true 1), none, some (.cells [.int .u8 z20] true 1), none, some (.cells [.int .u8 z23] true 1), some (.cells [.int .u8 z16, .int .u8 z18, .int .u8 z20, .int .u8 z23] false 1), some (.row .mine 1 0 z25 fun j k => mrgT (Nat.blt j z11) (mrgT (Nat.blt (0 + j) (0 + (1 + 1))) (mrgT (Nat.blt (0 + (0 + j)) 0) (nthT z33 k) (selT 1 (1 + 1) z3 (0 + (0 + j) - 0) k)) (encL l (0 + (0 + j - (0 + (1 + 1)))) k)) (selT 1 z32 [.sc (.int .u8 z16), .sc (.int .u8 z18), .sc (.int .u8 z20), .sc (.int .u8 z23)] (j - z11) k))])))))))))) (need z31 (need (Nat.ble z12 1000000) (need z35 (need (ok1 U8 (fun l x => List.all l (okA U8)) [Ta.cell z14]) (need (Nat.ble z29 1000000) (need z35 (K (.returned (Value.tuple (Array.mk [.slice (some ⟨18, 0, some 0⟩) z29 2, .bool true]))) [some z22, some z27, none, some z26, some z7, some z8, none, none, none, none, some (.cells [.int .u8 z17] true 1), none, some (.cells [.int .u8 z19] true 1), none, some (.cells [.int .u8 z21] true 1), none, some (.cells [.int .u8 z24] true 1), some (.cells [.int .u8 z17, .int .u8 z19, .int .u8 z21, .int .u8 z24] false 1), some (.row .mine 1 0 z29 fun j k => mrgT (Nat.blt j z12) (mrgT (Nat.blt (0 + j) (1 + 1)) (selT 1 (1 + 1) z3 (0 + (0 + j)) k) (encL l (0 + (0 + j - (1 + 1))) k)) (selT 1 z32 [.sc (.int .u8 z17), .sc (.int .u8 z19), .sc (.int .u8 z21), .sc (.int .u8 z24)] (j - z12) k))])))))))))))) (IntKind.wrap .u8 (Int.fdiv z6 (16777216 : Int))) (IntKind.wrap .u8 (Int.fdiv z1 (16777216 : Int))) (IntKind.wrap .u8 (Int.fdiv z6 (65536 : Int))) (IntKind.wrap .u8 (Int.fdiv z1 (65536 : Int))) (IntKind.wrap .u8 (Int.fdiv z6 (256 : Int))) (IntKind.wrap .u8 (Int.fdiv z1 (256 : Int))) (IntKind.wrap .u8 (Int.fdiv z6 (1 : Int))) (IntKind.wrap .u8 (Int.fdiv z1 (1 : Int))))) (Int.ofNat (refSum (natsU (listT U8 z14)))) (Int.ofNat (refSum (natsU (listT U8 z0)))))) (.fr 1 z11 z30 fun i k => mrgT (Nat.blt (0 + i) (0 + (1 + 1))) (mrgT (Nat.blt (0 + (0 + i)) 0) (nthT z33 k) (selT 1 (1 + 1) z3 (0 + (0 + i) - 0) k)) (encL l (0 + (0 + i - (0 + (1 + 1)))) k)) (.fr 1 z12 (1 + 1) fun i k => mrgT (Nat.blt (0 + i) (1 + 1)) (selT 1 (1 + 1) z3 (0 + (0 + i)) k) (encL l (0 + (0 + i - (1 + 1))) k)) [some z22, some z27, none, some z26, some z7, some z8])) [.sc (.int .u8 z9), .sc (.int .u8 z10)] (.cells [.int .u8 z9, .int .u8 z10] false 1) (.cells [.int .u8 z10] true 1) (.cells
 [.int .u8 z9] true 1) (bif Nat.beq (Int.toNat z28) 0 then 1 else 0))) (IntKind.wrap .u8 (Int.fdiv z2 (256 : Int))) (IntKind.wrap .u8 (Int.fdiv z2 (1 : Int))) (IntKind.wrap .i64 z4))) (IntKind.wrap .u32 (Int.ofNat z13)) (IntKind.wrap .i64 (IntKind.wrap .i64 ((0 : Int) + Int.ofNat (1 + 1)) + Int.ofNat z13) - (0 : Int)) (.cells [.slice (some ⟨4, 0, none⟩) 2 2, .slice (some ⟨0, 0, some 0⟩) z13 c] true 1) (.row .look 1 0 z13 (encL l)) (decide (IntKind.wrap .i64 (IntKind.wrap .i64 ((0 : Int) + Int.ofNat (1 + 1)) + Int.ofNat z13) < (0 : Int))) (true && Nat.ble (0 + List.length l) z13) (true && Nat.ble (0 + z11) z11) (true && Nat.ble (0 + z12) z12) (0 + (1 + 1) + List.length l + z32) (1 + 1 + List.length l + z32))) (0 + (1 + 1) + List.length l) (1 + 1 + List.length l) l.length (1 + 1 + 1 + 1) [.sc (.int .u8 (0 : Int))] := by kernel_rfl
theorem vc_putr (l : List U8) (c : Nat) (β : Bs) (K : AE → List (Option AObj) → Prop) : lawE Tryz.prog toldE 100 20 β (fun _ => 8) (cnOf 1 fun _ => []) (fun _ _ => False) 14 [.slice (some ⟨0, 0, some 0⟩) l.length c] (mkS [some (rowO .look l)]) (outK K) =
 (fun (z7 : Value) (z8 z11 z13 : Nat) => ((fun (z14 : Int) (z15 : AObj) (z16 : Bool) => ((fun (z2 z3 : List Td) => ((fun (z0 : Td) => ((fun (z10 : Int) => ((fun (z1 : Int) (z5 : List Td) => ((fun (z9 : List Td) (z12 : Int) => ((fun (z4 z6 : List Td) => (br (decide (Int.ofNat z11 > (200 : Int))) (K (.returned (Value.tuple (Array.mk [.slice none 0 0, .bool false]))) [some z15]) (need (true && Nat.ble (0 + List.length l) z11) (need (Nat.ble z8 1000000) (need z16 (need (ok1 U8 (fun l x => List.all l (okA U8)) [Ta.cell z0]) (need (Nat.ble z13 1000000) (need z16 (K (.returned (Value.tuple (Array.mk [.slice (some ⟨6, 0, some 0⟩) z13 1, .bool true]))) [some z15, some (.row .mine 1 0 2 (putT 0 0 z2 (putT 1 0 z3 fun x => nthT [.sc z7]))), none, none, none, some (.row .mine 1 0 4 (putT 0 0 z4 (putT 1 0 z6 (putT 2 0 z9 (putT 3 0 z5 fun x => nthT [.sc z7]))))), some (.row .mine 1 0 z13 fun j k => mrgT (Nat.blt j z8) (mrgT (Nat.blt (0 + j) 2) (putT 0 0 z2 (putT 1 0 z3 fun x => nthT [.sc z7]) (0 + (0 + (0 + j))) k) (encL l (0 + (0 + j - 2)) k)) (putT 0 0 z4 (putT 1 0 z6 (putT 2 0 z9 (putT 3 0 z5 fun x => nthT [.sc z7]))) (0 + (j - z8)) k))]))))))))) [.sc (.int .u8 (IntKind.wrap .u8 (Int.tmod (IntKind.wrap .u64 (Int.tdiv z12 (256 : Int))) (256 : Int))))] [.sc (.int .u8 (IntKind.wrap .u8 (Int.tmod z12 (256 : Int))))])) [.sc (.int .u8 (IntKind.wrap .u8 (Int.tmod z1 (256 : Int))))] (IntKind.wrap .u64 (Int.tdiv z1 (256 : Int))))) (IntKind.wrap .u64 (Int.tdiv z10 (256 : Int))) [.sc (.int .u8 (IntKind.wrap .u8 (Int.tmod z10 (256 : Int))))])) (IntKind.wrap .u64 (Int.ofNat (refSum (natsU (listT U8 z0))))))) (.fr 1 z8 1 fun i k => mrgT (Nat.blt (0 + i) 2) (putT 0 0 z2 (putT 1 0 z3 fun x => nthT [.sc z7]) (0 + (0 + (0 + i))) k) (encL l (0 + (0 + i - 2)) k)))) [.sc (.int .u8 (IntKind.wrap .u8 (Int.tmod (IntKind.wrap .u64 (Int.tdiv z14 (256 : Int))) (256 : Int))))] [.sc (.int .u8 (IntKind.wrap .u8 (Int.tmod z14 (256 : Int))))])) (IntKind.wrap .u64 (Int.ofNat z11)) (.row .look 1 0 z11 (encL l)) (true && Nat.ble (0 + z8) z8))) (.int .u8 (0 : Int)) (2 + List.length l) l.length (2 + List.length l + 4) := by kernel_rfl
theorem mid_get {α : Type} (l : List α) {k n i : Nat} (h : k + n ≤ l.length) (hi : i < n) (d : α) : ((l.drop k).take n)[i]? = some (l.getD (k + i) d) := by
 rw [List.getElem?_take, if_pos hi, List.getElem?_drop]
 simp [List.getD, show k + i < l.length by omega]
theorem decL_mid {α : Type} [Enc α] (l : List α) {k n : Nat} (h : k + n ≤ l.length) : decL n (fun i => encL l (k + i)) = (l.drop k).take n := by
 apply List.ext_getElem?
 intro i
 unfold decL
 rw [List.getElem?_map]
 rcases Nat.lt_or_ge i n with hi | hi
 ·rw [List.getElem?_range hi, mid_get l h hi Enc.dflt]
  simp only [Option.map_some]
  have : Enc.dec (encL l (k + i)) = l.getD (k + i) Enc.dflt := Enc.back _
  rw [this]
 ·rw [List.getElem?_eq_none (by simpa using hi), List.getElem?_eq_none (by simp; omega)]; rfl
theorem mid_len {α : Type} (l : List α) {k n : Nat} (h : k + n ≤ l.length) : ((l.drop k).take n).length = n := by simp; omega
theorem mid_all {l : List U8} (hl : l.all (okA U8) = true) (k n : Nat) : ((l.drop k).take n).all (okA U8) = true := by
 rw [List.all_eq_true] at hl ⊢
 exact fun x hx => hl x (List.mem_of_mem_drop (List.mem_of_mem_take hx))
theorem listU_mid (l : List U8) {k n : Nat} (c : Nat) (h : k + n ≤ l.length) : listT U8 (Td.fr 1 n c fun i => encL l (k + i)) = (l.drop k).take n := decL_mid l h
theorem okT_mid {l : List U8} (hl : l.all (okA U8) = true) {k n c : Nat} (h : k + n ≤ l.length) (hn : n ≤ 1000000) (hc : c ≤ 1) : okT U8 (Td.fr 1 n c fun i => encL l (k + i)) = true := by
 simp only [okT, Bool.or_eq_true, Bool.and_eq_true]
 refine .inl ⟨⟨⟨Nat.beq_refl _, okL_of fun i hi => ?_⟩, Nat.ble_eq_true_of_le hc⟩, Nat.ble_eq_true_of_le hn⟩
 exact (okU_iff _).2 (all_getU hl (by omega))
def strU (l : List U8) : ByteArray := ⟨(l.map fun b => UInt8.ofNat b.v.toNat).toArray⟩
theorem strOf_mid (l : List U8) {k n : Nat} (h : k + n ≤ l.length) : strOf n (fun j => encL l (k + j)) = strU ((l.drop k).take n) := by
 unfold strOf strU
 congr 2
 apply List.ext_getElem?
 intro i
 rw [List.getElem?_map, List.getElem?_map]
 rcases Nat.lt_or_ge i n with hi | hi
 ·rw [List.getElem?_range hi, mid_get l h hi Enc.dflt]; rfl
 ·rw [List.getElem?_eq_none (by simpa using hi), List.getElem?_eq_none (by simp; omega)]; rfl
theorem strU_inj {l m : List U8} (hl : l.all (okA U8) = true) (hm : m.all (okA U8) = true) : strU l = strU m ↔ l = m := by
 constructor
 ·intro h
  unfold strU at h
  have h1 : (l.map fun b => UInt8.ofNat b.v.toNat) = m.map fun b => UInt8.ofNat b.v.toNat := by
   have := congrArg ByteArray.data h
   simpa using this
  have hlen : l.length = m.length := by
   have := congrArg List.length h1
   simpa using this
  apply List.ext_getElem hlen
  intro i h2 h3
  have h4 := congrArg (fun q => q[i]?) h1
  simp only [List.getElem?_map, List.getElem?_eq_getElem h2, List.getElem?_eq_getElem h3, Option.map_some, Option.some.injEq] at h4
  have a1 := all_getU hl h2
  have a2 := all_getU hm h3
  simp only [List.getD, List.getElem?_eq_getElem h2, List.getElem?_eq_getElem h3, Option.getD_some] at a1 a2
  have h5 := congrArg UInt8.toNat h4
  simp only [UInt8.toNat_ofNat'] at h5
  exact u8_ext (by omega)
 ·intro h; rw [h]
theorem allB_mid (l : List U8) (n k : Nat) : allB n (fun j => encL l (k + j)) = true := by
 unfold allB
 rw [List.all_eq_true]
 exact fun _ _ => rfl
theorem allB_all (l : List U8) (n : Nat) : allB n (encL l) = true := by
 unfold allB
 rw [List.all_eq_true]
 exact fun _ _ => rfl
def byU (n : Nat) : U8 := ⟨((n % 256 : Nat) : Int)⟩
theorem byU_ok (n : Nat) : okA U8 (byU n) = true := (okU_iff _).2 ⟨by simp [byU]; omega, by simp [byU]; omega⟩
def num2 (n : Nat) : List U8 := [byU (n / 256), byU n]
def num4 (n : Nat) : List U8 := [byU (n / 16777216), byU (n / 65536), byU (n / 256), byU n]
theorem num2_ok (n : Nat) : (num2 n).all (okA U8) = true := by simp [num2, byU_ok]
theorem num4_ok (n : Nat) : (num4 n).all (okA U8) = true := by simp [num4, byU_ok]
def headU (l : List U8) : List U8 := num2 l.length ++ l
def sumU (l : List U8) : Nat := refSum (natsU l)
def frameU (l : List U8) : List U8 := headU l ++ num4 (sumU (headU l))
theorem headU_len (l : List U8) : (headU l).length = 2 + l.length := by simp [headU, num2]; omega
theorem frameU_len (l : List U8) : (frameU l).length = l.length + 6 := by simp [frameU, headU_len, num4]; omega
theorem headU_ok {l : List U8} (h : l.all (okA U8) = true) : (headU l).all (okA U8) = true := by
 unfold headU; rw [List.all_append, h, num2_ok]; rfl
theorem frameU_ok {l : List U8} (h : l.all (okA U8) = true) : (frameU l).all (okA U8) = true := by
 unfold frameU; rw [List.all_append, headU_ok h, num4_ok]; rfl
theorem wrap8 (n : Nat) : IntKind.wrap .u8 (n : Int) = ((n % 256 : Nat) : Int) := by
 unfold IntKind.wrap
 simp [IntKind.signed, IntKind.bits]
theorem wrap32 {n : Nat} (h : n < 4294967296) : IntKind.wrap .u32 (n : Int) = n := by
 unfold IntKind.wrap
 simp [IntKind.signed, IntKind.bits]
 omega
theorem wrap64u {n : Nat} (h : n < 18446744073709551616) : IntKind.wrap .u64 (n : Int) = n := by
 unfold IntKind.wrap
 simp [IntKind.signed, IntKind.bits]
 omega
theorem fdivN (n k : Nat) : Int.fdiv (n : Int) (k : Int) = ((n / k : Nat) : Int) := (Int.ofNat_fdiv n k).symm
theorem by_fdiv (n k : Nat) : IntKind.wrap .u8 (Int.fdiv (n : Int) (k : Int)) = (byU (n / k)).v := by
 rw [fdivN, wrap8]; rfl
theorem refSum_lt (l : List Nat) (hb : ∀ i, i < l.length → l.getD i 0 < 256) : refSum l < 4294967296 := by
 have := refFold_lt l hb l.length (Nat.le_refl _)
 rw [List.take_length] at this
 unfold refSum
 exact Nat.xor_lt_two_pow (n := 32) (by omega) this
theorem sumU_lt {l : List U8} (h : l.all (okA U8) = true) : sumU l < 4294967296 := refSum_lt _ fun i hi => by
 rw [natsU_len] at hi
 rw [natsU_get hi]
 have := all_getU h hi
 omega
def isU (t : Td) : Prop := ∃ v : Int, t = .sc (.int .u8 v)
theorem mrgU {t u : Td} (ht : isU t) (hu : isU u) : mrgT true t u = t ∧ mrgT false t u = u ∧ ∀ b, isU (mrgT b t u) := by
 obtain ⟨v, rfl⟩ := ht
 obtain ⟨v', rfl⟩ := hu
 exact ⟨rfl, rfl, fun b => ⟨cond b v v', rfl⟩⟩
structure RowU (e : Nat → Nat → Td) (n : Nat) (L : List U8) : Prop where
 len : n = L.length
 at_ : ∀ i, i < n → e i 0 = encL L i 0
 u : ∀ i, isU (e i 0)
theorem RowU.enc (L : List U8) : RowU (encL L) L.length L := ⟨rfl, fun _ _ => rfl, fun i => ⟨_, rfl⟩⟩
theorem RowU.zero (n : Nat) : RowU (fun _ k => nthT [.sc (.int .u8 0)] k) n (List.replicate n ⟨0⟩) := ⟨by simp, fun i hi => by simp [encL, List.getD, hi]; rfl, fun i => ⟨0, rfl⟩⟩
theorem RowU.sel2 (v0 v1 : Int) : RowU (fun i k => selT 1 (1 + 1) [.sc (.int .u8 v0), .sc (.int .u8 v1)] i k) (1 + 1) [⟨v0⟩, ⟨v1⟩] := ⟨rfl, fun i hi => match i, hi with
 | 0, _ => rfl
 | 1, _ => rfl, fun i => ⟨_, rfl⟩⟩
theorem RowU.sel4 (v0 v1 v2 v3 : Int) : RowU (fun i k => selT 1 (1 + 1 + 1 + 1) [.sc (.int .u8 v0), .sc (.int .u8 v1), .sc (.int .u8 v2), .sc (.int .u8 v3)] i k) (1 + 1 + 1 + 1) [⟨v0⟩, ⟨v1⟩, ⟨v2⟩, ⟨v3⟩] := ⟨rfl, fun i hi => match i, hi with
 | 0, _ => rfl
 | 1, _ => rfl
 | 2, _ => rfl
 | 3, _ => rfl, fun i => ⟨_, rfl⟩⟩
theorem RowU.app {e1 e2 : Nat → Nat → Td} {n1 n2 : Nat} {L1 L2 : List U8} (h1 : RowU e1 n1 L1) (h2 : RowU e2 n2 L2) : RowU (fun i k => mrgT (Nat.blt i n1) (e1 i k) (e2 (i - n1) k)) (n1 + n2) (L1 ++ L2) := by
 refine ⟨by rw [h1.len, h2.len, List.length_append], fun i hi => ?_, fun i => (mrgU (h1.u i) (h2.u _)).2.2 _⟩
 have hu := mrgU (h1.u i) (h2.u (i - n1))
 by_cases hil : i < n1
 ·have hb : Nat.blt i n1 = true := by simpa using hil
  show mrgT (Nat.blt i n1) _ _ = _
  rw [hb, hu.1, h1.at_ i hil, encL_app_lt _ _ (by rw [← h1.len]; exact hil)]
 ·show mrgT (Nat.blt i n1) _ _ = _
  rw [blt_false hil, hu.2.1, h2.at_ _ (by omega), encL_app_ge _ _ (by rw [← h1.len]; omega), ← h1.len]
theorem RowU.sub {e : Nat → Nat → Td} {n k m : Nat} {L : List U8} (h : RowU e n L) (hk : k + m ≤ n) : RowU (fun i => e (k + i)) m ((L.drop k).take m) := by
 have hl := h.len
 refine ⟨by simp; omega, fun i hi => ?_, fun i => h.u _⟩
 show e (k + i) 0 = _
 rw [h.at_ _ (by omega)]
 show Enc.enc (L.getD (k + i) Enc.dflt) 0 = Enc.enc (((L.drop k).take m).getD i Enc.dflt) 0
 have := mid_get L (k := k) (n := m) (i := i) (by omega) hi Enc.dflt
 simp only [List.getD] at this ⊢
 rw [this]; rfl
theorem RowU.put {e : Nat → Nat → Td} {n i0 : Nat} {v : Int} {L : List U8} (h : RowU e n L) (hi : i0 < n) : RowU (putT i0 0 [.sc (.int .u8 v)] e) n (L.set i0 ⟨v⟩) := by
 have hl := h.len
 refine ⟨by simp [hl], fun i hi' => ?_, fun i => (mrgU ⟨v, rfl⟩ (h.u i)).2.2 _⟩
 have hu := mrgU (t := .sc (.int .u8 v)) ⟨v, rfl⟩ (h.u i)
 show mrgT (Nat.beq i i0) (.sc (.int .u8 v)) (e i 0) = Enc.enc ((L.set i0 ⟨v⟩).getD i Enc.dflt) 0
 by_cases hii : i = i0
 ·subst hii
  rw [Nat.beq_refl, hu.1]
  have : (L.set i ⟨v⟩).getD i Enc.dflt = ⟨v⟩ := by simp [List.getD, show i < L.length by omega]
  rw [this]; rfl
 ·rw [beq_false hii, hu.2.1, h.at_ i hi']
  have : (L.set i0 ⟨v⟩).getD i Enc.dflt = L.getD i Enc.dflt := by simp [List.getD, List.getElem?_set_ne (Ne.symm hii)]
  rw [this]; rfl
theorem RowU.to {e : Nat → Nat → Td} {n m : Nat} {L M : List U8} (h : RowU e n L) (hn : m = n) (hL : L = M) : RowU e m M := by subst hn hL; exact h
theorem RowU.list {e : Nat → Nat → Td} {n c : Nat} {L : List U8} (h : RowU e n L) : listT U8 (Td.fr 1 n c e) = L := by
 have hl := h.len
 subst hl
 show decL L.length e = L
 rw [decL_congr (e' := encL L) fun i hi => by show u8D (e i) = u8D (encL L i); unfold u8D; rw [h.at_ i hi]]
 exact decL_encL L
theorem RowU.okT {e : Nat → Nat → Td} {n c : Nat} {L : List U8} (h : RowU e n L) (hok : L.all (okA U8) = true) (hn : n ≤ 1000000) (hc : c ≤ 1) : Ev.okT U8 (Td.fr 1 n c e) = true := by
 have hl := h.len
 subst hl
 simp only [Ev.okT, Bool.or_eq_true, Bool.and_eq_true]
 refine .inl ⟨⟨⟨Nat.beq_refl _, ?_⟩, Nat.ble_eq_true_of_le hc⟩, Nat.ble_eq_true_of_le hn⟩
 rw [okL_congr (e' := encL L) fun i hi => by show u8Ok (e i) = u8Ok (encL L i); unfold u8Ok; rw [h.at_ i hi]]
 exact okL_encL hok
theorem RowU.ok1 {e : Nat → Nat → Td} {n c : Nat} {L : List U8} (h : RowU e n L) (hok : L.all (okA U8) = true) (hn : n ≤ 1000000) (hc : c ≤ 1) : Ev.ok1 U8 (fun l _ => l.all (okA U8)) [Ta.cell (Td.fr 1 n c e)] = true := by
 show (Ev.okT U8 _ && (listT U8 _).all (okA U8)) = true
 rw [h.okT hok hn hc, h.list, hok]; rfl
theorem RowU.obj {e : Nat → Nat → Td} {n : Nat} {L : List U8} (h : RowU e n L) {k : Rk} (ρ : Rho) (s : Spot) (w : World) (ho : ObjR ρ (.row k 1 0 n e) s w) : ObjR ρ (rowO k L) s w := by
 have hl := h.len
 subst hl
 refine ho.row_TR rfl fun i _ hi j hj F y ht => ?_
 have hj : j < 1 := hj
 have : j = 0 := by omega
 subst this
 rw [h.at_ i hi] at ht
 exact ht
theorem RowU.allB {e : Nat → Nat → Td} {n m : Nat} {L : List U8} (h : RowU e n L) : Ev.allB m e = true := by
 unfold Ev.allB
 rw [List.all_eq_true]
 intro i _
 obtain ⟨v, hv⟩ := h.u i
 rw [hv]; rfl
theorem RowU.leaf {e : Nat → Nat → Td} {n k : Nat} {L : List U8} {l : List (Option AObj)} (h : RowU e n L) (hl : l[k]? = some (some (.row .mine 1 0 n e))) : objsR l (atL l.length k (rowO .mine L)) := outAt hl rfl h.obj
end Go.Proofs.YtachglcffimmeaaGreat.Ev
end
section
-- PUT{
-- }PUT
namespace Go.Proofs.YtachglcffimmeaaGreat.Ev
open Go Go.Proofs Go.RowKit
def putL (l : List U8) : List U8 := if 200 < l.length then [] else frameU l
def putA (l : List U8) (_ : Nat) : Ans := .rets [.cell (ownL (putL l) 1), .cell (.sc (.bool (decide (l.length ≤ 200))))]
theorem md (n : Nat) : IntKind.wrap .u8 (Int.tmod (n : Int) 256) = (byU n).v := by
 have : Int.tmod (n : Int) 256 = ((n % 256 : Nat) : Int) := (Int.ofNat_tmod n 256).symm
 rw [this, wrap8, Nat.mod_mod]; rfl
theorem dv {n : Nat} (h : n < 4294967296) : IntKind.wrap .u64 (Int.tdiv (n : Int) 256) = ((n / 256 : Nat) : Int) := by
 have : Int.tdiv (n : Int) 256 = ((n / 256 : Nat) : Int) := (Int.ofNat_tdiv n 256).symm
 rw [this]; exact wrap64u (by omega)
theorem dv3 (n : Nat) : n / 256 / 256 / 256 = n / 16777216 := by omega
theorem dv2 (n : Nat) : n / 256 / 256 = n / 65536 := by omega
theorem fd1 (n : Nat) : IntKind.wrap .u8 (Int.fdiv (n : Int) 1) = (byU n).v := by
 have := by_fdiv n 1
 rw [Nat.div_one] at this; exact this
theorem fd256 (n : Nat) : IntKind.wrap .u8 (Int.fdiv (n : Int) 256) = (byU (n / 256)).v := by_fdiv n 256
theorem fd65 (n : Nat) : IntKind.wrap .u8 (Int.fdiv (n : Int) 65536) = (byU (n / 65536)).v := by_fdiv n 65536
theorem fd16 (n : Nat) : IntKind.wrap .u8 (Int.fdiv (n : Int) 16777216) = (byU (n / 16777216)).v := by_fdiv n 16777216
theorem put_leaf {l : List U8} {m : List (Option AObj)} {k n c0 : Nat} {e : Nat → Nat → Td} (h2 : l.length ≤ 200) (hR : RowU e n (frameU l)) (hk : m[k]? = some (some (.row .mine 1 0 n e))) :
  ∃ m2, objsR m m2 ∧ ansE (putA l 0) (.returned (.tuple ⟨[.slice (some ⟨k, 0, some 0⟩) n c0, .bool true]⟩)) (mkS m2) := by
 have hkl := (List.getElem?_eq_some_iff.1 hk).1
 have hn := hR.len
 rw [frameU_len] at hn
 refine ⟨_, hR.leaf hk, ⟨_, [k], rfl, ⟨[k], [], rfl, ?_, [], [], rfl, ⟨rfl, ?_, rfl⟩, rfl⟩, by simp⟩⟩
 ·rw [show putL l = frameU l by unfold putL; rw [if_neg (by omega)]]
  exact own_at hkl hR.len (fun h => by omega)
 ·rw [decide_eq_true h2]
theorem put_none {l : List U8} {m : List (Option AObj)} (h2 : ¬ l.length ≤ 200) :
  ∃ m2, objsR m m2 ∧ ansE (putA l 0) (.returned (.tuple ⟨[.slice none 0 0, .bool false]⟩)) (mkS m2) := by
 refine ⟨_, objsR.refl _, ⟨_, [], rfl, ⟨[], [], rfl, ?_, [], [], rfl, ⟨rfl, ?_, rfl⟩, rfl⟩, by simp⟩⟩
 ·rw [show putL l = [] by unfold putL; rw [if_pos (by omega)]]
  exact .inl ⟨rfl, rfl, rfl, rfl⟩
 ·rw [decide_eq_false h2]
theorem told1' {g : FuncId} {p : List U8 → Nat → Bool} {A : List U8 → Nat → Ans}
  (h : ∀ (l : List U8) (c : Nat), l.length ≤ 1000000 → c ≤ 1 → p l c = true → ∃ (C : Told) (fuel n : Nat) (un : Nat → Nat) (lvs : Nat → List Nat) (ex : Nat → Kt → Prop), ToldS Tryz.prog C ∧ ∀ β : Bs, β.X.length = 1 → lawE Tryz.prog C fuel n β un (cnOf 1 lvs) ex g [.slice (some ⟨0, 0, some 0⟩) l.length c] (mkS [some (rowO .look l)]) (outR (ansE (A l c)))) : ToldW Tryz.prog g (ok1 U8 p) (ans1 U8 A) := by
 intro ts hok w args' F hF ha
 unfold ok1 at hok
 split at hok
 ·rename_i t
  simp only [Bool.and_eq_true] at hok
  obtain ⟨h1, h2⟩ := okT_len hok.1
  obtain ⟨y, m, e, hy, hm'⟩ := ha.uncons
  have := hm'.nil_inv
  subst this
  have ha' : PW (TaR w F) [.cell (tdL (listT U8 t) (nilT t))] args'.toList := by rw [e]; exact PW.cons (okT_TRo hok.1 hy) (PW.nil _)
  exact toldW_out (ts := [.cell (tdL (listT U8 t) (nilT t))]) follows (h _ _ h1 h2 hok.2) w args' F hF ha'
 ·cases hok
theorem putr_told : ToldW Tryz.prog 14 (ok1 U8 fun l _ => l.all (okA U8)) (ans1 U8 putA) := by
 refine told1' fun l c hl hc hok => ⟨toldE, 100, 20, fun _ => 8, fun _ => [], fun _ _ => False, toldE_ok, fun β hβ => ?_⟩
 show lawE _ _ _ _ _ _ _ _ _ _ _ (outK fun r m => ∃ m2, objsR m m2 ∧ ansE (putA l 0) r (mkS m2))
 rw [vc_putr]
 refine br_of (fun q => put_none (by simp at q; omega)) (fun q => ?_)
 have h2 : l.length ≤ 200 := by simp at q; omega
 have e0 : IntKind.wrap .u64 (Int.ofNat l.length) = (l.length : Int) := wrap64u (by omega)
 have e1 := dv (n := l.length) (by omega)
 have hH := (((RowU.zero 2).put (v := (byU l.length).v) (i0 := 1) (by omega)).put (v := (byU (l.length / 256)).v) (i0 := 0) (by omega)).app (RowU.enc l)
 have hH := hH.to (m := 2 + l.length) (M := headU l) rfl rfl
 have hs := sumU_lt (headU_ok hok)
 have hsum : refSum (natsU (headU l)) = sumU (headU l) := rfl
 have l1 := hH.list (c := 1)
 have o1 := hH.ok1 (c := 1) (headU_ok hok) (by omega) (by omega)
 have s0 : IntKind.wrap .u64 (Int.ofNat (sumU (headU l))) = (sumU (headU l) : Int) := wrap64u (by omega)
 have s1 := dv (n := sumU (headU l)) hs
 have s2 := dv (n := sumU (headU l) / 256) (by omega)
 have s3 := dv (n := sumU (headU l) / 256 / 256) (by omega)
 have b1 : Nat.ble (2 + l.length) 1000000 = true := Nat.ble_eq_true_of_le (by omega)
 have b2 : Nat.ble (2 + l.length + 4) 1000000 = true := Nat.ble_eq_true_of_le (by omega)
 simp only [Nat.zero_add, bleS, Bool.true_and, need_t, e0, e1, md, o1, l1, hsum, s0, s1, s2, s3, b1, b2]
 refine put_leaf (k := 6) h2 ?_ rfl
 have hF := hH.app (((((RowU.zero 4).put (v := (byU (sumU (headU l))).v) (i0 := 3) (by omega)).put (v := (byU (sumU (headU l) / 256)).v) (i0 := 2) (by omega)).put (v := (byU (sumU (headU l) / 256 / 256)).v) (i0 := 1) (by omega)).put (v := (byU (sumU (headU l) / 256 / 256 / 256)).v) (i0 := 0) (by omega))
 exact hF.to rfl (by rw [dv3, dv2]; rfl)
-- PUT{
theorem put_told : ToldW Tryz.prog 51 (ok1 U8 fun l _ => l.all (okA U8)) (ans1 U8 putA) := by
 refine told1' fun l c hl hc hok => ⟨toldE, 100, 20, fun _ => 8, fun _ => [], fun _ _ => False, toldE_ok, fun β hβ => ?_⟩
 show lawE _ _ _ _ _ _ _ _ _ _ _ (outK fun r m => ∃ m2, objsR m m2 ∧ ansE (putA l 0) r (mkS m2))
 rw [vc_put]
 refine br_of (fun q => put_none (by simp at q; omega)) (fun q => ?_)
 have h2 : l.length ≤ 200 := by simp at q; omega
 have w1 : IntKind.wrap .i64 ((0 : Int) + Int.ofNat (1 + 1)) = 2 := by decide
 have w2 : IntKind.wrap .i64 ((2 : Int) + Int.ofNat l.length) = ((2 + l.length : Nat) : Int) := by
  rw [Int.ofNat_eq_natCast, w64 (by omega) (by omega)]; simp
 have w3 : IntKind.wrap .i64 (((2 + l.length : Nat) : Int) - 0) = ((2 + l.length : Nat) : Int) := by rw [Int.sub_zero]; exact w64 (by omega) (by omega)
 have w4 : IntKind.wrap .u32 (Int.ofNat l.length) = (l.length : Int) := wrap32 (by omega)
 have d1 : decide (((2 + l.length : Nat) : Int) < 0) = false := decide_eq_false (by omega)
 have d2 : decide (((2 + l.length : Nat) : Int) > 0) = true := decide_eq_true (by omega)
 have d3 : decide ((0 : Int) ≤ ((2 + l.length : Nat) : Int)) = true := decide_eq_true (by omega)
 have t1 : Int.toNat ((2 + l.length : Nat) : Int) = 2 + l.length := Int.toNat_natCast _
 have z1 : Nat.beq (2 + l.length) 0 = false := beq_false (by omega)
 have b1 : Nat.ble (2 + l.length) 1000000 = true := Nat.ble_eq_true_of_le (by omega)
 have b2 : Nat.ble (1 + 1 + l.length) 1000000 = true := Nat.ble_eq_true_of_le (by omega)
 have b3 : Nat.ble (1 + 1 + l.length + (1 + 1 + 1 + 1)) 1000000 = true := Nat.ble_eq_true_of_le (by omega)
 have hs := sumU_lt (headU_ok hok)
 have hsum : refSum (natsU (headU l)) = sumU (headU l) := rfl
 have hH := (((RowU.zero (2 + l.length)).sub (k := 0) (m := 0) (by omega)).app (RowU.sel2 (byU (l.length / 256)).v (byU l.length).v)).app (RowU.enc l)
 have hH := hH.to (m := 1 + 1 + l.length) (M := headU l) (by omega) rfl
 have l1 := hH.list (c := 0)
 have o1 := hH.ok1 (c := 0) (headU_ok hok) (by omega) (by omega)
 have s0 : Int.ofNat (sumU (headU l)) = ((sumU (headU l) : Nat) : Int) := rfl
 simp only [Nat.zero_add, Nat.sub_zero] at l1 o1
 simp only [w1, w2, w3, w4, d1, d2, d3, t1, z1, b1, br_t, br_f, need_t, cond_false, Nat.zero_add, Nat.sub_zero, bleS, Bool.true_and, b2, b3, fd1, fd256, o1, l1, hsum, s0, fd65, fd16]
 refine put_leaf (k := 18) h2 ?_ rfl
 have hF := hH.app (RowU.sel4 (byU (sumU (headU l) / 16777216)).v (byU (sumU (headU l) / 65536)).v (byU (sumU (headU l) / 256)).v (byU (sumU (headU l))).v)
 have hF := hF.to (m := 1 + 1 + l.length + (1 + 1 + 1 + 1)) (M := frameU l) rfl rfl
 simp only [Nat.zero_add, Nat.sub_zero] at hF
 exact hF
-- }PUT
-- PUT{
def toldP : Told := (toldE.tree 51 (ok1 U8 fun l _ => l.all (okA U8)) (ans1 U8 putA)).tree 14 (ok1 U8 fun l _ => l.all (okA U8)) (ans1 U8 putA)
theorem toldP_ok : ToldS Tryz.prog toldP := Told.tree_ok (Told.tree_ok toldE_ok put_told) putr_told
-- }PUT
end Go.Proofs.YtachglcffimmeaaGreat.Ev
end
section
namespace Go.Proofs.YtachglcffimmeaaGreat.Ev
open Go Go.Proofs Go.RowKit
theorem vc_take (l : List U8) (c : Nat) (β : Bs) (K : AE → List (Option AObj) → Prop) : lawE Tryz.prog toldP 100 20 β (fun _ => 8) (cnOf 1 fun _ => []) (fun _ _ => False) 85 [.slice (some ⟨0, 0, some 0⟩) l.length c] (mkS [some (rowO .look l)]) (outK K) =
 (fun (z7 : Int) (z11 : Nat) (z13 z22 z26 : AObj) (z15 : AE) => ((fun (z0 : Int) (z16 : AObj) => ((fun (z4 : Prop) (z6 z31 : Int) => ((fun (z2 : Int) (z3 : Nat) (z9 : Bool) => ((fun (z18 : Bool) (z24 z32 : Nat) (z25 : Td) => ((fun (z1 : Int) (z17 : Td) => ((fun (z8 z10 z12 z14 : Int) => ((fun (z19 z20 z21 z23 : Int) => ((fun (z5 z27 z28 z29 z30 : AObj) => (br (decide (Int.ofNat z11 < (2 : Int))) z4 (need (Nat.ble 2 z11) (need (true && Nat.blt 0 z11) (need (true && Nat.blt 1 z11) (br (decide (IntKind.wrap .i64 z7 > (200 : Int))) (K z15 [some z16, some z22, some z13, some z26]) (br (decide (Int.ofNat z11 < IntKind.wrap .i64 z0)) z4 (need (decide ((0 : Int) ≤ IntKind.wrap .i64 z0)) (need (Nat.ble (Int.toNat z6) z11) (need z9 (need z18 (need (true && Nat.ble (0 + (Int.toNat z2 - 0)) z11) (need (ok1 U8 (fun l x => List.all l (okA U8)) [Ta.cell z25]) (need z9 (need z18 (need (Nat.ble 0 (0 + Int.toNat z2) && Nat.ble (0 + Int.toNat z2 + z32) z11) (need (ok2 U8 U8 (fun x x_1 x_2 x_3 => true) [Ta.cell (.fr 1 (1 + 1 + 1 + 1) 0 (selT 1 (1 + 1 + 1 + 1) [.sc (.int .u8 z23), .sc (.int .u8 z19), .sc (.int .u8 z20), .sc (.int .u8 z21)])), Ta.cell z17]) (br (!sameU [U8.mk (bif true then IntKind.wrap .u8 z8 else bif true then IntKind.wrap .u8 z10 else bif true then IntKind.wrap .u8 z12 else IntKind.wrap .u8 z14), U8.mk (bif false then IntKind.wrap .u8 z8 else bif true then IntKind.wrap .u8 z10 else bif true then IntKind.wrap .u8 z12 else IntKind.wrap .u8 z14), U8.mk (bif false then IntKind.wrap .u8 z8 else bif false then IntKind.wrap .u8 z10 else bif true then IntKind.wrap .u8 z12 else IntKind.wrap .u8 z14), U8.mk (bif false then IntKind.wrap .u8 z8 else bif false then IntKind.wrap .u8 z10 else bif false then IntKind.wrap .u8 z12 else IntKind.wrap .u8 z14)] (listT U8 z17)) (K z15 [some z16, some z22, some z13, some z26, none, some z27, none, some z28, none, some z29, none, some z30, some z5, none]) (need z9 (need z18 (need (Nat.ble 2 (Int.toNat z2)) (need (true && Nat.ble (2 + z24) z11) (need (okC 1 [Ta.cell (.fr 1 z24 z3 fun i => encL l (2 + i))]) (K (.returned (Value.tuple (Array.mk [.slice (some ⟨15, 0, some 0⟩) z24 z3, .int .i64 z6, .int .i64 (0 : Int)]))) [some z16, some (.cells [.slice (some ⟨15, 0, some 0⟩) z24 z3] true 0), some (.cells [.int .i64 z6] true 0), some z13, none, some z27, none, some z28, none, some z29, none, some z30, some z5, none, none, some (.row .mine 1 0 z24 fun i => encL l (2 + i))])))))))))))))))))))))))) (.cells [.int .u8 z23, .int .u8 z19, .int .u8 z20, .int .u8 z21] false 1) (.cells [.int .u8 z23] true 1) (.cells [.int .u8 z19] true 1) (.cells [.int .u8 z20] true 1) (.cells [.int .u8 z21] true 1))) (IntKind.wrap .u8 z10) (IntKind.wrap .u8 z12) (IntKind.wrap .u8 z14) (IntKind.wrap .u8 z8))) (Int.fdiv z1 (16777216 : Int)) (Int.fdiv z1 (65536 : Int)) (Int.fdiv z1 (256 : Int)) (Int.fdiv z1 (1 : Int)))) (Int.ofNat (refSum (natsU (listT U8 z25)))) (.fr 1 z32 z3 fun i => encL l (0 + Int.toNat z2 + i)))) (Nat.ble (Int.toNat z2) (Int.toNat z6 - 0)) (Int.toNat z2 - 2) (Int.toNat z6 - 0 - Int.toNat z2) (.fr 1 (Int.toNat z2 - 0) z3 fun i => encL l (0 + i)))) (IntKind.wrap .i64 z31) (bif Nat.beq (Int.toNat z6 - 0) 0 then bif Nat.beq z11 0 then c else 0 else 0) (decide ((0 : Int) ≤ IntKind.wrap .i64 z31)))) (K (.returned (Value.tuple (Array.mk [.slice none 0 0, .int .i64 (0 : Int), .int .i64 (11 : Int)]))) [some z16, some z22, some z13, some (.cells [.int .i64 (11 : Int)] true 0)]) (IntKind.wrap .i64 z0) (IntKind.wrap .i64 z0 - (4 : Int)))) (IntKind.wrap .i64 ((2 : Int) + IntKind.wrap .i64 z7) + (4 : Int)) (.row .look 1 0 z11 (encL l)))) (Int.ofNat (BitVec.toNat (BitVec.ofInt 64 (IntKind.wrap .i64 (IntKind.wrap .i64 (U8.v (List.getD l 0 Enc.dflt)) * (256 : Int))) ||| BitVec.ofInt 64 (IntKind.wrap .i64 (U8.v (List.getD l 1 Enc.dflt)))))) l.length (.cells [.int .i64 (0 : Int)] true 0) (.cells [.slice none 0 0] true 0) (.cells [.int .i64 (2 : Int)] true 0) (.returned (Value.tuple (Array.mk [.slice none 0 0, .int .i64 (0 : Int),
 .int .i64 (2 : Int)]))) := by kernel_rfl
theorem vc_taker (l : List U8) (c : Nat) (β : Bs) (K : AE → List (Option AObj) → Prop) : lawE Tryz.prog toldP 100 20 β (fun _ => 8) (cnOf 1 fun _ => []) (fun _ _ => False) 10 [.slice (some ⟨0, 0, some 0⟩) l.length c] (mkS [some (rowO .look l)]) (outK K) =
 (fun (z4 : Nat) (z6 : AE) (z11 z12 : Int) => ((fun (z1 z3 : Int) (z8 : AObj) => ((fun (z0 z7 : Int) (z5 : Prop) (z14 : Bool) => ((fun (z9 z16 : Nat) (z18 z19 : Bool) => ((fun (z10 : Td) (z17 : Bool) => ((fun (z2 : List U8) => ((fun (z13 : Nat) => ((fun (z15 : AObj) => (br (decide (Int.ofNat z4 < (2 : Int))) z5 (need (Nat.blt 0 z4) (need (true && Nat.blt 0 z4) (need (Nat.blt 1 z4) (need (true && Nat.blt 1 z4) (br (decide (IntKind.wrap .i64 (IntKind.wrap .i64 (IntKind.wrap .i64 z11 * (256 : Int)) + IntKind.wrap .i64 z12) > (200 : Int))) (K z6 [some z8]) (br (decide (Int.ofNat z4 < IntKind.wrap .i64 z1)) z5 (need z14 (need z18 (need z19 (need z17 (need (ok1 U8 (fun l x => List.all l (okA U8)) [Ta.cell z10]) (need (true && Nat.ble (0 + List.length z2) z13) (need (allB z13 fun j => encL z2 (0 + j)) (need (decide ((0 : Int) ≤ IntKind.wrap .i64 z1)) (need (Nat.ble (Int.toNat z7) z4) (need (true && Nat.ble (0 + z16) z4) (need (allB z16 fun j => encL l (0 + j)) (br (!List.map (fun j => byteF (encL z2 (0 + j) 0)) (List.range z13) == List.map (fun j => byteF (encL l (0 + j) 0)) (List.range z16)) (K z6 [some z8, none, some z15]) (need z14 (need z18 (need z19 (need z17 (need (Nat.ble (0 + z9) 1000000) (K (.returned (Value.tuple (Array.mk [.slice (some ⟨4, 0, some 0⟩) z9 0, .int .i64 z7, .int .i64 (0 : Int)]))) [some z8, none, some z15, some (.cells [] true 1), some (.row .mine 1 0 z9 fun j => encL l (2 + j))])))))))))))))))))))))))))) (.row .mine 1 0 z13 (encL z2)))) z2.length)) (putL (listT U8 z10)))) (.fr 1 z9 (bif Nat.beq z4 0 then c else 0) fun i => encL l (2 + i)) (true && Nat.ble (2 + z9) z4))) (Int.toNat z0 - 2) (Int.toNat z7 - 0) (Nat.ble (Int.toNat z0) z4) (Nat.ble 2 (Int.toNat z0)))) (IntKind.wrap .i64 z3) (IntKind.wrap .i64 z1) (K (.returned (Value.tuple (Array.mk [.slice none 0 0, .int .i64 (0 : Int), .int .i64 (11 : Int)]))) [some z8]) (decide ((0 : Int) ≤ IntKind.wrap .i64 z3)))) (IntKind.wrap .i64 (IntKind.wrap .i64 (IntKind.wrap .i64 z11 * (256 : Int)) + IntKind.wrap .i64 z12) + (6 : Int)) ((2 : Int) + IntKind.wrap .i64 (IntKind.wrap .i64 (IntKind.wrap .i64 z11 * (256 : Int)) + IntKind.wrap .i64 z12)) (.row .look 1 0 z4 (encL l)))) l.length (.returned (Value.tuple (Array.mk [.slice none 0 0, .int .i64 (0 : Int), .int .i64 (2 : Int)]))) (U8.v (List.getD l 0 Enc.dflt)) (U8.v (List.getD l 1 Enc.dflt)) := by kernel_rfl
end Go.Proofs.YtachglcffimmeaaGreat.Ev
end
