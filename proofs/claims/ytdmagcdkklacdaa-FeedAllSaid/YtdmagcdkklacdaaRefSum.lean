/-
  The contract of annunciatorref16.Sum: bit by bit.
-/
import Derived.Test.YtdmagcdkklacdaaCrc
namespace Go.Proofs.Ytdmagcdkklacdaa
open Go.RowKit

def bitStep (c : Nat) : Nat := if c % 2 = 1 then (c / 2) ^^^ 3988292384 else c / 2
def bitN : Nat → Nat → Nat
  | 0, c => c
  | n + 1, c => bitStep (bitN n c)
theorem bitN_succ (n c : Nat) : bitN (n + 1) c = bitStep (bitN n c) := rfl
def refByte (c x : Nat) : Nat := bitN 8 (c ^^^ x)
def refSum (bs : List Nat) : Nat := 4294967295 ^^^ bs.foldl refByte 4294967295

theorem bitStep_lt (c : Nat) (h : c < 4294967296) : bitStep c < 4294967296 := by
  unfold bitStep
  split
  · exact Nat.xor_lt_two_pow (n := 32) (by omega) (by decide)
  · omega
theorem bitN_lt (n c : Nat) (h : c < 4294967296) : bitN n c < 4294967296 := by
  induction n with
  | zero => exact h
  | succ n ih => exact bitStep_lt _ ih
theorem refByte_lt (c x : Nat) (h : c < 4294967296) (hx : x < 256) : refByte c x < 4294967296 := bitN_lt _ _ (xor_lt _ _ h hx)
theorem refFold_lt (bs : List Nat) (hb : ∀ i, i < bs.length → bs.getD i 0 < 256) (k : Nat) (hk : k ≤ bs.length) : (bs.take k).foldl refByte 4294967295 < 4294967296 := by
  induction k with
  | zero => simp
  | succ k ih =>
    have hlt : k < bs.length := by omega
    have h := hb k hlt
    rw [List.take_succ_eq_append_getElem hlt, List.foldl_append]
    simp only [List.getD, List.getElem?_eq_getElem hlt, Option.getD_some] at h
    exact refByte_lt _ _ (ih (by omega)) h
theorem refFold_succ (bs : List Nat) (k : Nat) (hlt : k < bs.length) : (bs.take (k+1)).foldl refByte 4294967295 = refByte ((bs.take k).foldl refByte 4294967295) (bs.getD k 0) := by
  rw [List.take_succ_eq_append_getElem hlt, List.foldl_append]
  simp [List.getD, List.getElem?_eq_getElem hlt]
theorem bit_odd (c : Nat) (h : c < 4294967296) (ho : c % 2 = 1) : bits .xor .u32 ((c : Int) / 2) 3988292384 = (bitStep c : Nat) := by
  have h1 : ((c : Int) / 2) = ((c / 2 : Nat) : Int) := by simp
  have := u32_xor_nat (c / 2) 3988292384 (by omega) (by decide)
  rw [h1]
  simp only [bitStep, if_pos ho]
  simpa using this
theorem bit_even (c : Nat) (ho : ¬ c % 2 = 1) : (c : Int) / 2 = (bitStep c : Nat) := by
  simp only [bitStep, if_neg ho]
  simp

set_option maxHeartbeats 400000 in
theorem refSum_anyW (v : Value) (bs : List Nat) (w : World) (hv : BytesW w v bs) :
    Calls Try.prog 20 #[v] w fun e w' => e = .returned (.int .u32 (refSum bs : Nat)) ∧ w = w' := by
  obtain ⟨a, cap, rfl, hm, hb, hc⟩ := hv
  unfold maxLen at hm
  go_enter Try.func20, Try.ntmps20
  go_wp2
  go_loop [3, 4] (fun c i => ∃ k : Nat, k ≤ bs.length ∧ i = .int .i64 k ∧ c = .int .u32 ((bs.take k).foldl refByte 4294967295 : Nat)) (fun _ i => bs.length - (intOf i).toNat)
  case atStart => exact ⟨0, Nat.zero_le _, rfl, rfl⟩
  case round =>
    obtain ⟨k, hk, rfl, rfl⟩ := hrel
    by_cases hlt : k < bs.length
    · have hC := refFold_lt bs hb k hk
      have hX := hb k hlt
      obtain ⟨b, off, rfl, hbl, hcell⟩ := hc (by intro h; simp [h] at hlt)
      have hx := hcell k hlt
      have HS := Lib.hid (refFold_succ bs k hlt)
      clear hcell
      revert HS hC hX hx
      generalize (bs.take k).foldl refByte 4294967295 = C
      generalize bs.getD k 0 = x
      intro hC hX hx HS
      clear hb hc
      have q1 := xor_lt C x hC hX
      have e1 := u32_xor_nat C x hC (by omega)
      go_wp2
      go_loop [3, 5] (fun c j => ∃ n : Nat, n ≤ 8 ∧ j = .int .i64 n ∧ c = .int .u32 (bitN n (C ^^^ x) : Nat)) (fun _ j => 8 - (intOf j).toNat)
      case atStart => exact ⟨0, Nat.zero_le _, rfl, rfl⟩
      case round =>
        obtain ⟨n, hn, rfl, rfl⟩ := hrel
        have hD := bitN_lt n _ q1
        have HN := Lib.hid (bitN_succ n (C ^^^ x))
        by_cases hl8 : n < 8
        · revert HN hD
          generalize bitN n (C ^^^ x) = D
          intro hD HN
          by_cases ho : D % 2 = 1
          · have o1 : ((D : Int) % 2 == 1) = true := by rw [beq_iff_eq]; omega
            have o2 := bit_odd D hD ho
            go_wp2
            go_round
            case rel => exact ⟨n + 1, by omega, by go_num, by rw [HN.out]⟩
            case measure => simp [intOf]; omega
          · have o1 : ((D : Int) % 2 == 1) = false := by rw [beq_eq_false_iff_ne]; omega
            have o2 := bit_even D ho
            go_wp2
            go_round
            case rel => exact ⟨n + 1, by omega, by go_num, by rw [HN.out]⟩
            case measure => simp [intOf]; omega
        · obtain rfl : n = 8 := by omega
          go_wp2
          go_round
          case rel => exact ⟨k + 1, by omega, by go_num, by rw [HS.out]; rfl⟩
          case measure => simp [intOf]; omega
    · have e1 := not_walk _ (refFold_lt bs hb k hk)
      have hk2 : k = bs.length := by omega
      have HK := Lib.hid hk2
      clear hb hc hk2
      go_wp2
      go_ret
      exact ⟨ret_int (by simp only [HK.out, List.take_length]; rfl), rfl⟩

theorem refSum_any (v : Value) (bs : List Nat) (w : World) (hv : Bytes w v bs) :
    Calls Try.prog 20 #[v] w fun e w' => e = .returned (.int .u32 (refSum bs : Nat)) ∧ w = w' := refSum_anyW v bs w hv.weak

end Go.Proofs.Ytdmagcdkklacdaa
