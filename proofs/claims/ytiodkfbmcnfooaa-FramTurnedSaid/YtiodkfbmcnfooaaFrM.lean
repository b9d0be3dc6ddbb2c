/-
  Bytes as strings, parts of rows; frames as lists.
-/
import Derived.Test.YtiodkfbmcnfooaaEqU
set_option linter.unusedVariables false
set_option linter.unusedSimpArgs false
namespace Go.Proofs.Ytiodkfbmcnfooaa.Ev
open Go Go.Proofs Go.RowKit

theorem mid_get {α : Type} (l : List α) {k n i : Nat} (h : k + n ≤ l.length) (hi : i < n) (d : α) : ((l.drop k).take n)[i]? = some (l.getD (k + i) d) := by
  rw [List.getElem?_take, if_pos hi, List.getElem?_drop]
  simp [List.getD, show k + i < l.length by omega]
theorem decL_mid {α : Type} [Enc α] (l : List α) {k n : Nat} (h : k + n ≤ l.length) : decL n (fun i => encL l (k + i)) = (l.drop k).take n := by
  apply List.ext_getElem?
  intro i
  unfold decL
  rw [List.getElem?_map]
  rcases Nat.lt_or_ge i n with hi | hi
  · rw [List.getElem?_range hi, mid_get l h hi Enc.dflt]
    simp only [Option.map_some]
    have : Enc.dec (encL l (k + i)) = l.getD (k + i) Enc.dflt := Enc.back _
    rw [this]
  · rw [List.getElem?_eq_none (by simpa using hi), List.getElem?_eq_none (by simp; omega)]; rfl
theorem mid_len {α : Type} (l : List α) {k n : Nat} (h : k + n ≤ l.length) : ((l.drop k).take n).length = n := by simp; omega
theorem mid_all {l : List U8} (hl : l.all (okA U8) = true) (k n : Nat) : ((l.drop k).take n).all (okA U8) = true := by
  rw [List.all_eq_true] at hl ⊢
  exact fun x hx => hl x (List.mem_of_mem_drop (List.mem_of_mem_take hx))
theorem listU_mid (l : List U8) {k n : Nat} (c : Nat) (h : k + n ≤ l.length) : listT U8 (Td.fr 1 n c fun i => encL l (k + i)) = (l.drop k).take n := decL_mid l h
theorem okT_mid {l : List U8} (hl : l.all (okA U8) = true) {k n c : Nat} (h : k + n ≤ l.length) (hn : n ≤ 1000000) (hc : c ≤ 1) : okT U8 (Td.fr 1 n c fun i => encL l (k + i)) = true := by
  simp only [okT, Bool.or_eq_true, Bool.and_eq_true]
  refine .inl ⟨⟨⟨Nat.beq_refl _, okL_of fun i hi => ?_⟩, Nat.ble_eq_true_of_le hc⟩, Nat.ble_eq_true_of_le hn⟩
  exact (okU_iff _).2 (all_getU hl (by omega))
def strU (l : List U8) : ByteArray := ⟨(l.map fun b => UInt8.ofNat b.v.toNat).toArray⟩
theorem strOf_mid (l : List U8) {k n : Nat} (h : k + n ≤ l.length) : strOf n (fun j => encL l (k + j)) = strU ((l.drop k).take n) := by
  unfold strOf strU
  congr 2
  apply List.ext_getElem?
  intro i
  rw [List.getElem?_map, List.getElem?_map]
  rcases Nat.lt_or_ge i n with hi | hi
  · rw [List.getElem?_range hi, mid_get l h hi Enc.dflt]; rfl
  · rw [List.getElem?_eq_none (by simpa using hi), List.getElem?_eq_none (by simp; omega)]; rfl
theorem strOf_all (l : List U8) : strOf l.length (encL l) = strU l := by
  have := strOf_mid l (k := 0) (n := l.length) (by omega)
  simp only [Nat.zero_add, List.drop_zero, List.take_length] at this
  exact this
theorem strU_inj {l m : List U8} (hl : l.all (okA U8) = true) (hm : m.all (okA U8) = true) : strU l = strU m ↔ l = m := by
  constructor
  · intro h
    unfold strU at h
    have h1 : (l.map fun b => UInt8.ofNat b.v.toNat) = m.map fun b => UInt8.ofNat b.v.toNat := by
      have := congrArg ByteArray.data h
      simpa using this
    have hlen : l.length = m.length := by
      have := congrArg List.length h1
      simpa using this
    apply List.ext_getElem hlen
    intro i h2 h3
    have h4 := congrArg (fun q => q[i]?) h1
    simp only [List.getElem?_map, List.getElem?_eq_getElem h2, List.getElem?_eq_getElem h3, Option.map_some, Option.some.injEq] at h4
    have a1 := all_getU hl h2
    have a2 := all_getU hm h3
    simp only [List.getD, List.getElem?_eq_getElem h2, List.getElem?_eq_getElem h3, Option.getD_some] at a1 a2
    have h5 := congrArg UInt8.toNat h4
    simp only [UInt8.toNat_ofNat'] at h5
    exact u8_ext (by omega)
  · intro h; rw [h]
theorem allB_mid (l : List U8) (n k : Nat) : allB n (fun j => encL l (k + j)) = true := by
  unfold allB
  rw [List.all_eq_true]
  exact fun _ _ => rfl
theorem allB_all (l : List U8) (n : Nat) : allB n (encL l) = true := by
  unfold allB
  rw [List.all_eq_true]
  exact fun _ _ => rfl
/-! ### frames -/
def byU (n : Nat) : U8 := ⟨((n % 256 : Nat) : Int)⟩
theorem byU_ok (n : Nat) : okA U8 (byU n) = true := (okU_iff _).2 ⟨by simp [byU]; omega, by simp [byU]; omega⟩
def num2 (n : Nat) : List U8 := [byU (n / 256), byU n]
def num4 (n : Nat) : List U8 := [byU (n / 16777216), byU (n / 65536), byU (n / 256), byU n]
theorem num2_ok (n : Nat) : (num2 n).all (okA U8) = true := by simp [num2, byU_ok]
theorem num4_ok (n : Nat) : (num4 n).all (okA U8) = true := by simp [num4, byU_ok]
def headU (l : List U8) : List U8 := num2 l.length ++ l
def sumU (l : List U8) : Nat := refSum (natsU l)
def frameU (l : List U8) : List U8 := headU l ++ num4 (sumU (headU l))
theorem headU_len (l : List U8) : (headU l).length = 2 + l.length := by simp [headU, num2]; omega
theorem frameU_len (l : List U8) : (frameU l).length = l.length + 6 := by simp [frameU, headU_len, num4]; omega
theorem headU_ok {l : List U8} (h : l.all (okA U8) = true) : (headU l).all (okA U8) = true := by
  unfold headU; rw [List.all_append, h, num2_ok]; rfl
theorem frameU_ok {l : List U8} (h : l.all (okA U8) = true) : (frameU l).all (okA U8) = true := by
  unfold frameU; rw [List.all_append, headU_ok h, num4_ok]; rfl
theorem wrap8 (n : Nat) : IntKind.wrap .u8 (n : Int) = ((n % 256 : Nat) : Int) := by
  unfold IntKind.wrap
  simp [IntKind.signed, IntKind.bits]
theorem wrap32 {n : Nat} (h : n < 4294967296) : IntKind.wrap .u32 (n : Int) = n := by
  unfold IntKind.wrap
  simp [IntKind.signed, IntKind.bits]
  omega
theorem wrap64u {n : Nat} (h : n < 18446744073709551616) : IntKind.wrap .u64 (n : Int) = n := by
  unfold IntKind.wrap
  simp [IntKind.signed, IntKind.bits]
  omega
theorem fdivN (n k : Nat) : Int.fdiv (n : Int) (k : Int) = ((n / k : Nat) : Int) := (Int.ofNat_fdiv n k).symm
theorem by_fdiv (n k : Nat) : IntKind.wrap .u8 (Int.fdiv (n : Int) (k : Int)) = (byU (n / k)).v := by
  rw [fdivN, wrap8]; rfl
theorem refSum_lt (l : List Nat) (hb : ∀ i, i < l.length → l.getD i 0 < 256) : refSum l < 4294967296 := by
  have := refFold_lt l hb l.length (Nat.le_refl _)
  rw [List.take_length] at this
  unfold refSum
  exact Nat.xor_lt_two_pow (n := 32) (by omega) this
theorem sumU_lt {l : List U8} (h : l.all (okA U8) = true) : sumU l < 4294967296 := refSum_lt _ fun i hi => by
  rw [natsU_len] at hi
  rw [natsU_get hi]
  have := all_getU h hi
  omega
end Go.Proofs.Ytiodkfbmcnfooaa.Ev
