/-
  The contracts of crc.table and crc.Sum: for every slice of bytes the sum is 'crcSum' of what it reads, and nothing that was there is changed.
-/
import Derived.Test.YtdmagcdkklacdaaBase
import Derived.Test.YtdmagcdkklacdaaCrcTab
namespace Go.Proofs.Ytdmagcdkklacdaa
open Go.RowKit

def tabL : List Nat := [0, 498536548, 997073096, 651767980, 1994146192, 1802195444, 1303535960, 1342533948, 3988292384, 4027552580, 3604390888, 3412177804, 2607071920, 2262029012, 2685067896, 3183342108]
def tab (i : Nat) : Nat := tabL.getD i 0
def nib (c : Nat) : Nat := (c / 16) ^^^ tab (c % 16)
def byteStep (c x : Nat) : Nat := nib (nib (c ^^^ x))
def crcRaw (bs : List Nat) : Nat := bs.foldl byteStep 4294967295
def crcSum (bs : List Nat) : Nat := 4294967295 ^^^ crcRaw bs

theorem tab_lt (i : Nat) : tab i < 4294967296 := by
  unfold tab
  by_cases h : i < 16
  · have : ∀ i : Fin 16, tabL.getD i.val 0 < 4294967296 := by decide
    exact this ⟨i, h⟩
  · simp [List.getD, List.getElem?_eq_none (l := tabL) (i := i) (by simp [tabL]; omega)]
theorem tab_key (i : Nat) (h : i < 16) : tabA[i]? = some (.int .u32 (tab i : Nat)) := by
  have key : tabA.toList = tabL.map (fun n => Value.int .u32 (n : Nat)) := rfl
  rw [← Array.getElem?_toList, key, List.getElem?_map]
  unfold tab
  have : i < tabL.length := by simpa [tabL] using h
  simp [List.getD, List.getElem?_eq_getElem this]
theorem nib_lt (c : Nat) (h : c < 4294967296) : nib c < 4294967296 := by
  unfold nib
  exact Nat.xor_lt_two_pow (n := 32) (by omega) (by have := tab_lt (c % 16); omega)
theorem xor_lt (c x : Nat) (h : c < 4294967296) (hx : x < 256) : c ^^^ x < 4294967296 := Nat.xor_lt_two_pow (n := 32) h (by omega)
theorem byteStep_lt (c x : Nat) (h : c < 4294967296) (hx : x < 256) : byteStep c x < 4294967296 := nib_lt _ (nib_lt _ (xor_lt _ _ h hx))
theorem and15 (n : Int) (h : 0 ≤ n) (h' : n < 4294967296) : bits .and .u32 n 15 = n % 16 := by
  obtain ⟨A, rfl⟩ := Int.eq_ofNat_of_zero_le h
  have h2 := Nat.and_two_pow_sub_one_eq_mod A 4
  simp at h2
  have h3 := u32_and_nat A 15 (by omega) (by omega)
  rw [h2] at h3
  simpa using h3
theorem foldl_lt (bs : List Nat) (hb : ∀ i, i < bs.length → bs.getD i 0 < 256) (k : Nat) (hk : k ≤ bs.length) : (bs.take k).foldl byteStep 4294967295 < 4294967296 := by
  induction k with
  | zero => simp
  | succ k ih =>
    have hlt : k < bs.length := by omega
    have h := hb k hlt
    rw [List.take_succ_eq_append_getElem hlt, List.foldl_append]
    simp only [List.getD, List.getElem?_eq_getElem hlt, Option.getD_some] at h
    exact byteStep_lt _ _ (ih (by omega)) h
theorem crcRaw_lt (bs : List Nat) (hb : ∀ i, i < bs.length → bs.getD i 0 < 256) : crcRaw bs < 4294967296 := by
  have := foldl_lt bs hb bs.length (Nat.le_refl _)
  rwa [List.take_length] at this
theorem crcSum_lt (bs : List Nat) (hb : ∀ i, i < bs.length → bs.getD i 0 < 256) : crcSum bs < 4294967296 :=
  Nat.xor_lt_two_pow (n := 32) (by decide) (crcRaw_lt bs hb)
theorem crcFold_succ (bs : List Nat) (k : Nat) (hlt : k < bs.length) : (bs.take (k+1)).foldl byteStep 4294967295 = byteStep ((bs.take k).foldl byteStep 4294967295) (bs.getD k 0) := by
  rw [List.take_succ_eq_append_getElem hlt, List.foldl_append]
  simp [List.getD, List.getElem?_eq_getElem hlt]
theorem nib_walk (c : Nat) (h : c < 4294967296) : bits .xor .u32 ((c : Int) / 16) (tab (c % 16) : Nat) = (nib c : Nat) := by
  have h1 : ((c : Int) / 16) = ((c / 16 : Nat) : Int) := by simp
  rw [h1, u32_xor_nat _ _ (by omega) (tab_lt _)]
  rfl
theorem not_walk (c : Nat) (h : c < 4294967296) : bits .xor .u32 IntKind.u32.max (c : Int) = ((4294967295 ^^^ c : Nat) : Int) :=
  u32_xor_nat 4294967295 c (by decide) h

set_option maxHeartbeats 400000 in
theorem sum_exactW (v : Value) (bs : List Nat) (w : World) (hv : BytesW w v bs) :
    Calls Try.prog 27 #[v] w fun e w' => e = .returned (.int .u32 (crcSum bs : Nat)) ∧ w' = (w.alloc (.cells tabA 68)).alloc (.cells tabA 68) := by
  obtain ⟨a, cap, rfl, hm, hb, hc⟩ := hv
  unfold maxLen at hm
  go_enter Try.func27, Try.ntmps27
  go_wp2_with (go_at_call 28; refine (table_any _).mono ?_; rintro e w' ⟨rfl, rfl⟩; unfold tabA)
  have hW : ∃ W, W = (w.alloc (.cells tabA 68)).alloc (.cells tabA 68) := ⟨_, rfl⟩
  obtain ⟨W, hW⟩ := hW
  have h1 : ∀ i, i < 16 → W.cell? ⟨w.heap.size + 1, i, none⟩ = some (.int .u32 (tab i : Nat)) := by
    intro i hi
    rw [hW]
    have := World.cell?_alloc_new (w.alloc (.cells tabA 68)) tabA 68 i
    simp only [World.size_alloc] at this
    exact this.trans (tab_key i hi)
  have h2 : ∀ b o, b < w.heap.size → W.cell? ⟨b, o, none⟩ = w.cell? ⟨b, o, none⟩ := by
    intro b o hlt
    rw [hW, World.cell?_alloc_lt _ _ _ (by simp; omega), World.cell?_alloc_lt _ _ _ (by simpa using hlt)]
  unfold tabA at hW
  rw [← hW]
  have HW := Lib.hid hW; clear hW
  go_loop [4, 10] (fun c i => ∃ k : Nat, k ≤ bs.length ∧ i = .int .i64 k ∧ c = .int .u32 ((bs.take k).foldl byteStep 4294967295 : Nat)) (fun _ i => bs.length - (intOf i).toNat)
  case atStart => exact ⟨0, Nat.zero_le _, rfl, rfl⟩
  case round =>
    obtain ⟨k, hk, rfl, rfl⟩ := hrel
    by_cases hlt : k < bs.length
    · have hC := foldl_lt bs hb k hk
      have hX := hb k hlt
      obtain ⟨b, off, rfl, hbl, hcell⟩ := hc (by intro h; simp [h] at hlt)
      have hx := (h2 b (off + k) hbl).trans (hcell k hlt)
      have HS := Lib.hid (crcFold_succ bs k hlt)
      clear hcell
      revert HS hC hX hx
      generalize (bs.take k).foldl byteStep 4294967295 = C
      generalize bs.getD k 0 = x
      intro hC hX hx HS
      clear hb hc h2
      have q1 := xor_lt C x hC hX
      have q2 := nib_lt _ q1
      have e1 := u32_xor_nat C x hC (by omega)
      have e2 := and15 (C ^^^ x : Nat) (by omega) (by omega)
      have e3 := nib_walk _ q1
      have e4 := and15 (nib (C ^^^ x) : Nat) (by omega) (by omega)
      have e5 := nib_walk _ q2
      have c1 := h1 ((C ^^^ x) % 16) (by omega)
      have c2 := h1 (nib (C ^^^ x) % 16) (by omega)
      clear h1
      go_wp2
      refine wp_loop_rounds 3 ?_
      iterate 3 (rw [rounds_succ]; go_wp2)
      exact ⟨⟨k + 1, by omega, by go_num, by rw [HS.out]; rfl⟩, by simp [intOf]; omega⟩
    · have e1 := not_walk _ (foldl_lt bs hb k hk)
      have hk2 : k = bs.length := by omega
      have HK := Lib.hid hk2
      clear hb hc h2 h1 hk2
      go_wp2
      go_ret
      exact ⟨ret_int (by simp only [HK.out, List.take_length]; rfl), HW.out⟩

theorem sum_anyW (v : Value) (bs : List Nat) (w : World) (hv : BytesW w v bs) :
    Calls Try.prog 27 #[v] w fun e w' => e = .returned (.int .u32 (crcSum bs : Nat)) ∧ Below w.heap.size w w' :=
  (sum_exactW v bs w hv).mono fun _ _ ⟨he, hw⟩ => ⟨he, by subst hw; exact ((Below.refl _ _).alloc (Nat.le_refl _) _).alloc (by simp) _⟩

theorem sum_any (v : Value) (bs : List Nat) (w : World) (hv : Bytes w v bs) :
    Calls Try.prog 27 #[v] w fun e w' => e = .returned (.int .u32 (crcSum bs : Nat)) ∧ Below w.heap.size w w' := sum_anyW v bs w hv.weak
end Go.Proofs.Ytdmagcdkklacdaa
