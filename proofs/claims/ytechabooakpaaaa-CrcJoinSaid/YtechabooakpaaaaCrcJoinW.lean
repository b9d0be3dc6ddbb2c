/-
  The walk of CrcJoin.
-/
import Derived.Test.YtechabooakpaaaaCrcLawW
import Derived.RegionTactic
import Derived.Deep.RegionWith
namespace Go.Proofs.Ytechabooakpaaaa
open Go.RowKit

theorem cells8_arr (w : World) (b : Nat) (xs : List Nat) (n : Nat) (hn : xs.length = n) (hm : n ≤ maxLen) (hb : ∀ i, i < xs.length → xs.getD i 0 < 256) (hlt : b < w.heap.size) (h : ∀ j, j < n → w.cell? ⟨b, j, none⟩ = some (.int .u8 (xs.getD j 0 : Nat))) :
    Bytes w (.slice (some ⟨b, 0, none⟩) n n) xs := by
  subst hn
  refine ⟨⟨_, _, rfl, by simp [cells8], Nat.le_refl _, hm, by simp, fun _ => ⟨b, 0, rfl, hlt, fun j hj => ?_⟩⟩, hb⟩
  have hj' : j < xs.length := by simpa [cells8] using hj
  rw [Nat.zero_add, h j hj', cells8_get _ _ hj']

def natOf : Value → Nat
  | .int _ n => n.toNat
  | _ => 0
/-- An array of bytes that came in. -/
theorem arr8_open {H : Type} {enc : TypeId × Value → H} {P : Program} {w : World} {t e : TypeId} {n : Nat} {v : Value} {d : DataW H} {ps : List MemPlace} {b0 : Nat} (ht : P.underlying t = some (.array n e)) (he : P.underlying e = some (.int .u8)) (hc : P.cellsOf e = 1) (hC : P.cellsOf t = n)
    (hv : Value.okWide P w .any b0 t v) (h : DataW.Trod enc P w 0 (fun _ => true) true t v d ps) : ∃ xs : List Nat, xs.length = n ∧ (∀ i, i < n → xs.getD i 0 < 256) ∧ v = .agg (cells8 xs).toArray := by
  simp only [Value.okWide, ht] at hv
  obtain ⟨cs, rfl, hsz, _⟩ := hv
  obtain ⟨fuel, hf⟩ := h
  obtain ⟨ys, m, _, _, hl, hy, hall⟩ := DataW.trod_array ht hf
  have hl2 : cs.toList.length = n := by simpa [hC] using hsz
  have key : ∀ c ∈ cs.toList, c = .int .u8 (natOf c : Nat) ∧ natOf c < 256 := by
    intro c hcm
    obtain ⟨i, hi, rfl⟩ := List.mem_iff_getElem.1 hcm
    have hy2 := hall i (by omega)
    rw [hc] at hy2
    have hg : ys[i]? = some ys[i] := List.getElem?_eq_getElem (by omega)
    rw [hg] at hy2
    obtain ⟨z, hz, _, hw⟩ := DataW.trod_int he hy2
    have e2 : ((Value.agg cs).cells.toList.drop (i * 1)).take 1 = [cs.toList[i]] := by
      simp only [Value.cells, Nat.mul_one]
      rw [List.drop_eq_getElem_cons (by simpa using hi)]
      rfl
    rw [e2] at hz
    have hz2 : cs.toList[i] = .int .u8 z := by simpa using hz
    rw [hz2]
    simp [Lit.wf, IntKind.min, IntKind.max, IntKind.signed, IntKind.bits] at hw
    simp only [natOf]
    constructor
    · rw [Int.toNat_of_nonneg (by omega)]
    · omega
  refine ⟨cs.toList.map natOf, by simpa using hl2, ?_, ?_⟩
  · intro i hi
    simp only [List.getD, List.getElem?_map, List.getElem?_eq_getElem (show i < cs.toList.length by omega), Option.map_some, Option.getD_some]
    exact (key _ (List.getElem_mem _)).2
  · have : cells8 (cs.toList.map natOf) = cs.toList := by
      simp only [cells8, List.map_map]
      conv => rhs; rw [← List.map_id cs.toList]
      exact List.map_congr_left fun c hcm => (key c hcm).1.symm
    rw [this]

/-- what stands in d when n cells are done -/
def dl (a b c : List Nat) (n j : Nat) : Nat := if j < n then a.getD j 0 ^^^ b.getD j 0 ^^^ c.getD j 0 else 0
theorem dl_end (a b c : List Nat) (ha : a.length = 20) (hb : b.length = 20) (hc : c.length = 20) (j : Nat) (hj : j < 20) : dl a b c 20 j = (List.zipWith (· ^^^ ·) (List.zipWith (· ^^^ ·) a b) c).getD j 0 := by
  simp [dl, hj, List.getD, List.getElem?_zipWith, List.getElem?_eq_getElem (show j < a.length by omega), List.getElem?_eq_getElem (show j < b.length by omega), List.getElem?_eq_getElem (show j < c.length by omega)]
theorem xor3 (x y z : Nat) (hx : x < 256) (hy : y < 256) (hz : z < 256) : bits .xor .u8 (bits .xor .u8 (x : Int) (y : Int)) (z : Int) = ((x ^^^ y ^^^ z : Nat) : Int) := by
  rw [u8_xor_nat x y hx hy, u8_xor_nat _ z (Nat.xor_lt_two_pow (n := 8) hx hy) hz]
theorem xor3_lt (x y z : Nat) (hx : x < 256) (hy : y < 256) (hz : z < 256) : x ^^^ y ^^^ z < 256 := Nat.xor_lt_two_pow (n := 8) (Nat.xor_lt_two_pow (n := 8) hx hy) hz

set_option maxHeartbeats 2000000 in
theorem join_any (a b c : List Nat) (w : World) (ha : a.length = 20) (hb : b.length = 20) (hc : c.length = 20) (ha2 : ∀ i, i < 20 → a.getD i 0 < 256) (hb2 : ∀ i, i < 20 → b.getD i 0 < 256) (hc2 : ∀ i, i < 20 → c.getD i 0 < 256) :
    Calls Try.prog 6 #[.agg (cells8 a).toArray, .agg (cells8 b).toArray, .agg (cells8 c).toArray] w fun e w' => e = .returned (.bool true) ∧ Below w.heap.size w w' := by
  go_enter Try.func6, Try.ntmps6
  go_wp2_with (go_at_call 8; refine (begun_any _).mono ?_; rintro e w1 ⟨rfl, hb1⟩)
  have g1 := hb1.size
  simp only [World.size_alloc] at g1
  have HB0 : Hid (Below w.heap.size w w1) := (((Below.refl _ w).alloc (Nat.le_refl _) _).alloc (by simp) _).alloc (by simp; omega) _ |>.trans (hb1.mono (by simp; omega))
  have fA : ∀ j, j < 20 → w1.cell? ⟨w.heap.size, j, none⟩ = some (.int .u8 (a.getD j 0 : Nat)) := by
    intro j hj
    rw [hb1.cell (p := ⟨w.heap.size, j, none⟩) (by simp; omega), World.cell?_alloc_lt _ _ _ (by simp; omega), World.cell?_alloc_lt _ _ _ (by simp), World.cell?_alloc_new]
    simpa using cells8_get a j (by omega)
  have fB : ∀ j, j < 20 → w1.cell? ⟨w.heap.size + 1, j, none⟩ = some (.int .u8 (b.getD j 0 : Nat)) := by
    intro j hj
    rw [hb1.cell (p := ⟨w.heap.size + 1, j, none⟩) (by simp), World.cell?_alloc_lt _ _ _ (by simp)]
    have := World.cell?_alloc_new (w.alloc (.cells (cells8 a).toArray 31)) (cells8 b).toArray 31 j
    simp only [World.size_alloc] at this
    refine Eq.trans ?_ (this.trans (by simpa using cells8_get b j (by omega)))
    rfl
  have fC : ∀ j, j < 20 → w1.cell? ⟨w.heap.size + 1 + 1, j, none⟩ = some (.int .u8 (c.getD j 0 : Nat)) := by
    intro j hj
    rw [hb1.cell (p := ⟨w.heap.size + 1 + 1, j, none⟩) (by simp)]
    have := World.cell?_alloc_new ((w.alloc (.cells (cells8 a).toArray 31)).alloc (.cells (cells8 b).toArray 31)) (cells8 c).toArray 31 j
    simp only [World.size_alloc] at this
    refine Eq.trans ?_ (this.trans (by simpa using cells8_get c j (by omega)))
    rfl
  have HfA := Lib.hid fA
  have HfB := Lib.hid fB
  have HfC := Lib.hid fC
  clear fA fB fC
  have hD0 : ∀ j, j < 20 → (w1.alloc (.cells #[.int .u8 0, .int .u8 0, .int .u8 0, .int .u8 0, .int .u8 0, .int .u8 0, .int .u8 0, .int .u8 0, .int .u8 0, .int .u8 0, .int .u8 0, .int .u8 0, .int .u8 0, .int .u8 0, .int .u8 0, .int .u8 0, .int .u8 0, .int .u8 0, .int .u8 0, .int .u8 0] 31)).cell? ⟨w1.heap.size, j, none⟩ = some (.int .u8 (dl a b c 0 j : Nat)) := by
    intro j hj
    rw [World.cell?_alloc_new]
    simp only [dl, Nat.not_lt_zero, if_false]
    have e : (#[.int .u8 0, .int .u8 0, .int .u8 0, .int .u8 0, .int .u8 0, .int .u8 0, .int .u8 0, .int .u8 0, .int .u8 0, .int .u8 0, .int .u8 0, .int .u8 0, .int .u8 0, .int .u8 0, .int .u8 0, .int .u8 0, .int .u8 0, .int .u8 0, .int .u8 0, .int .u8 0] : Array Value) = Array.replicate 20 (.int .u8 0) := rfl
    rw [e, Array.getElem?_replicate, if_pos hj]
    rfl
  have hF0 : ∀ j, (w1.alloc (.cells #[.int .u8 0, .int .u8 0, .int .u8 0, .int .u8 0, .int .u8 0, .int .u8 0, .int .u8 0, .int .u8 0, .int .u8 0, .int .u8 0, .int .u8 0, .int .u8 0, .int .u8 0, .int .u8 0, .int .u8 0, .int .u8 0, .int .u8 0, .int .u8 0, .int .u8 0, .int .u8 0] 31)).frozen? ⟨w1.heap.size, j, none⟩ = false := by
    intro j
    exact frozen_of_row _ _ _ _ _ (heap_alloc_new w1 _)
  have HD0 := Lib.hid hD0
  have HF0 := Lib.hid hF0
  clear hD0 hF0
  clear hb1
  go_loopw [8] (fun i wr => ∃ n : Nat, n ≤ 20 ∧ i = .int .i64 n ∧ (∀ j, j < 20 → wr.cell? ⟨w1.heap.size, j, none⟩ = some (.int .u8 (dl a b c n j : Nat))) ∧ (∀ j, wr.frozen? ⟨w1.heap.size, j, none⟩ = false) ∧ Below w1.heap.size w1 wr ∧ w1.heap.size < wr.heap.size) (fun i _ => 20 - (intOf i).toNat)
  case atStart => exact ⟨0, by omega, rfl, HD0.out, HF0.out, (Below.refl _ _).alloc (Nat.le_refl _) _, by simp⟩
  case round =>
    obtain ⟨n, hn, rfl, hD, hF, hbr, hsz⟩ := hrel
    clear HD0 HF0
    by_cases h20 : n < 20
    · have c1 : wr.cell? ⟨w.heap.size, n, none⟩ = some (.int .u8 (a.getD n 0 : Nat)) := (hbr.cell (p := ⟨w.heap.size, n, none⟩) (by simp; omega)).trans (HfA.out n h20)
      have c2 : wr.cell? ⟨w.heap.size + 1, n, none⟩ = some (.int .u8 (b.getD n 0 : Nat)) := (hbr.cell (p := ⟨w.heap.size + 1, n, none⟩) (by simp; omega)).trans (HfB.out n h20)
      have c3 : wr.cell? ⟨w.heap.size + 1 + 1, n, none⟩ = some (.int .u8 (c.getD n 0 : Nat)) := (hbr.cell (p := ⟨w.heap.size + 1 + 1, n, none⟩) (by simp; omega)).trans (HfC.out n h20)
      have c4 := hD n h20
      have f4 := hF n
      have HD := Lib.hid hD
      have HF := Lib.hid hF
      have HX := Lib.hid (xor3 _ _ _ (ha2 n h20) (hb2 n h20) (hc2 n h20))
      have hdl : ∀ j, j < 20 → dl a b c (n + 1) j = if j = n then a.getD n 0 ^^^ b.getD n 0 ^^^ c.getD n 0 else dl a b c n j := by
        intro j hj
        unfold dl
        by_cases h : j = n
        · subst h; simp
        · by_cases h' : j < n
          · rw [if_pos (by omega), if_pos h', if_neg h]
          · rw [if_neg (by omega), if_neg h', if_neg h]
      have Hdl := Lib.hid hdl
      clear hD hF hdl ha2 hb2 hc2
      revert c1 c2 c3 HX Hdl
      generalize a.getD n 0 = x
      generalize b.getD n 0 = y
      generalize c.getD n 0 = z
      intro c1 c2 c3 HX Hdl
      go_wp2
      go_region
      go_wp2
      go_roundw
      case rel =>
        rw [HX.out]
        refine ⟨n + 1, by omega, by go_num, fun j hj => ?_, fun j => ?_, (hbr.setCell (p := ⟨w1.heap.size, n, none⟩) (Nat.le_refl _) _).drew, by simpa using hsz⟩
        · rw [Hdl.out j hj]
          by_cases h : j = n
          · subst h
            rw [if_pos rfl]
            exact World.cell?_setCell_same _ _ _ c4
          · rw [if_neg h]
            exact (World.cell?_setCell_other _ _ _ _ (by intro e; exact h (congrArg Addr.off e).symm)).trans (HD.out j hj)
        · rw [World.frozen?_drew, World.frozen?_setCell]
          exact HF.out j
      case measure => simp [intOf]; omega
    · obtain rfl : n = 20 := by omega
      go_wp2
      have BA : Bytes wr (.slice (some ⟨w.heap.size, 0, none⟩) 20 20) a := cells8_arr wr _ a 20 ha (by decide) (by rw [ha]; exact ha2) (by omega) fun j hj => (hbr.cell (p := ⟨w.heap.size, j, none⟩) (by simp; omega)).trans (HfA.out j hj)
      have BB : Bytes wr (.slice (some ⟨w.heap.size + 1, 0, none⟩) 20 20) b := cells8_arr wr _ b 20 hb (by decide) (by rw [hb]; exact hb2) (by omega) fun j hj => (hbr.cell (p := ⟨w.heap.size + 1, j, none⟩) (by simp; omega)).trans (HfB.out j hj)
      have BC : Bytes wr (.slice (some ⟨w.heap.size + 1 + 1, 0, none⟩) 20 20) c := cells8_arr wr _ c 20 hc (by decide) (by rw [hc]; exact hc2) (by omega) fun j hj => (hbr.cell (p := ⟨w.heap.size + 1 + 1, j, none⟩) (by simp; omega)).trans (HfC.out j hj)
      have hdl : (List.zipWith (· ^^^ ·) (List.zipWith (· ^^^ ·) a b) c).length = 20 := by simp [ha, hb, hc]
      have hdb : ∀ j, j < 20 → (List.zipWith (· ^^^ ·) (List.zipWith (· ^^^ ·) a b) c).getD j 0 < 256 := by
        intro j hj
        rw [← dl_end a b c ha hb hc j hj]
        simp only [dl, hj, if_true]
        exact xor3_lt _ _ _ (ha2 j hj) (hb2 j hj) (hc2 j hj)
      have BD : Bytes wr (.slice (some ⟨w1.heap.size, 0, none⟩) 20 20) (List.zipWith (· ^^^ ·) (List.zipWith (· ^^^ ·) a b) c) := cells8_arr wr _ _ 20 hdl (by decide) (by rw [hdl]; exact hdb) hsz fun j hj => by rw [hD j hj, dl_end a b c ha hb hc j hj]
      have hj := join a b c (by omega) (by omega)
      rw [← crcSum_eq, ← crcSum_eq, ← crcSum_eq, ← crcSum_eq] at hj
      have la := crcSum_lt a (by rw [ha]; exact ha2)
      have lb := crcSum_lt b (by rw [hb]; exact hb2)
      have lc := crcSum_lt c (by rw [hc]; exact hc2)
      have HA : Hid (∀ w', Below wr.heap.size wr w' → Calls Try.prog 9 #[.slice (some ⟨w.heap.size, 0, none⟩) 20 20] w' fun e w'' => e = .returned (.int .u32 (crcSum a : Nat)) ∧ Below wr.heap.size wr w'') := fun w' hw => (sum_any _ _ w' (BA.kept hw (Nat.le_refl _))).mono fun e w'' ⟨h1, h2⟩ => ⟨h1, hw.trans (h2.mono hw.size)⟩
      have HB : Hid (∀ w', Below wr.heap.size wr w' → Calls Try.prog 9 #[.slice (some ⟨w.heap.size + 1, 0, none⟩) 20 20] w' fun e w'' => e = .returned (.int .u32 (crcSum b : Nat)) ∧ Below wr.heap.size wr w'') := fun w' hw => (sum_any _ _ w' (BB.kept hw (Nat.le_refl _))).mono fun e w'' ⟨h1, h2⟩ => ⟨h1, hw.trans (h2.mono hw.size)⟩
      have HC : Hid (∀ w', Below wr.heap.size wr w' → Calls Try.prog 9 #[.slice (some ⟨w.heap.size + 1 + 1, 0, none⟩) 20 20] w' fun e w'' => e = .returned (.int .u32 (crcSum c : Nat)) ∧ Below wr.heap.size wr w'') := fun w' hw => (sum_any _ _ w' (BC.kept hw (Nat.le_refl _))).mono fun e w'' ⟨h1, h2⟩ => ⟨h1, hw.trans (h2.mono hw.size)⟩
      have HD : Hid (∀ w', Below wr.heap.size wr w' → Calls Try.prog 9 #[.slice (some ⟨w1.heap.size, 0, none⟩) 20 20] w' fun e w'' => e = .returned (.int .u32 (crcSum a ^^^ crcSum b ^^^ crcSum c : Nat)) ∧ Below wr.heap.size wr w'') := fun w' hw => by
        rw [← hj]
        exact (sum_any _ _ w' (BD.kept hw (Nat.le_refl _))).mono fun e w'' ⟨h1, h2⟩ => ⟨h1, hw.trans (h2.mono hw.size)⟩
      have HBR := Lib.hid hbr
      clear hD hF HfA HfB HfC hdl hdb hj BA BB BC BD ha2 hb2 hc2 ha hb hc hbr
      revert la lb lc HA HB HC HD
      generalize crcSum a = sa
      generalize crcSum b = sb
      generalize crcSum c = sc
      intro la lb lc HA HB HC HD
      have x1 := u32_xor_nat sa sb la lb
      have x2 := u32_xor_nat (sa ^^^ sb) sc (Nat.xor_lt_two_pow (n := 32) la lb) lc
      have hb5 : Below wr.heap.size wr wr.drew := (Below.refl _ _).drew
      go_region_with (first
        | (go_at_call 9; (with_reducible refine (HA.out _ (by assumption)).mono ?_); rintro e w5 ⟨rfl, hb5⟩)
        | (go_at_call 9; (with_reducible refine (HB.out _ (by assumption)).mono ?_); rintro e w5 ⟨rfl, hb5⟩)
        | (go_at_call 9; (with_reducible refine (HC.out _ (by assumption)).mono ?_); rintro e w5 ⟨rfl, hb5⟩)
        | (go_at_call 9; (with_reducible refine (HD.out _ (by assumption)).mono ?_); rintro e w5 ⟨rfl, hb5⟩))
      go_wp2
      go_ret
      exact ⟨rfl, HB0.out.trans ((HBR.out.mono HB0.out.size).trans (hb5.mono (Nat.le_trans HB0.out.size HBR.out.size)))⟩
end Go.Proofs.Ytechabooakpaaaa
