/-
  The walk of CrcTurned.
-/
import Derived.Test.YtechabooakpaaaaCrcLawW
import Derived.RegionTactic
import Derived.StillTailTactics
namespace Go.Proofs.Ytechabooakpaaaa
open Go.RowKit

theorem info_u8 : (Try.prog.info? 5).map (fun i => (i.zero, i.size, i.bytes)) = some (some (.int .u8 0), 1, 1) := by kernel_rfl

/-- bytes from k on turned by those of v, i of them -/
def tl (bs : List Nat) (k v : Nat) : Nat → List Nat
  | 0 => bs
  | i + 1 => (tl bs k v i).set (k + i) ((tl bs k v i).getD (k + i) 0 ^^^ (v / 256 ^ i % 256))

theorem tl_succ (bs : List Nat) (k v i : Nat) : tl bs k v (i + 1) = (tl bs k v i).set (k + i) ((tl bs k v i).getD (k + i) 0 ^^^ (v / 256 ^ i % 256)) := rfl
theorem tl_len (bs : List Nat) (k v i : Nat) : (tl bs k v i).length = bs.length := by
  induction i with
  | zero => rfl
  | succ i ih => simp [tl, ih]
theorem tl_lt (bs : List Nat) (hb : ∀ i, i < bs.length → bs.getD i 0 < 256) (k v i : Nat) (hk : k + i ≤ bs.length) : ∀ j, j < bs.length → (tl bs k v i).getD j 0 < 256 := by
  induction i with
  | zero => exact hb
  | succ i ih =>
    intro j hj
    have hx := ih (by omega) (k + i) (by omega)
    have hj' := ih (by omega) j hj
    have hl := tl_len bs k v i
    simp only [tl]
    by_cases h : k + i = j
    · subst h
      simp only [List.getD, List.getElem?_set_self (show k + i < (tl bs k v i).length by omega), Option.getD_some]
      exact Nat.xor_lt_two_pow (n := 8) hx (by omega)
    · simp only [List.getD, List.getElem?_set_ne h]
      exact hj'
theorem tl_get (bs : List Nat) (k v i : Nat) (hk : k + i ≤ bs.length) (j : Nat) : (tl bs k v i)[j]? = (bs[j]?).map fun x => if k ≤ j ∧ j < k + i then x ^^^ (v / 256 ^ (j - k) % 256) else x := by
  induction i with
  | zero =>
    have : (fun x => if k ≤ j ∧ j < k + 0 then x ^^^ (v / 256 ^ (j - k) % 256) else x) = id := by
      funext x
      rw [if_neg (by omega)]
      rfl
    rw [this]
    simp [tl]
  | succ i ih =>
    have hl := tl_len bs k v i
    simp only [tl]
    by_cases h : k + i = j
    · subst h
      rw [List.getElem?_set_self (by omega)]
      have hlt : k + i < bs.length := by omega
      have h1 := ih (by omega)
      simp only [List.getD, h1, List.getElem?_eq_getElem hlt, Option.map_some, Option.getD_some]
      simp
    · rw [List.getElem?_set_ne h, ih (by omega)]
      congr 1
      funext x
      by_cases hc : k ≤ j ∧ j < k + i
      · rw [if_pos hc, if_pos ⟨hc.1, by omega⟩]
      · rw [if_neg hc, if_neg (by omega)]
theorem lows_get (n v j : Nat) (h : j < n) : (lows n v)[j]? = some (v / 256 ^ j % 256) := by
  induction n generalizing v j with
  | zero => omega
  | succ n ih =>
    cases j with
    | zero => simp [lows]
    | succ j =>
      simp only [lows, List.getElem?_cons_succ]
      rw [ih _ _ (by omega), Nat.div_div_eq_div_mul, Nat.pow_succ, Nat.mul_comm]
theorem lows_len (n v : Nat) : (lows n v).length = n := by
  induction n generalizing v with
  | zero => rfl
  | succ n ih => simp [lows, ih]
theorem tl_five (bs : List Nat) (k v : Nat) (hk : k + 5 ≤ bs.length) : tl bs k v 5 = List.zipWith (· ^^^ ·) bs (List.replicate k 0 ++ lows 5 v ++ List.replicate (bs.length - k - 5) 0) := by
  apply List.ext_getElem?
  intro j
  rw [tl_get bs k v 5 hk, List.getElem?_zipWith]
  rcases Nat.lt_or_ge j bs.length with hj | hj
  · rw [List.getElem?_eq_getElem hj]
    by_cases h1 : j < k
    · rw [List.getElem?_append_left (by simp [lows_len]; omega), List.getElem?_append_left (by simpa using h1), List.getElem?_replicate, if_pos h1]
      simp; omega
    · by_cases h2 : j < k + 5
      · rw [List.getElem?_append_left (by simp [lows_len]; omega), List.getElem?_append_right (by simpa using h1)]
        rw [List.length_replicate, lows_get 5 v _ (by omega)]
        simp [show k ≤ j by omega, h2]
      · rw [List.getElem?_append_right (by simp [lows_len]; omega), List.getElem?_replicate]
        rw [if_pos (by simp [lows_len]; omega)]
        simp; omega
  · simp [List.getElem?_eq_none hj]
theorem step_xor (x V n : Nat) (hx : x < 256) : bits .xor .u8 (x : Int) ((V : Int) / 2 ^ (8 * n) % 256) = ((x ^^^ (V / 256 ^ n % 256) : Nat) : Int) := by
  have e : ((V : Int) / 2 ^ (8 * n) % 256) = ((V / 256 ^ n % 256 : Nat) : Int) := by
    rw [show (256 : Nat) ^ n = 2 ^ (8 * n) by rw [Nat.pow_mul]]
    simp
  rw [e]
  exact u8_xor_nat x _ hx (by omega)
theorem turned_ne (bs : List Nat) (K at_ by_ V : Nat) (hK : K + 5 ≤ bs.length) (hV : V = 2 ^ (at_ % 8) * by_) (hb : by_ < 4294967296) (h0 : by_ ≠ 0) : crcSum (tl bs K V 5) ≠ crcSum bs := by
  subst hV
  rw [tl_five bs K _ hK, crcSum_eq, crcSum_eq]
  unfold refSum
  intro e
  have h := turned bs K by_ (at_ % 8) hK (by omega) hb h0 4294967295
  have e2 : ∀ p q : Nat, 4294967295 ^^^ p = 4294967295 ^^^ q → p = q := by
    intro p q h
    have : 4294967295 ^^^ (4294967295 ^^^ p) = 4294967295 ^^^ (4294967295 ^^^ q) := by rw [h]
    simpa [← Nat.xor_assoc] using this
  exact h (e2 _ _ e)

set_option maxHeartbeats 1000000 in
theorem turned_any (v : Value) (bs : List Nat) (at_ by_ : Nat) (w : World) (hv : Bytes w v bs) (hat : at_ < 65536) (hby : by_ < 4294967296) :
    Calls Try.prog 4 #[v, .int .u16 (at_ : Nat), .int .u32 (by_ : Nat)] w fun e w' => e = .returned (.bool true) ∧ Below w.heap.size w w' := by
  have HV := Lib.hid hv
  obtain ⟨a, cap, rfl, hm, hb, hc⟩ := hv.parts
  obtain ⟨i0, hi, hz0, hz1, hz2⟩ := info_parts info_u8
  unfold maxLen at hm
  have HB := Lib.hid hb
  clear hb hc hv
  by_cases hl : bs.length > 200
  · have d1 : decide ((200 : Int) < (bs.length : Int)) = true := by simp; omega
    go_enter Try.func4, Try.ntmps4
    go_wp2_with (go_at_call 8; refine (begun_any _).mono ?_; rintro e w' ⟨rfl, hb⟩)
    go_ret
    exact ⟨rfl, hb⟩
  by_cases hl2 : bs.length < 5
  · go_enter Try.func4, Try.ntmps4
    go_wp2_with (go_at_call 8; refine (begun_any _).mono ?_; rintro e w' ⟨rfl, hb⟩)
    go_ret
    exact ⟨rfl, hb⟩
  by_cases h0 : by_ = 0
  · have d2 : ((by_ : Int) == 0) = true := by simp [h0]
    go_enter Try.func4, Try.ntmps4
    go_wp2_with (go_at_call 8; refine (begun_any _).mono ?_; rintro e w' ⟨rfl, hb⟩)
    go_ret
    exact ⟨rfl, hb⟩
  have d2 : ((by_ : Int) == 0) = false := by simpa using h0
  have hK : ∃ K : Nat, K + 5 ≤ bs.length ∧ ((at_ : Int) % ((bs.length : Int) - 4)) = (K : Int) := by
    refine ⟨at_ % (bs.length - 4), ?_, ?_⟩
    · have := Nat.mod_lt at_ (show 0 < bs.length - 4 by omega); omega
    · rw [Int.natCast_emod, Int.natCast_sub (by omega)]; rfl
  obtain ⟨K, hK1, hK2⟩ := hK
  have hV : ∃ V : Nat, V = 2 ^ (at_ % 8) * by_ ∧ V < 1099511627776 ∧ IntKind.u64.wrap ((by_ : Int) * 2 ^ (at_ % 8)) = (V : Int) := by
    have hp : 2 ^ (at_ % 8) ≤ 2 ^ 7 := Nat.pow_le_pow_right (by omega) (by omega)
    have hlt : 2 ^ (at_ % 8) * by_ < 1099511627776 := by
      have h1 : 2 ^ (at_ % 8) * by_ ≤ 2 ^ 7 * by_ := Nat.mul_le_mul_right _ hp
      omega
    refine ⟨_, rfl, hlt, ?_⟩
    have e : ((by_ : Int) * 2 ^ (at_ % 8)) = ((2 ^ (at_ % 8) * by_ : Nat) : Int) := by
      rw [Int.natCast_mul, Int.mul_comm]; simp
    rw [e, IntKind.wrap_u64]
    generalize 2 ^ (at_ % 8) * by_ = q at hlt
    omega
  obtain ⟨V, hV1, hV2, hV3⟩ := hV
  have HV1 := Lib.hid hV1
  clear hV1
  go_enter Try.func4, Try.ntmps4
  go_wp2_with (first | (go_at_call 8; refine (begun_any _).mono ?_; rintro e w1 ⟨rfl, hb1⟩) | (at_builtin; refine wpList_append_rd rfl (.tmp 26) (.tmp 27) 22 rfl w.heap.size 5 i0 (.int .u8 0) 1 1 Try.underlying22 hi hz0 hz1 hz2 rfl (by decide) _ 0 [] rfl (World.ownsRow_lit _ #[] 0 hb1.size (by decide) rfl) _ _ _ rfl ((HV.out.kept hb1 (Nat.le_refl _)).1.kept ((Below.refl _ _).alloc (Nat.le_refl _) (.cells #[] 5)) (Nat.le_refl _)) (cells8_one _) (by simp [maxLen]; omega) (by omega) (by simp; have := hb1.size; omega) ?_; intro v3 w3 hown3 hb3 _; simp only [Nat.zero_add, List.nil_append] at hown3))
  simp only [hK2, hV3]
  clear hK2 hV3
  have hex : ∃ g c3, v3 = .slice (some ⟨g, 0, none⟩) bs.length c3 := by
    rcases hown3.2 with ⟨_, h⟩ | ⟨g, c3, _, h, _⟩
    · omega
    · exact ⟨g, c3, h⟩
  obtain ⟨g, c3, hv3⟩ := hex
  rw [hv3] at hown3 ⊢
  clear hv3
  have hb13 : Below w.heap.size w w3 := hb1.trans (((Below.refl _ _).alloc hb1.size _).trans hb3)
  go_loopw [11] (fun i wr => ∃ n : Nat, n ≤ 5 ∧ i = .int .i64 n ∧ wr.ownsRow w.heap.size 5 1 (.slice (some ⟨g, 0, none⟩) bs.length c3) bs.length (cells8 (tl bs K V n)) ∧ Below w.heap.size w wr) (fun i _ => 5 - (intOf i).toNat)
  case atStart => exact ⟨0, by omega, rfl, hown3, hb13⟩
  case round =>
    obtain ⟨n, hn, rfl, hown, hbr⟩ := hrel
    clear hown3 hb13 hb3 hb1
    by_cases h5 : n < 5
    · have hlt := tl_lt bs HB.out K V n (by omega) (K + n) (by omega)
      have hll := tl_len bs K V n
      have hc1 : wr.cell? ⟨g, K + n, none⟩ = some (.int .u8 ((tl bs K V n).getD (K + n) 0 : Nat)) := by
        rw [hown.cellAt (K + n) (by omega), cells8_get _ _ (by omega)]
      have hf1 : wr.frozen? ⟨g, K + n, none⟩ = false := hown.frozenAt _
      have HSt := Lib.hid (tl_succ bs K V n)
      have HO : Hid (wr.ownsRow w.heap.size 5 1 (.slice (some ⟨g, 0, none⟩) bs.length c3) bs.length (cells8 (tl bs K V n))) := hown
      have HX := Lib.hid (step_xor _ V n hlt)
      clear hown
      generalize (tl bs K V n).getD (K + n) 0 = x at hc1 HSt HX hlt
      clear hlt hll
      go_wp2
      go_region
      go_wp2
      go_roundw
      case rel =>
        rw [HX.out]
        have hst := HO.out.stored (K + n) (.int .u8 ((x ^^^ (V / 256 ^ n % 256) : Nat) : Int))
        refine ⟨n + 1, by omega, by go_num, ?_, (hbr.grown hst.2 hbr.size (fun k hk => ?_)).drew⟩
        · rw [HSt.out]
          have : cells8 ((tl bs K V n).set (K + n) (x ^^^ (V / 256 ^ n % 256))) = (cells8 (tl bs K V n)).set (K + n) (.int .u8 ((x ^^^ (V / 256 ^ n % 256) : Nat) : Int)) := by simp [cells8]
          rw [this]
          exact hst.1
        · cases hk
          exact (HO.out.lt g rfl).1
      case measure => simp [intOf]; omega
    · obtain rfl : n = 5 := by omega
      have hne := turned_ne bs K at_ by_ V hK1 HV1.out hby h0
      have hne2 : (((crcSum (tl bs K V 5) : Nat) : Int) != ((crcSum bs : Nat) : Int)) = true := by
        rw [bne_iff_ne]; omega
      have hll := tl_len bs K V 5
      have hown5 : wr.ownsRow w.heap.size 5 1 (.slice (some ⟨g, 0, none⟩) bs.length c3) (tl bs K V 5).length (cells8 (tl bs K V 5)) := by rw [hll]; exact hown
      have h1 := sum_any _ _ wr (Bytes.own hown5 (by rw [hll]; exact tl_lt bs HB.out K V 5 hK1))
      have HS : Hid (∀ w1, Below w.heap.size w w1 → Calls Try.prog 9 #[.slice a bs.length cap] w1 fun e w' => e = .returned (.int .u32 (crcSum bs : Nat)) ∧ Below w1.heap.size w1 w') := Lib.hid fun w1 hb1 => sum_any _ _ w1 (HV.out.kept hb1 (Nat.le_refl _))
      have H1 := Lib.hid h1
      clear h1 hne hll hown5 hown
      revert H1 HS hne2
      generalize crcSum (tl bs K V 5) = s1
      generalize crcSum bs = s2
      intro hne2 HS H1
      go_wp2_with fail
      refine H1.out.mono ?_
      rintro e w5 ⟨rfl, hb5⟩
      have hbr5 := hbr.trans (hb5.mono hbr.size)
      go_wp2_with fail
      refine (HS.out w5 hbr5).mono ?_
      rintro e w6 ⟨rfl, hb6⟩
      go_wp2
      go_ret
      exact ⟨rfl, hbr5.trans (hb6.mono hbr5.size)⟩
end Go.Proofs.Ytechabooakpaaaa
