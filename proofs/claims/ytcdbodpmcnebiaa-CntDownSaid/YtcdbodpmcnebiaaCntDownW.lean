/-
  The walk of CntDown.
-/
import Derived.Test.YtcdbodpmcnebiaaCntLaw
import Derived.Test.YtcdbodpmcnebiaaBools
namespace Go.Proofs.Ytcdbodpmcnebiaa
open Go.RowKit

theorem step_down3 (q n pv : Int) (was inn : Bool) (x : Value) (w : World) (hx : Vals w x [⟨1, q, 0⟩, ⟨2, n, 0⟩, ⟨1, truthI was, 0⟩]) :
    Calls Try.prog 10 #[.int .i64 10, x, .bool inn, .int .i64 pv] w (RetVals w (downV n (truthI was) inn pv)) :=
  step_down x ⟨1, q, 0⟩ ⟨2, n, 0⟩ ⟨1, truthI was, 0⟩ inn pv w hx rfl rfl rfl
theorem truthI_one (b : Bool) : (truthI b == 1) = b := by cases b <;> rfl
theorem truthI_nought (b : Bool) : (truthI b == 0) = !b := by cases b <;> rfl
/-- what is left, as the law reckons it -/
def cnt2 (m n : Int) (inn was : Bool) : Int := if inn && !was then (if m ≤ 0 then n else m - 1) else m
theorem downV_eq (m n : Int) (inn was : Bool) (hm : 0 ≤ m ∧ m ≤ 5) : downV m (truthI was) inn n = [⟨1, truthI (decide (cnt2 m n inn was ≤ 0)), 0⟩, ⟨2, cnt2 m n inn was, 0⟩, ⟨1, truthI inn, 0⟩] := by
  have e : wrap64 (m - 1) = m - 1 := by unfold wrap64; omega
  simp [downV, cnt2, truthI_nought, e]
theorem cnt2_in (m n : Int) (inn was : Bool) (hm : 0 ≤ m ∧ m ≤ 5) (hn : 0 ≤ n ∧ n ≤ 5) : 0 ≤ cnt2 m n inn was ∧ cnt2 m n inn was ≤ 5 := by
  unfold cnt2
  split
  · split <;> omega
  · omega

set_option maxRecDepth 100000 in
set_option maxHeartbeats 2000000 in
theorem down_law (x : Value) (ins : List Bool) (pv : Nat) (w : World) (hx : Bools w x ins) (hp : pv < 256) :
    Calls Try.prog 4 #[x, .int .u8 (pv : Nat)] w fun e w' => e = .returned (.bool true) ∧ Below w.heap.size w w' := by
  obtain ⟨a, cap, rfl, hm, hc⟩ := hx.parts
  unfold maxLen at hm
  have HC := Lib.hid hc
  have hN : ∃ N : Int, ((pv : Int) % 6) = N ∧ 0 ≤ N ∧ N ≤ 5 := ⟨_, rfl, by omega, by omega⟩
  obtain ⟨N, hN, hN1, hN2⟩ := hN
  have HNN := Lib.hid hN
  clear hx hc hN
  by_cases hl : 60 < ins.length
  · go_enter Try.func4, Try.ntmps4
    go_wp2_with (go_at_call 8; refine (begun_any _).mono ?_; rintro e w1 ⟨rfl, hb1⟩)
    go_ret
    exact ⟨rfl, hb1⟩
  · go_enter Try.func4, Try.ntmps4
    go_wp2_with (first | (go_at_call 8; refine (begun_any _).mono ?_; rintro e w1 ⟨rfl, hb1⟩) | (go_at_call 9; refine (cells_any false false 0 (by omega) _).mono ?_; rintro e w2 ⟨a2, n2, c2, rfl, hv, hfr, hb2⟩; have HV := Lib.hid hv; have hb12 := Below_tr hb1 hb2; clear hv hfr hb2))
    simp only [HNN.out]
    go_loopw [6, 7, 8, 9] (fun c n wa i wr => ∃ (k : Nat) (m q : Int) (was : Bool) (a3 : Option Addr) (n3 c3 : Nat), k ≤ ins.length ∧ i = .int .i64 k ∧ n = .int .i64 m ∧ wa = .bool was ∧ c = .slice a3 n3 c3 ∧ 0 ≤ m ∧ m ≤ 5 ∧ Vals wr c [⟨1, q, 0⟩, ⟨2, m, 0⟩, ⟨1, truthI was, 0⟩] ∧ Below w.heap.size w wr) (fun _ _ _ i _ => ins.length - (intOf i).toNat)
    case atStart => exact ⟨0, 0, truthI false, false, a2, n2, c2, by omega, rfl, rfl, rfl, rfl, by omega, by omega, HV.out, hb12⟩
    case round =>
      obtain ⟨k, m, q, was, a3, n3, c3, hk, rfl, rfl, rfl, rfl, hm1, hm2, hv3, hbr⟩ := hrel
      clear HV hb12 hb1
      by_cases hlt : k < ins.length
      · obtain ⟨b, off, rfl, hbl, hcell⟩ := HC.out (by intro h; simp [h] at hlt)
        have c1 := (hbr.cell (p := ⟨b, off + k, none⟩) hbl).trans (hcell k hlt)
        have HV3 := Lib.hid hv3
        clear hcell hv3
        generalize ins.getD k false = inn at c1
        have HE := Lib.hid (downV_eq m N inn was ⟨hm1, hm2⟩)
        have HI := Lib.hid (cnt2_in m N inn was ⟨hm1, hm2⟩ ⟨hN1, hN2⟩)
        have t1 := truthI_one
        have hb3 := Nat.lt_of_lt_of_le hbl hbr.size
        cases inn
        · cases was
          · have HN : Hid (cnt2 m N false false = m) := by simp [Hid, cnt2]
            rw [HN.out] at HE HI
            have hq : ((m : Int) == 0) = decide ((m : Int) ≤ 0) := by have := HI.out; rw [Bool.eq_iff_iff]; simp; omega
            go_wp2_with (go_at_call 10; refine (step_down3 q m N false false _ _ HV3.out).mono ?_; rintro e w5 ⟨a5, n5, c5, rfl, hv5, hfr5, hb5⟩; rw [HE.out] at hv5; have HV5 := Lib.hid hv5; obtain ⟨b5, off5, rfl, rfl, hbl5, g1, g2, g3⟩ := Vals3 hv5; have k1 := (hb5.cell (p := ⟨b, off + k, none⟩) hb3).trans c1; have hbr5 := Below_tr hbr hb5; clear hv5 hfr5 hb5)
            go_roundw
            case rel => exact ⟨k + 1, _, _, false, _, _, _, by omega, by go_num, rfl, rfl, rfl, HI.out.1, HI.out.2, HV5.out, hbr5⟩
            case measure => simp [intOf]; omega
          · have HN : Hid (cnt2 m N false true = m) := by simp [Hid, cnt2]
            rw [HN.out] at HE HI
            have hq : ((m : Int) == 0) = decide ((m : Int) ≤ 0) := by have := HI.out; rw [Bool.eq_iff_iff]; simp; omega
            go_wp2_with (go_at_call 10; refine (step_down3 q m N true false _ _ HV3.out).mono ?_; rintro e w5 ⟨a5, n5, c5, rfl, hv5, hfr5, hb5⟩; rw [HE.out] at hv5; have HV5 := Lib.hid hv5; obtain ⟨b5, off5, rfl, rfl, hbl5, g1, g2, g3⟩ := Vals3 hv5; have k1 := (hb5.cell (p := ⟨b, off + k, none⟩) hb3).trans c1; have hbr5 := Below_tr hbr hb5; clear hv5 hfr5 hb5)
            go_roundw
            case rel => exact ⟨k + 1, _, _, false, _, _, _, by omega, by go_num, rfl, rfl, rfl, HI.out.1, HI.out.2, HV5.out, hbr5⟩
            case measure => simp [intOf]; omega
        · cases was
          · by_cases hcc : m ≤ 0
            · have HN : Hid (cnt2 m N true false = N) := by simp [Hid, cnt2, hcc]
              rw [HN.out] at HE HI
              have hq : ((N : Int) == 0) = decide ((N : Int) ≤ 0) := by have := HI.out; rw [Bool.eq_iff_iff]; simp; omega
              go_wp2_with (go_at_call 10; refine (step_down3 q m N false true _ _ HV3.out).mono ?_; rintro e w5 ⟨a5, n5, c5, rfl, hv5, hfr5, hb5⟩; rw [HE.out] at hv5; have HV5 := Lib.hid hv5; obtain ⟨b5, off5, rfl, rfl, hbl5, g1, g2, g3⟩ := Vals3 hv5; have k1 := (hb5.cell (p := ⟨b, off + k, none⟩) hb3).trans c1; have hbr5 := Below_tr hbr hb5; clear hv5 hfr5 hb5)
              go_roundw
              case rel => exact ⟨k + 1, _, _, true, _, _, _, by omega, by go_num, rfl, rfl, rfl, HI.out.1, HI.out.2, HV5.out, hbr5⟩
              case measure => simp [intOf]; omega
            · have HN : Hid (cnt2 m N true false = (m - 1)) := by simp [Hid, cnt2, hcc]
              rw [HN.out] at HE HI
              have hq : (((m - 1) : Int) == 0) = decide (((m - 1) : Int) ≤ 0) := by have := HI.out; rw [Bool.eq_iff_iff]; simp; omega
              go_wp2_with (go_at_call 10; refine (step_down3 q m N false true _ _ HV3.out).mono ?_; rintro e w5 ⟨a5, n5, c5, rfl, hv5, hfr5, hb5⟩; rw [HE.out] at hv5; have HV5 := Lib.hid hv5; obtain ⟨b5, off5, rfl, rfl, hbl5, g1, g2, g3⟩ := Vals3 hv5; have k1 := (hb5.cell (p := ⟨b, off + k, none⟩) hb3).trans c1; have hbr5 := Below_tr hbr hb5; clear hv5 hfr5 hb5)
              go_roundw
              case rel => exact ⟨k + 1, _, _, true, _, _, _, by omega, by go_num, rfl, rfl, rfl, HI.out.1, HI.out.2, HV5.out, hbr5⟩
              case measure => simp [intOf]; omega
          · have HN : Hid (cnt2 m N true true = m) := by simp [Hid, cnt2]
            rw [HN.out] at HE HI
            have hq : ((m : Int) == 0) = decide ((m : Int) ≤ 0) := by have := HI.out; rw [Bool.eq_iff_iff]; simp; omega
            go_wp2_with (go_at_call 10; refine (step_down3 q m N true true _ _ HV3.out).mono ?_; rintro e w5 ⟨a5, n5, c5, rfl, hv5, hfr5, hb5⟩; rw [HE.out] at hv5; have HV5 := Lib.hid hv5; obtain ⟨b5, off5, rfl, rfl, hbl5, g1, g2, g3⟩ := Vals3 hv5; have k1 := (hb5.cell (p := ⟨b, off + k, none⟩) hb3).trans c1; have hbr5 := Below_tr hbr hb5; clear hv5 hfr5 hb5)
            go_roundw
            case rel => exact ⟨k + 1, _, _, true, _, _, _, by omega, by go_num, rfl, rfl, rfl, HI.out.1, HI.out.2, HV5.out, hbr5⟩
            case measure => simp [intOf]; omega
      · go_wp2
        go_ret
        exact ⟨rfl, hbr⟩
end Go.Proofs.Ytcdbodpmcnebiaa
