/-
  The walk of CntUp.
-/
import Derived.Test.YtcdbodpmcnebiaaCntLaw
import Derived.Test.YtcdbodpmcnebiaaBools
namespace Go.Proofs.Ytcdbodpmcnebiaa
open Go.RowKit

theorem step_up3 (q n pv : Int) (was inn : Bool) (x : Value) (w : World) (hx : Vals w x [⟨1, q, 0⟩, ⟨2, n, 0⟩, ⟨1, truthI was, 0⟩]) :
    Calls Try.prog 10 #[.int .i64 9, x, .bool inn, .int .i64 pv] w (RetVals w (upV n (truthI was) inn pv)) :=
  step_up x ⟨1, q, 0⟩ ⟨2, n, 0⟩ ⟨1, truthI was, 0⟩ inn pv w hx rfl rfl rfl
theorem truthI_one (b : Bool) : (truthI b == 1) = b := by cases b <;> rfl
theorem truthI_nought (b : Bool) : (truthI b == 0) = !b := by cases b <;> rfl
/-- what comes of the count, as the law reckons it -/
def cnt1 (n : Int) (inn was : Bool) : Int := if inn && !was then min (n + 1) 32767 else n
theorem upV_eq (n pv : Int) (inn was : Bool) (hn : -32768 ≤ n ∧ n ≤ 32767) : upV n (truthI was) inn pv = [⟨1, truthI (decide (pv ≤ cnt1 n inn was)), 0⟩, ⟨2, cnt1 n inn was, 0⟩, ⟨1, truthI inn, 0⟩] := by
  have e : wrap64 (n + 1) = n + 1 := by unfold wrap64; omega
  simp [upV, cnt1, truthI_nought, e]
theorem cnt1_in (n : Int) (inn was : Bool) (hn : -32768 ≤ n ∧ n ≤ 32767) : -32768 ≤ cnt1 n inn was ∧ cnt1 n inn was ≤ 32767 := by
  unfold cnt1
  split <;> omega

set_option maxRecDepth 100000 in
set_option maxHeartbeats 2000000 in
theorem up_law (x : Value) (ins : List Bool) (pv fr : Int) (w : World) (hx : Bools w x ins) (hp : -32768 ≤ pv ∧ pv ≤ 32767) (hf : -32768 ≤ fr ∧ fr ≤ 32767) :
    Calls Try.prog 3 #[x, .int .i16 pv, .int .i16 fr] w fun e w' => e = .returned (.bool true) ∧ Below w.heap.size w w' := by
  obtain ⟨a, cap, rfl, hm, hc⟩ := hx.parts
  unfold maxLen at hm
  have HC := Lib.hid hc
  have HF := Lib.hid hf
  obtain ⟨hp1, hp2⟩ := hp
  obtain ⟨hf1, hf2⟩ := hf
  clear hx hc
  by_cases hl : 40 < ins.length
  · go_enter Try.func3, Try.ntmps3
    go_wp2_with (go_at_call 8; refine (begun_any _).mono ?_; rintro e w1 ⟨rfl, hb1⟩)
    go_ret
    exact ⟨rfl, hb1⟩
  · go_enter Try.func3, Try.ntmps3
    go_wp2_with (first | (go_at_call 8; refine (begun_any _).mono ?_; rintro e w1 ⟨rfl, hb1⟩) | (go_at_call 9; refine (cells_any false false fr HF.out _).mono ?_; rintro e w2 ⟨a2, n2, c2, rfl, hv, hfr, hb2⟩; have HV := Lib.hid hv; have hb12 := Below_tr hb1 hb2; clear hv hfr hb2))
    go_loopw [7, 8, 9, 10] (fun c n wa i wr => ∃ (k : Nat) (m q : Int) (was : Bool) (a3 : Option Addr) (n3 c3 : Nat), k ≤ ins.length ∧ i = .int .i64 k ∧ n = .int .i64 m ∧ wa = .bool was ∧ c = .slice a3 n3 c3 ∧ -32768 ≤ m ∧ m ≤ 32767 ∧ Vals wr c [⟨1, q, 0⟩, ⟨2, m, 0⟩, ⟨1, truthI was, 0⟩] ∧ Below w.heap.size w wr) (fun _ _ _ i _ => ins.length - (intOf i).toNat)
    case atStart => exact ⟨0, fr, truthI false, false, a2, n2, c2, by omega, rfl, rfl, rfl, rfl, hf1, hf2, HV.out, hb12⟩
    case round =>
      obtain ⟨k, m, q, was, a3, n3, c3, hk, rfl, rfl, rfl, rfl, hm1, hm2, hv3, hbr⟩ := hrel
      clear HV hb12 hb1
      by_cases hlt : k < ins.length
      · obtain ⟨b, off, rfl, hbl, hcell⟩ := HC.out (by intro h; simp [h] at hlt)
        have c1 := (hbr.cell (p := ⟨b, off + k, none⟩) hbl).trans (hcell k hlt)
        have HV3 := Lib.hid hv3
        clear hcell hv3
        generalize ins.getD k false = inn at c1
        have HE := Lib.hid (upV_eq m pv inn was ⟨hm1, hm2⟩)
        have HI := Lib.hid (cnt1_in m inn was ⟨hm1, hm2⟩)
        have t1 := truthI_one
        have hb3 := Nat.lt_of_lt_of_le hbl hbr.size
        cases inn
        · cases was
          · have HN : Hid (cnt1 m false false = m) := by simp [Hid, cnt1]
            rw [HN.out] at HE HI
            go_wp2_with (go_at_call 10; refine (step_up3 q m pv false false _ _ HV3.out).mono ?_; rintro e w5 ⟨a5, n5, c5, rfl, hv5, hfr5, hb5⟩; rw [HE.out] at hv5; have HV5 := Lib.hid hv5; obtain ⟨b5, off5, rfl, rfl, hbl5, g1, g2, g3⟩ := Vals3 hv5; have k1 := (hb5.cell (p := ⟨b, off + k, none⟩) hb3).trans c1; have hbr5 := Below_tr hbr hb5; clear hv5 hfr5 hb5)
            go_roundw
            case rel => exact ⟨k + 1, _, _, false, _, _, _, by omega, by go_num, rfl, rfl, rfl, HI.out.1, HI.out.2, HV5.out, hbr5⟩
            case measure => simp [intOf]; omega
          · have HN : Hid (cnt1 m false true = m) := by simp [Hid, cnt1]
            rw [HN.out] at HE HI
            go_wp2_with (go_at_call 10; refine (step_up3 q m pv true false _ _ HV3.out).mono ?_; rintro e w5 ⟨a5, n5, c5, rfl, hv5, hfr5, hb5⟩; rw [HE.out] at hv5; have HV5 := Lib.hid hv5; obtain ⟨b5, off5, rfl, rfl, hbl5, g1, g2, g3⟩ := Vals3 hv5; have k1 := (hb5.cell (p := ⟨b, off + k, none⟩) hb3).trans c1; have hbr5 := Below_tr hbr hb5; clear hv5 hfr5 hb5)
            go_roundw
            case rel => exact ⟨k + 1, _, _, false, _, _, _, by omega, by go_num, rfl, rfl, rfl, HI.out.1, HI.out.2, HV5.out, hbr5⟩
            case measure => simp [intOf]; omega
        · cases was
          · by_cases hcc : 32767 < m + 1
            · have HN : Hid (cnt1 m true false = 32767) := by simp [Hid, cnt1]; omega
              rw [HN.out] at HE HI
              go_wp2_with (go_at_call 10; refine (step_up3 q m pv false true _ _ HV3.out).mono ?_; rintro e w5 ⟨a5, n5, c5, rfl, hv5, hfr5, hb5⟩; rw [HE.out] at hv5; have HV5 := Lib.hid hv5; obtain ⟨b5, off5, rfl, rfl, hbl5, g1, g2, g3⟩ := Vals3 hv5; have k1 := (hb5.cell (p := ⟨b, off + k, none⟩) hb3).trans c1; have hbr5 := Below_tr hbr hb5; clear hv5 hfr5 hb5)
              go_roundw
              case rel => exact ⟨k + 1, _, _, true, _, _, _, by omega, by go_num, rfl, rfl, rfl, HI.out.1, HI.out.2, HV5.out, hbr5⟩
              case measure => simp [intOf]; omega
            · have HN : Hid (cnt1 m true false = m + 1) := by simp [Hid, cnt1]; omega
              rw [HN.out] at HE HI
              go_wp2_with (go_at_call 10; refine (step_up3 q m pv false true _ _ HV3.out).mono ?_; rintro e w5 ⟨a5, n5, c5, rfl, hv5, hfr5, hb5⟩; rw [HE.out] at hv5; have HV5 := Lib.hid hv5; obtain ⟨b5, off5, rfl, rfl, hbl5, g1, g2, g3⟩ := Vals3 hv5; have k1 := (hb5.cell (p := ⟨b, off + k, none⟩) hb3).trans c1; have hbr5 := Below_tr hbr hb5; clear hv5 hfr5 hb5)
              go_roundw
              case rel => exact ⟨k + 1, _, _, true, _, _, _, by omega, by go_num, rfl, rfl, rfl, HI.out.1, HI.out.2, HV5.out, hbr5⟩
              case measure => simp [intOf]; omega
          · have HN : Hid (cnt1 m true true = m) := by simp [Hid, cnt1]
            rw [HN.out] at HE HI
            go_wp2_with (go_at_call 10; refine (step_up3 q m pv true true _ _ HV3.out).mono ?_; rintro e w5 ⟨a5, n5, c5, rfl, hv5, hfr5, hb5⟩; rw [HE.out] at hv5; have HV5 := Lib.hid hv5; obtain ⟨b5, off5, rfl, rfl, hbl5, g1, g2, g3⟩ := Vals3 hv5; have k1 := (hb5.cell (p := ⟨b, off + k, none⟩) hb3).trans c1; have hbr5 := Below_tr hbr hb5; clear hv5 hfr5 hb5)
            go_roundw
            case rel => exact ⟨k + 1, _, _, true, _, _, _, by omega, by go_num, rfl, rfl, rfl, HI.out.1, HI.out.2, HV5.out, hbr5⟩
            case measure => simp [intOf]; omega
      · go_wp2
        go_ret
        exact ⟨rfl, hbr⟩
end Go.Proofs.Ytcdbodpmcnebiaa
