/-
  The walk of CntEdges.
-/
import Derived.Test.YtcdbodpmcnebiaaCntLaw
import Derived.Test.YtcdbodpmcnebiaaBools
import Derived.Deep.QuietTactic
import Derived.BigQuiet
import Derived.WalkSmall
import Derived.Deep.RegionHeld3
namespace Go.Proofs.Ytcdbodpmcnebiaa
open Go.RowKit

/-- an edge block's own cells -/
def riseC (q : Int) (was : Bool) : List V := [⟨1, q, 0⟩, ⟨1, truthI was, 0⟩]
theorem hU : truthI false = 0 := rfl
theorem hT : truthI true = 1 := rfl
theorem tr_lo (D : Nat) (b : Bool) : (D : Int) ≤ D + truthI b := by cases b <;> unfold truthI <;> omega
theorem tr_hi (D : Nat) (b : Bool) : (D : Int) + truthI b ≤ D + 1 := by cases b <;> unfold truthI <;> omega
theorem tr_lt (D : Nat) (b : Bool) : decide ((D : Int) < D + truthI b) = b := by
  cases b
  · exact decide_eq_false (by rw [hU]; omega)
  · exact decide_eq_true (by rw [hT]; omega)
theorem rise3 (q : Int) (was inn : Bool) (x : Value) (w : World) (hx : Vals w x (riseC q was)) :
    Calls Try.prog 10 #[.int .i64 11, x, .bool inn, .int .i64 0] w (RetVals w (riseC (truthI (inn && !was)) inn)) := by
  have h := step_rise x ⟨1, q, 0⟩ ⟨1, truthI was, 0⟩ inn 0 w hx rfl rfl
  have e : edgeV (truthI was) inn true = riseC (truthI (inn && !was)) inn := by cases inn <;> cases was <;> rfl
  rw [← e]; exact h
theorem fall3 (q : Int) (was inn : Bool) (x : Value) (w : World) (hx : Vals w x (riseC q was)) :
    Calls Try.prog 10 #[.int .i64 12, x, .bool inn, .int .i64 0] w (RetVals w (riseC (truthI (!inn && was)) inn)) := by
  have h := step_fall x ⟨1, q, 0⟩ ⟨1, truthI was, 0⟩ inn 0 w hx rfl rfl
  have e : edgeV (truthI was) inn false = riseC (truthI (!inn && was)) inn := by cases inn <;> cases was <;> rfl
  rw [← e]; exact h

set_option linter.unusedSimpArgs false
set_option maxRecDepth 100000 in
set_option maxHeartbeats 2000000 in
theorem edges_law (x : Value) (ins : List Bool) (w : World) (hx : Bools w x ins) :
    Calls Try.prog 5 #[x] w fun e w' => e = .returned (.bool true) ∧ Below w.heap.size w w' := by
  obtain ⟨a, cap, rfl, hm, hc⟩ := hx.parts
  unfold maxLen at hm
  have HC := Lib.hid hc
  clear hx hc
  by_cases hl : 60 < ins.length
  · go_enter Try.func5, Try.ntmps5
    go_wp2_with (go_at_call 8; refine (begun_any _).mono ?_; rintro e w1 ⟨rfl, hb1⟩)
    go_ret
    exact ⟨rfl, hb1⟩
  · go_enter Try.func5, Try.ntmps5
    go_wp2_with (go_at_call 8; refine (begun_any _).mono ?_; rintro e w1 ⟨rfl, hb1⟩)
    go_loopw [3, 4, 5, 6, 7, 8] (fun r f u d wa i wr => ∃ (k : Nat) (D : Nat) (q q2 : Int) (was : Bool) (a3 : Option Addr) (n3 c3 : Nat) (a4 : Option Addr) (n4 c4 : Nat), k ≤ ins.length ∧ i = .int .i64 k ∧ D ≤ k ∧ u = .int .i64 (D + truthI was) ∧ d = .int .i64 D ∧ wa = .bool was ∧ r = .slice a3 n3 c3 ∧ f = .slice a4 n4 c4 ∧ Vals wr r (riseC q was) ∧ Vals wr f (riseC q2 was) ∧ Below w.heap.size w wr) (fun _ _ _ _ _ i _ => ins.length - (intOf i).toNat)
    case atStart =>
      refine ⟨0, 0, 0, 0, false, _, _, _, _, _, _, by omega, rfl, by omega, rfl, rfl, rfl, rfl, rfl, ?_, ?_, ?_⟩
      · refine Vals.kept (w := w1.alloc _) ?_ (Below_al (Below.refl _ _) _) (Nat.le_refl _)
        exact Vals.made _ _ _ 2 2 (riseC 0 false) rfl rfl (by decide) (by decide)
      · have h2 := Vals.made (w1.alloc (.cells #[.int .i64 1, .int .i64 0, .float .f64 0, .int .i64 1, .int .i64 0, .float .f64 0] 30)) #[.int .i64 1, .int .i64 0, .float .f64 0, .int .i64 1, .int .i64 0, .float .f64 0] 30 2 2 (riseC 0 false) rfl rfl (by decide) (by decide)
        rw [World.size_alloc] at h2
        exact h2
      · exact Below_al (Below_al hb1 _) _
    case round =>
      obtain ⟨k, D, q, q2, was, a3, n3, c3, a4, n4, c4, hk, rfl, hD, rfl, rfl, rfl, rfl, rfl, hv3, hv4, hbr⟩ := hrel
      clear hb1
      by_cases hlt : k < ins.length
      · obtain ⟨b, off, rfl, hbl, hcell⟩ := HC.out (by intro h; simp [h] at hlt)
        have c1 := (hbr.cell (p := ⟨b, off + k, none⟩) hbl).trans (hcell k hlt)
        have HV3 := Lib.hid hv3
        have HV4 := Lib.hid hv4
        clear hcell hv3 hv4
        generalize ins.getD k false = inn at c1
        have hb3 := Nat.lt_of_lt_of_le hbl hbr.size
        cases inn
        · cases was
          · go_wp2
            go_region_held3 (fun w' => w'.cell? ⟨b, off + k, none⟩ = some (.bool false))
              (first | go_keep | exact i6 | exact i5)
              (first | (go_at_call 10; (with_reducible refine (rise3 q false false _ _ ?_).mono ?_); (exact HV3.out.kept (B := wr.heap.size) (Below.refl _ _).drew (Nat.le_refl _)); rintro e w5 ⟨a5, n5, c5, rfl, hv5, hfr5, hb5⟩; have hbr5 := hbr.trans ((Below.refl w.heap.size wr).drew.trans (hb5.mono (by simpa using hbr.size))); have hz5 := Nat.lt_of_lt_of_le hb3 (by simpa using hb5.size); have i5 := (hb5.cell (p := ⟨b, off + k, none⟩) (by simpa using hb3)).trans c1; have hw5 := HV4.out.kept (B := wr.heap.size) ((Below.refl wr.heap.size wr).drew.trans (hb5.mono (by simp))) (Nat.le_refl _)) | (go_at_call 10; (with_reducible refine (fall3 q2 false false _ _ ?_).mono ?_); (exact hw5); rintro e w6 ⟨a6, n6, c6, rfl, hv6, hfr6, hb6⟩; have i6 := (hb6.cell (p := ⟨b, off + k, none⟩) hz5).trans i5))
            have hb56 := hbr5.trans (hb6.mono hbr5.size)
            have hv56 := hv5.kept hb6 (Nat.le_refl _)
            have HV5 : Hid (Vals w6 (.slice a5 n5 c5) (riseC 0 false)) := Lib.hid hv56
            have HV6 : Hid (Vals w6 (.slice a6 n6 c6) (riseC 0 false)) := Lib.hid hv6
            obtain ⟨b5, off5, rfl, rfl, hbl5, g1, g2⟩ := Vals2 (p := ⟨1, 0, 0⟩) HV5.out
            obtain ⟨b6, off6, rfl, rfl, hbl6, k1, k2⟩ := Vals2 (p := ⟨1, 0, 0⟩) HV6.out
            clear hfr5 hfr6 hv5 hv6 hv56 hb5 hb6 hbr5 hw5 i5 g2 k2
            go_wp2
            go_quiet (fail)
            go_wp2
            go_quiet (fail)
            go_wp2
            go_roundw
            case rel => exact ⟨k + 1, D, _, _, false, _, _, _, _, _, _, by omega, by go_num, by omega, congrArg (Value.int .i64) (by simp only [hU, hT]; unfold wrap64; omega), congrArg (Value.int .i64) (by omega), rfl, rfl, rfl, HV5.out, HV6.out, below_drewN hb56 _⟩
            case measure => simp [intOf]; omega
          · go_wp2
            go_region_held3 (fun w' => w'.cell? ⟨b, off + k, none⟩ = some (.bool false))
              (first | go_keep | exact i6 | exact i5)
              (first | (go_at_call 10; (with_reducible refine (rise3 q true false _ _ ?_).mono ?_); (exact HV3.out.kept (B := wr.heap.size) (Below.refl _ _).drew (Nat.le_refl _)); rintro e w5 ⟨a5, n5, c5, rfl, hv5, hfr5, hb5⟩; have hbr5 := hbr.trans ((Below.refl w.heap.size wr).drew.trans (hb5.mono (by simpa using hbr.size))); have hz5 := Nat.lt_of_lt_of_le hb3 (by simpa using hb5.size); have i5 := (hb5.cell (p := ⟨b, off + k, none⟩) (by simpa using hb3)).trans c1; have hw5 := HV4.out.kept (B := wr.heap.size) ((Below.refl wr.heap.size wr).drew.trans (hb5.mono (by simp))) (Nat.le_refl _)) | (go_at_call 10; (with_reducible refine (fall3 q2 true false _ _ ?_).mono ?_); (exact hw5); rintro e w6 ⟨a6, n6, c6, rfl, hv6, hfr6, hb6⟩; have i6 := (hb6.cell (p := ⟨b, off + k, none⟩) hz5).trans i5))
            have hb56 := hbr5.trans (hb6.mono hbr5.size)
            have hv56 := hv5.kept hb6 (Nat.le_refl _)
            have HV5 : Hid (Vals w6 (.slice a5 n5 c5) (riseC 0 false)) := Lib.hid hv56
            have HV6 : Hid (Vals w6 (.slice a6 n6 c6) (riseC 1 false)) := Lib.hid hv6
            obtain ⟨b5, off5, rfl, rfl, hbl5, g1, g2⟩ := Vals2 (p := ⟨1, 0, 0⟩) HV5.out
            obtain ⟨b6, off6, rfl, rfl, hbl6, k1, k2⟩ := Vals2 (p := ⟨1, 1, 0⟩) HV6.out
            clear hfr5 hfr6 hv5 hv6 hv56 hb5 hb6 hbr5 hw5 i5 g2 k2
            go_wp2
            go_quiet (fail)
            go_wp2
            go_quiet (fail)
            go_wp2
            go_roundw
            case rel => exact ⟨k + 1, D + 1, _, _, false, _, _, _, _, _, _, by omega, by go_num, by omega, congrArg (Value.int .i64) (by simp only [hU, hT]; unfold wrap64; omega), congrArg (Value.int .i64) (by omega), rfl, rfl, rfl, HV5.out, HV6.out, below_drewN hb56 _⟩
            case measure => simp [intOf]; omega
        · cases was
          · go_wp2
            go_region_held3 (fun w' => w'.cell? ⟨b, off + k, none⟩ = some (.bool true))
              (first | go_keep | exact i6 | exact i5)
              (first | (go_at_call 10; (with_reducible refine (rise3 q false true _ _ ?_).mono ?_); (exact HV3.out.kept (B := wr.heap.size) (Below.refl _ _).drew (Nat.le_refl _)); rintro e w5 ⟨a5, n5, c5, rfl, hv5, hfr5, hb5⟩; have hbr5 := hbr.trans ((Below.refl w.heap.size wr).drew.trans (hb5.mono (by simpa using hbr.size))); have hz5 := Nat.lt_of_lt_of_le hb3 (by simpa using hb5.size); have i5 := (hb5.cell (p := ⟨b, off + k, none⟩) (by simpa using hb3)).trans c1; have hw5 := HV4.out.kept (B := wr.heap.size) ((Below.refl wr.heap.size wr).drew.trans (hb5.mono (by simp))) (Nat.le_refl _)) | (go_at_call 10; (with_reducible refine (fall3 q2 false true _ _ ?_).mono ?_); (exact hw5); rintro e w6 ⟨a6, n6, c6, rfl, hv6, hfr6, hb6⟩; have i6 := (hb6.cell (p := ⟨b, off + k, none⟩) hz5).trans i5))
            have hb56 := hbr5.trans (hb6.mono hbr5.size)
            have hv56 := hv5.kept hb6 (Nat.le_refl _)
            have HV5 : Hid (Vals w6 (.slice a5 n5 c5) (riseC 1 true)) := Lib.hid hv56
            have HV6 : Hid (Vals w6 (.slice a6 n6 c6) (riseC 0 true)) := Lib.hid hv6
            obtain ⟨b5, off5, rfl, rfl, hbl5, g1, g2⟩ := Vals2 (p := ⟨1, 1, 0⟩) HV5.out
            obtain ⟨b6, off6, rfl, rfl, hbl6, k1, k2⟩ := Vals2 (p := ⟨1, 0, 0⟩) HV6.out
            clear hfr5 hfr6 hv5 hv6 hv56 hb5 hb6 hbr5 hw5 i5 g2 k2
            go_wp2
            go_quiet (fail)
            go_wp2
            go_quiet (fail)
            go_wp2
            go_roundw
            case rel => exact ⟨k + 1, D, _, _, true, _, _, _, _, _, _, by omega, by go_num, by omega, congrArg (Value.int .i64) (by simp only [hU, hT]; unfold wrap64; omega), congrArg (Value.int .i64) (by omega), rfl, rfl, rfl, HV5.out, HV6.out, below_drewN hb56 _⟩
            case measure => simp [intOf]; omega
          · go_wp2
            go_region_held3 (fun w' => w'.cell? ⟨b, off + k, none⟩ = some (.bool true))
              (first | go_keep | exact i6 | exact i5)
              (first | (go_at_call 10; (with_reducible refine (rise3 q true true _ _ ?_).mono ?_); (exact HV3.out.kept (B := wr.heap.size) (Below.refl _ _).drew (Nat.le_refl _)); rintro e w5 ⟨a5, n5, c5, rfl, hv5, hfr5, hb5⟩; have hbr5 := hbr.trans ((Below.refl w.heap.size wr).drew.trans (hb5.mono (by simpa using hbr.size))); have hz5 := Nat.lt_of_lt_of_le hb3 (by simpa using hb5.size); have i5 := (hb5.cell (p := ⟨b, off + k, none⟩) (by simpa using hb3)).trans c1; have hw5 := HV4.out.kept (B := wr.heap.size) ((Below.refl wr.heap.size wr).drew.trans (hb5.mono (by simp))) (Nat.le_refl _)) | (go_at_call 10; (with_reducible refine (fall3 q2 true true _ _ ?_).mono ?_); (exact hw5); rintro e w6 ⟨a6, n6, c6, rfl, hv6, hfr6, hb6⟩; have i6 := (hb6.cell (p := ⟨b, off + k, none⟩) hz5).trans i5))
            have hb56 := hbr5.trans (hb6.mono hbr5.size)
            have hv56 := hv5.kept hb6 (Nat.le_refl _)
            have HV5 : Hid (Vals w6 (.slice a5 n5 c5) (riseC 0 true)) := Lib.hid hv56
            have HV6 : Hid (Vals w6 (.slice a6 n6 c6) (riseC 0 true)) := Lib.hid hv6
            obtain ⟨b5, off5, rfl, rfl, hbl5, g1, g2⟩ := Vals2 (p := ⟨1, 0, 0⟩) HV5.out
            obtain ⟨b6, off6, rfl, rfl, hbl6, k1, k2⟩ := Vals2 (p := ⟨1, 0, 0⟩) HV6.out
            clear hfr5 hfr6 hv5 hv6 hv56 hb5 hb6 hbr5 hw5 i5 g2 k2
            go_wp2
            go_quiet (fail)
            go_wp2
            go_quiet (fail)
            go_wp2
            go_roundw
            case rel => exact ⟨k + 1, D, _, _, true, _, _, _, _, _, _, by omega, by go_num, by omega, congrArg (Value.int .i64) (by simp only [hU, hT]; unfold wrap64; omega), congrArg (Value.int .i64) (by omega), rfl, rfl, rfl, HV5.out, HV6.out, below_drewN hb56 _⟩
            case measure => simp [intOf]; omega
      · clear HC
        have e1 := tr_lo D was
        have e2 := tr_hi D was
        have e3 := tr_lt D was
        go_wp2
        go_ret
        exact ⟨by simp, hbr⟩
end Go.Proofs.Ytcdbodpmcnebiaa
