/-
  The walk of NumTurn.
-/
import Derived.Test.YtaomflhkclljdaaNumLaw
namespace Go.Proofs.Ytaomflhkclljdaa
open Go.RowKit

theorem back (k a b : Int) (h : 2 ≤ k) (h' : k ≤ 4) : wrapK k (wrap64 (wrapK k (wrap64 (wrapK k a + wrapK k b)) - wrapK k b)) = wrapK k (wrap64 (wrapK k a)) := by
  unfold wrap64
  rcases kinds k h h' with rfl | rfl | rfl
  · simp only [wrapK_2]; omega
  · simp only [wrapK_3]; omega
  · simp only [wrapK_4]; omega
theorem less (k a b : Int) (h : 2 ≤ k) (h' : k ≤ 4) : wrapK k (wrap64 (wrapK k a + wrapK k (wrap64 (- wrapK k b)))) = wrapK k (wrap64 (wrapK k a - wrapK k b)) := by
  unfold wrap64
  rcases kinds k h h' with rfl | rfl | rfl
  · simp only [wrapK_2]; omega
  · simp only [wrapK_3]; omega
  · simp only [wrapK_4]; omega
theorem same (k a : Int) (h : 2 ≤ k) (h' : k ≤ 4) (ha : (Lit.int .i64 a).wf = true) : wrapK k (wrap64 (wrapK k a)) = wrapK k a := by
  simp [Lit.wf, IntKind.min, IntKind.max, IntKind.signed, IntKind.bits] at ha
  unfold wrap64
  rcases kinds k h h' with rfl | rfl | rfl
  · simp only [wrapK_2]; omega
  · simp only [wrapK_3]; omega
  · simp only [wrapK_4]; omega

set_option maxRecDepth 100000 in
set_option maxHeartbeats 4000000 in
theorem turn_any (a b : Int) (w : World) (ha : (Lit.int .i64 a).wf = true) : Calls Try.prog 6 #[.int .i64 a, .int .i64 b] w fun e w' => e = .returned (.bool true) ∧ Below w.heap.size w w' := by
  have HA := Lib.hid ha
  clear ha
  go_enter Try.func6, Try.ntmps6
  go_wp2_with (go_at_call 7; refine (begun_any _).mono ?_; rintro e w1 ⟨rfl, hb1⟩)
  go_loopw [5] (fun i wr => ∃ k : Int, 2 ≤ k ∧ k ≤ 5 ∧ i = .int .i64 k ∧ Below w.heap.size w wr) (fun i _ => (5 - intOf i).toNat)
  case atStart => exact ⟨2, by omega, by omega, rfl, hb1⟩
  case round =>
    obtain ⟨k, hk, hk5, rfl, hbr⟩ := hrel
    clear hb1
    by_cases h4 : k ≤ 4
    · have f1 := (back k a b hk h4).trans (same k a hk h4 HA.out)
      have f2 := less k a b hk h4
      have hX : ∃ X, wrapK k a = X := ⟨_, rfl⟩
      have hY : ∃ Y, wrapK k b = Y := ⟨_, rfl⟩
      obtain ⟨X, hX⟩ := hX
      obtain ⟨Y, hY⟩ := hY
      rw [hX, hY] at f1 f2
      have f3 : Y + X = X + Y := Int.add_comm _ _
      have f4 : Y * X = X * Y := Int.mul_comm _ _
      have t1 : truthI true = 1 := rfl
      have t0 : truthI false = 0 := rfl
      by_cases hlt : X < Y
      · have e1 : decide (X < Y) = true := by simpa using hlt
        have e2 : decide (Y ≤ X) = false := by simp; omega
        have e3 : (X == Y) = false := by simp; omega
        have e4 : (X != Y) = true := by simp; omega
        go_wp2_with (first | (go_at_call 8; refine (wrap_any _ _ _).mono ?_; rintro e w' ⟨rfl, rfl⟩) | (go_at_call 9; (with_reducible refine (chain (do_add _ _ _ hk h4 _) (by assumption)).mono ?_); rintro e w' ⟨rfl, hbr⟩) | (go_at_call 9; (with_reducible refine (chain (do_mul _ _ _ hk h4 _) (by assumption)).mono ?_); rintro e w' ⟨rfl, hbr⟩) | (go_at_call 9; (with_reducible refine (chain (do_sub _ _ _ hk h4 _) (by assumption)).mono ?_); rintro e w' ⟨rfl, hbr⟩) | (go_at_call 9; (with_reducible refine (chain (do_neg _ _ _ hk h4 _) (by assumption)).mono ?_); rintro e w' ⟨rfl, hbr⟩) | (go_at_call 9; (with_reducible refine (chain (do_lt _ _ _ hk h4 _) (by assumption)).mono ?_); rintro e w' ⟨rfl, hbr⟩) | (go_at_call 9; (with_reducible refine (chain (do_le _ _ _ hk h4 _) (by assumption)).mono ?_); rintro e w' ⟨rfl, hbr⟩) | (go_at_call 9; (with_reducible refine (chain (do_eq _ _ _ hk h4 _) (by assumption)).mono ?_); rintro e w' ⟨rfl, hbr⟩) | (go_at_call 9; (with_reducible refine (chain (do_ne _ _ _ hk h4 _) (by assumption)).mono ?_); rintro e w' ⟨rfl, hbr⟩))
        go_roundw
        case rel => exact ⟨k + 1, by omega, by omega, rfl, by assumption⟩
        case measure => simp [intOf]; omega
      · by_cases heq : X = Y
        · subst heq
          go_wp2_with (first | (go_at_call 8; refine (wrap_any _ _ _).mono ?_; rintro e w' ⟨rfl, rfl⟩) | (go_at_call 9; (with_reducible refine (chain (do_add _ _ _ hk h4 _) (by assumption)).mono ?_); rintro e w' ⟨rfl, hbr⟩) | (go_at_call 9; (with_reducible refine (chain (do_mul _ _ _ hk h4 _) (by assumption)).mono ?_); rintro e w' ⟨rfl, hbr⟩) | (go_at_call 9; (with_reducible refine (chain (do_sub _ _ _ hk h4 _) (by assumption)).mono ?_); rintro e w' ⟨rfl, hbr⟩) | (go_at_call 9; (with_reducible refine (chain (do_neg _ _ _ hk h4 _) (by assumption)).mono ?_); rintro e w' ⟨rfl, hbr⟩) | (go_at_call 9; (with_reducible refine (chain (do_lt _ _ _ hk h4 _) (by assumption)).mono ?_); rintro e w' ⟨rfl, hbr⟩) | (go_at_call 9; (with_reducible refine (chain (do_le _ _ _ hk h4 _) (by assumption)).mono ?_); rintro e w' ⟨rfl, hbr⟩) | (go_at_call 9; (with_reducible refine (chain (do_eq _ _ _ hk h4 _) (by assumption)).mono ?_); rintro e w' ⟨rfl, hbr⟩) | (go_at_call 9; (with_reducible refine (chain (do_ne _ _ _ hk h4 _) (by assumption)).mono ?_); rintro e w' ⟨rfl, hbr⟩))
          go_roundw
          case rel => exact ⟨k + 1, by omega, by omega, rfl, by assumption⟩
          case measure => simp [intOf]; omega
        · have e1 : decide (X < Y) = false := by simpa using hlt
          have e2 : decide (Y ≤ X) = true := by simp; omega
          have e3 : (X == Y) = false := by simp; omega
          have e4 : (X != Y) = true := by simp; omega
          go_wp2_with (first | (go_at_call 8; refine (wrap_any _ _ _).mono ?_; rintro e w' ⟨rfl, rfl⟩) | (go_at_call 9; (with_reducible refine (chain (do_add _ _ _ hk h4 _) (by assumption)).mono ?_); rintro e w' ⟨rfl, hbr⟩) | (go_at_call 9; (with_reducible refine (chain (do_mul _ _ _ hk h4 _) (by assumption)).mono ?_); rintro e w' ⟨rfl, hbr⟩) | (go_at_call 9; (with_reducible refine (chain (do_sub _ _ _ hk h4 _) (by assumption)).mono ?_); rintro e w' ⟨rfl, hbr⟩) | (go_at_call 9; (with_reducible refine (chain (do_neg _ _ _ hk h4 _) (by assumption)).mono ?_); rintro e w' ⟨rfl, hbr⟩) | (go_at_call 9; (with_reducible refine (chain (do_lt _ _ _ hk h4 _) (by assumption)).mono ?_); rintro e w' ⟨rfl, hbr⟩) | (go_at_call 9; (with_reducible refine (chain (do_le _ _ _ hk h4 _) (by assumption)).mono ?_); rintro e w' ⟨rfl, hbr⟩) | (go_at_call 9; (with_reducible refine (chain (do_eq _ _ _ hk h4 _) (by assumption)).mono ?_); rintro e w' ⟨rfl, hbr⟩) | (go_at_call 9; (with_reducible refine (chain (do_ne _ _ _ hk h4 _) (by assumption)).mono ?_); rintro e w' ⟨rfl, hbr⟩))
          go_roundw
          case rel => exact ⟨k + 1, by omega, by omega, rfl, by assumption⟩
          case measure => simp [intOf]; omega
    · go_wp2
      go_ret
      exact ⟨rfl, hbr⟩
end Go.Proofs.Ytaomflhkclljdaa
