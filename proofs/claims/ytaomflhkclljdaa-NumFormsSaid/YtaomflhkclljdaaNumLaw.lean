/-
  The walks of annunciatorlaw1: begun and NumWidth; what Do comes to at an operation that is named; the plain law of widths.
-/
import Derived.Test.YtaomflhkclljdaaNumDo
namespace Go.Proofs.Ytaomflhkclljdaa
open Go.RowKit

theorem do_add (k a b : Int) (hk : 2 ≤ k) (hk' : k ≤ 4) (w : World) : Calls Try.prog 9 #[.int .i64 4, .int .i64 k, .int .i64 a, .int .i64 b] w fun e w' => e = .returned (.tuple #[.int .i64 (wrapK k (wrap64 (a + b))), .int .i64 0]) ∧ Below w.heap.size w w' := do_num 4 k a b hk hk' rfl rfl w
theorem do_sub (k a b : Int) (hk : 2 ≤ k) (hk' : k ≤ 4) (w : World) : Calls Try.prog 9 #[.int .i64 5, .int .i64 k, .int .i64 a, .int .i64 b] w fun e w' => e = .returned (.tuple #[.int .i64 (wrapK k (wrap64 (a - b))), .int .i64 0]) ∧ Below w.heap.size w w' := do_num 5 k a b hk hk' rfl rfl w
theorem do_mul (k a b : Int) (hk : 2 ≤ k) (hk' : k ≤ 4) (w : World) : Calls Try.prog 9 #[.int .i64 6, .int .i64 k, .int .i64 a, .int .i64 b] w fun e w' => e = .returned (.tuple #[.int .i64 (wrapK k (wrap64 (a * b))), .int .i64 0]) ∧ Below w.heap.size w w' := do_num 6 k a b hk hk' rfl rfl w
theorem do_neg (k a b : Int) (hk : 2 ≤ k) (hk' : k ≤ 4) (w : World) : Calls Try.prog 9 #[.int .i64 16, .int .i64 k, .int .i64 a, .int .i64 b] w fun e w' => e = .returned (.tuple #[.int .i64 (wrapK k (wrap64 (-a))), .int .i64 0]) ∧ Below w.heap.size w w' := do_num 16 k a b hk hk' rfl rfl w
theorem do_div (k a b : Int) (hk : 2 ≤ k) (hk' : k ≤ 4) (hb : b ≠ 0) (w : World) : Calls Try.prog 9 #[.int .i64 7, .int .i64 k, .int .i64 a, .int .i64 b] w fun e w' => e = .returned (.tuple #[.int .i64 (wrapK k (wrap64 (a.tdiv b))), .int .i64 0]) ∧ Below w.heap.size w w' := by
  have e : numOf 7 a b = (wrap64 (a.tdiv b), 0) := by simp [numOf, hb]
  have h := do_num 7 k a b hk hk' rfl (by rw [e]) w
  rw [e] at h
  exact h
theorem do_div0 (k a : Int) (hk : 2 ≤ k) (hk' : k ≤ 4) (w : World) : Calls Try.prog 9 #[.int .i64 7, .int .i64 k, .int .i64 a, .int .i64 0] w fun e w' => e = .returned (.tuple #[.int .i64 0, .int .i64 5]) ∧ Below w.heap.size w w' := do_num_fail 7 k a 0 hk hk' rfl (by simp [numOf]) w
theorem do_mod (k a b : Int) (hk : 2 ≤ k) (hk' : k ≤ 4) (hb : b ≠ 0) (w : World) : Calls Try.prog 9 #[.int .i64 8, .int .i64 k, .int .i64 a, .int .i64 b] w fun e w' => e = .returned (.tuple #[.int .i64 (wrapK k (a.tmod b)), .int .i64 0]) ∧ Below w.heap.size w w' := by
  have e : numOf 8 a b = (a.tmod b, 0) := by simp [numOf, hb]
  have h := do_num 8 k a b hk hk' rfl (by rw [e]) w
  rw [e] at h
  exact h
theorem do_mod0 (k a : Int) (hk : 2 ≤ k) (hk' : k ≤ 4) (w : World) : Calls Try.prog 9 #[.int .i64 8, .int .i64 k, .int .i64 a, .int .i64 0] w fun e w' => e = .returned (.tuple #[.int .i64 0, .int .i64 5]) ∧ Below w.heap.size w w' := do_num_fail 8 k a 0 hk hk' rfl (by simp [numOf]) w
theorem do_eq (k a b : Int) (hk : 2 ≤ k) (hk' : k ≤ 4) (w : World) : Calls Try.prog 9 #[.int .i64 9, .int .i64 k, .int .i64 a, .int .i64 b] w fun e w' => e = .returned (.tuple #[.int .i64 (truthI (a == b)), .int .i64 0]) ∧ Below w.heap.size w w' := do_cmp 9 k a b hk hk' rfl w
theorem do_ne (k a b : Int) (hk : 2 ≤ k) (hk' : k ≤ 4) (w : World) : Calls Try.prog 9 #[.int .i64 10, .int .i64 k, .int .i64 a, .int .i64 b] w fun e w' => e = .returned (.tuple #[.int .i64 (truthI (a != b)), .int .i64 0]) ∧ Below w.heap.size w w' := do_cmp 10 k a b hk hk' rfl w
theorem do_lt (k a b : Int) (hk : 2 ≤ k) (hk' : k ≤ 4) (w : World) : Calls Try.prog 9 #[.int .i64 11, .int .i64 k, .int .i64 a, .int .i64 b] w fun e w' => e = .returned (.tuple #[.int .i64 (truthI (decide (a < b))), .int .i64 0]) ∧ Below w.heap.size w w' := do_cmp 11 k a b hk hk' rfl w
theorem do_le (k a b : Int) (hk : 2 ≤ k) (hk' : k ≤ 4) (w : World) : Calls Try.prog 9 #[.int .i64 12, .int .i64 k, .int .i64 a, .int .i64 b] w fun e w' => e = .returned (.tuple #[.int .i64 (truthI (decide (a ≤ b))), .int .i64 0]) ∧ Below w.heap.size w w' := do_cmp 12 k a b hk hk' rfl w

/-! ### the plain law of widths -/
theorem wrapK_2 (v : Int) : wrapK 2 v = (v + 32768) % 65536 - 32768 := wrap_16 v
theorem wrapK_3 (v : Int) : wrapK 3 v = (v + 2147483648) % 4294967296 - 2147483648 := by simp [wrapK, wrap32]
theorem wrapK_4 (v : Int) : wrapK 4 v = v := rfl
theorem kinds (k : Int) (h : 2 ≤ k) (h' : k ≤ 4) : k = 2 ∨ k = 3 ∨ k = 4 := by omega
theorem wrapK_idem (k t : Int) (h : 2 ≤ k) (h' : k ≤ 4) : wrapK k (wrapK k t) = wrapK k t := by
  rcases kinds k h h' with rfl | rfl | rfl
  · rw [wrapK_2, wrapK_2]; omega
  · rw [wrapK_3, wrapK_3]; omega
  · rfl
theorem wrapK_less (k a : Int) (h : 2 ≤ k) (h' : k ≤ 4) : wrapK k (wrap64 (a - wrapK k a)) = 0 := by
  unfold wrap64
  rcases kinds k h h' with rfl | rfl | rfl
  · rw [wrapK_2, wrapK_2]; omega
  · rw [wrapK_3, wrapK_3]; omega
  · rw [wrapK_4, wrapK_4]; omega
theorem truth_idem (a : Int) : wrapK 1 (wrapK 1 a) = wrapK 1 a := by
  by_cases h : a = 0
  · subst h; rfl
  · have : wrapK 1 a = 1 := by simp [wrapK, truthI, h]
    rw [this]; rfl

theorem chain {P : Program} {f : FuncId} {args : Array Value} {w0 w : World} {v : Ending} (h : Calls P f args w fun e w' => e = v ∧ Below w.heap.size w w') (hb : Below w0.heap.size w0 w) : Calls P f args w fun e w' => e = v ∧ Below w0.heap.size w0 w' :=
  h.mono fun _ _ ⟨he, h2⟩ => ⟨he, hb.trans (h2.mono hb.size)⟩

set_option maxHeartbeats 1000000 in
theorem begun_any (w : World) : Calls Try.prog 7 #[] w fun e w' => e = .returned (.bool true) ∧ Below w.heap.size w w' := by
  go_enter Try.func7, Try.ntmps7
  go_wp2_with fail
  have h1 := do_add 2 32767 1 (by decide) (by decide) w
  rw [show wrapK 2 (wrap64 (32767 + 1)) = -32768 by rw [wrapK_2]; unfold wrap64; omega] at h1
  refine h1.mono ?_
  rintro e w1 ⟨rfl, hb1⟩
  go_wp2_with fail
  refine (do_div0 3 5 (by decide) (by decide) w1).mono ?_
  rintro e w2 ⟨rfl, hb2⟩
  go_wp2_with fail
  have h3 := do_lt 4 3 5 (by decide) (by decide) w2
  rw [show truthI (decide ((3 : Int) < 5)) = 1 by decide] at h3
  refine h3.mono ?_
  rintro e w3 ⟨rfl, hb3⟩
  go_wp2_with fail
  have h4 := wrap_any 2 32768 w3
  rw [show wrapK 2 32768 = -32768 by rw [wrapK_2]; omega] at h4
  refine h4.mono ?_
  rintro e w4 ⟨rfl, rfl⟩
  go_wp2
  go_ret
  have hb12 := hb1.trans (hb2.mono hb1.size)
  exact ⟨rfl, hb12.trans (hb3.mono hb12.size)⟩

set_option maxHeartbeats 2000000 in
theorem width_any (a b : Int) (w : World) : Calls Try.prog 3 #[.int .i64 a, .int .i64 b] w fun e w' => e = .returned (.bool true) ∧ Below w.heap.size w w' := by
  go_enter Try.func3, Try.ntmps3
  go_wp2_with (go_at_call 7; refine (begun_any _).mono ?_; rintro e w1 ⟨rfl, hb1⟩)
  go_loopw [5] (fun i wr => ∃ k : Int, 2 ≤ k ∧ k ≤ 5 ∧ i = .int .i64 k ∧ Below w.heap.size w wr) (fun i _ => (5 - intOf i).toNat)
  case atStart => exact ⟨2, by omega, by omega, rfl, hb1⟩
  case round =>
    obtain ⟨k, hk, hk5, rfl, hbr⟩ := hrel
    clear hb1
    by_cases h4 : k ≤ 4
    · have i1 := fun t => wrapK_idem k t hk h4
      have i2 := wrapK_less k a hk h4
      go_wp2_with (go_at_call 8; refine (wrap_any _ _ _).mono ?_; rintro e w' ⟨rfl, rfl⟩)
      have i3 := fun t => i1 (wrap64 t)
      refine wp_loop_rounds 4 ?_
      rw [rounds_succ]
      go_wp2_with (first | (go_at_call 8; refine (wrap_any _ _ _).mono ?_; rintro e w' ⟨rfl, rfl⟩) | (go_at_call 9; (with_reducible refine (do_add _ _ _ hk h4 _).mono ?_); rintro e w2 ⟨rfl, hb2⟩))
      rw [rounds_succ]
      go_wp2_with (first | (go_at_call 8; refine (wrap_any _ _ _).mono ?_; rintro e w' ⟨rfl, rfl⟩) | (go_at_call 9; (with_reducible refine (do_sub _ _ _ hk h4 _).mono ?_); rintro e w3 ⟨rfl, hb3⟩))
      rw [rounds_succ]
      go_wp2_with (first | (go_at_call 8; refine (wrap_any _ _ _).mono ?_; rintro e w' ⟨rfl, rfl⟩) | (go_at_call 9; (with_reducible refine (do_mul _ _ _ hk h4 _).mono ?_); rintro e w4 ⟨rfl, hb4⟩))
      rw [rounds_succ]
      go_wp2
      have hbr2 := hbr.trans (hb2.mono hbr.size)
      have hbr3 := hbr2.trans (hb3.mono hbr2.size)
      go_roundw
      case rel => exact ⟨k + 1, by omega, by omega, rfl, hbr3.trans (hb4.mono hbr3.size)⟩
      case measure => simp [intOf]; omega
    · have j1 := truth_idem a
      go_wp2_with (go_at_call 8; refine (wrap_any _ _ _).mono ?_; rintro e w' ⟨rfl, rfl⟩)
      go_ret
      exact ⟨rfl, hbr⟩
end Go.Proofs.Ytaomflhkclljdaa
