/-
  The contract of num.Do.
-/
import Derived.Test.YtaomflhkclljdaaNumW
namespace Go.Proofs.Ytaomflhkclljdaa
open Go.RowKit

set_option maxHeartbeats 1000000 in
theorem do_num (op kind a b : Int) (hk : 2 ≤ kind) (hk' : kind ≤ 4) (hc : cmpIs op = false) (h : (numOf op a b).2 = 0) (w : World) : Calls Try.prog 9 #[.int .i64 op, .int .i64 kind, .int .i64 a, .int .i64 b] w fun e w' => e = .returned (.tuple #[.int .i64 (wrapK kind (numOf op a b).1), .int .i64 0]) ∧ Below w.heap.size w w' := by
  have d1 : (kind == 1) = false := by simp; omega
  have HO := Lib.hid (of_ok op a b h)
  clear h
  revert HO
  generalize (numOf op a b).1 = r
  intro HO
  go_enter_defers Try.func9, Try.ntmps9
  go_wp2_with (first | (go_at_call 12; refine (compares_any _ _ _ _).mono ?_; rintro e w' ⟨rfl, rfl⟩) | (go_at_call 15; refine (HO.out _).mono ?_; rintro e w' ⟨rfl, rfl⟩) | (go_at_call 8; refine (wrap_any _ _ _).mono ?_; rintro e w' ⟨rfl, rfl⟩))
  refine leaves_cons (f := 11) (args := #[.pointer (some ⟨w.heap.size, 0, none⟩), .pointer (some ⟨w.heap.size + 1, 0, none⟩)]) (by simp) (by simp [go_sem]) ?_
  refine (caught_idle _ _ _).mono ?_
  rintro e u' w'' ⟨rfl, rfl, rfl⟩
  simp [Leaves, settle, results, Try.results9, go_sem]
  exact (((Below.refl _ w).alloc (Nat.le_refl _) _).alloc (by simp) _).alloc (by simp; omega) _
set_option maxHeartbeats 1000000 in
theorem do_num_fail (op kind a b : Int) (hk : 2 ≤ kind) (hk' : kind ≤ 4) (hc : cmpIs op = false) (h : (numOf op a b).2 ≠ 0) (w : World) : Calls Try.prog 9 #[.int .i64 op, .int .i64 kind, .int .i64 a, .int .i64 b] w fun e w' => e = .returned (.tuple #[.int .i64 0, .int .i64 (numOf op a b).2]) ∧ Below w.heap.size w w' := by
  have d1 : (kind == 1) = false := by simp; omega
  have HO := Lib.hid (of_fail op a b h)
  clear h
  revert HO
  generalize (numOf op a b).2 = r
  intro HO
  go_enter_defers Try.func9, Try.ntmps9
  go_wp2_with (first | (go_at_call 12; refine (compares_any _ _ _ _).mono ?_; rintro e w' ⟨rfl, rfl⟩) | (go_at_call 15; refine (HO.out _).mono ?_; rintro e w' ⟨rfl, rfl⟩; unfold wrongE) | (go_at_call 8; refine (wrap_any _ _ _).mono ?_; rintro e w' ⟨rfl, rfl⟩))
  refine leaves_cons (f := 11) (args := #[.pointer (some ⟨w.heap.size, 0, none⟩), .pointer (some ⟨w.heap.size + 1, 0, none⟩)]) (by simp) (by simp [go_sem]) ?_
  refine (caught_wrong w.heap.size _ _ 0 0 [] _ rfl (by simp) (by simp [go_sem]) (by simp [go_sem]) (by simp [go_sem]) (by simp [go_sem])).mono ?_
  rintro e u' w'' ⟨rfl, rfl, c1, c2, hb⟩
  simp [Leaves, settle, results, Try.results9, go_sem, c1, c2]
  exact (((Below.refl _ w).alloc (Nat.le_refl _) _).alloc (by simp) _).trans hb
set_option maxHeartbeats 1000000 in
theorem do_cmp (op kind a b : Int) (hk : 2 ≤ kind) (hk' : kind ≤ 4) (hc : cmpIs op = true) (w : World) : Calls Try.prog 9 #[.int .i64 op, .int .i64 kind, .int .i64 a, .int .i64 b] w fun e w' => e = .returned (.tuple #[.int .i64 (truthI (cmpSo op a b)), .int .i64 0]) ∧ Below w.heap.size w w' := by
  have d1 : (kind == 1) = false := by simp; omega
  go_enter_defers Try.func9, Try.ntmps9
  go_wp2_with (first | (go_at_call 12; refine (compares_any _ _ _ _).mono ?_; rintro e w' ⟨rfl, rfl⟩) | (go_at_call 10; refine (truth_any _ _).mono ?_; rintro e w' ⟨rfl, rfl⟩))
  refine leaves_cons (f := 11) (args := #[.pointer (some ⟨w.heap.size, 0, none⟩), .pointer (some ⟨w.heap.size + 1, 0, none⟩)]) (by simp) (by simp [go_sem]) ?_
  refine (caught_idle _ _ _).mono ?_
  rintro e u' w'' ⟨rfl, rfl, rfl⟩
  simp [Leaves, settle, results, Try.results9, go_sem]
  exact (((Below.refl _ w).alloc (Nat.le_refl _) _).alloc (by simp) _).alloc (by simp; omega) _
set_option maxHeartbeats 1000000 in
theorem do_kind (op kind a b : Int) (hk : kind < 1 ∨ 4 < kind) (w : World) : Calls Try.prog 9 #[.int .i64 op, .int .i64 kind, .int .i64 a, .int .i64 b] w fun e w' => e = .returned (.tuple #[.int .i64 0, .int .i64 4]) ∧ Below w.heap.size w w' := by
  rcases hk with hk | hk
  · go_enter_defers Try.func9, Try.ntmps9
    go_wp2_with (first | (go_at_call 12; refine (compares_any _ _ _ _).mono ?_; rintro e w' ⟨rfl, rfl⟩) | (go_at_call 13; refine (fail_any _ _).mono ?_; rintro e w' ⟨rfl, rfl⟩; unfold wrongE))
    refine leaves_cons (f := 11) (args := #[.pointer (some ⟨w.heap.size, 0, none⟩), .pointer (some ⟨w.heap.size + 1, 0, none⟩)]) (by simp) (by simp [go_sem]) ?_
    refine (caught_wrong w.heap.size _ _ 0 0 [] _ rfl (by simp) (by simp [go_sem]) (by simp [go_sem]) (by simp [go_sem]) (by simp [go_sem])).mono ?_
    rintro e u' w'' ⟨rfl, rfl, c1, c2, hb⟩
    simp [Leaves, settle, results, Try.results9, go_sem, c1, c2]
    exact (((Below.refl _ w).alloc (Nat.le_refl _) _).alloc (by simp) _).trans hb
  · have hk2 : ¬ kind < 1 := by omega
    go_enter_defers Try.func9, Try.ntmps9
    go_wp2_with (first | (go_at_call 12; refine (compares_any _ _ _ _).mono ?_; rintro e w' ⟨rfl, rfl⟩) | (go_at_call 13; refine (fail_any _ _).mono ?_; rintro e w' ⟨rfl, rfl⟩; unfold wrongE))
    refine leaves_cons (f := 11) (args := #[.pointer (some ⟨w.heap.size, 0, none⟩), .pointer (some ⟨w.heap.size + 1, 0, none⟩)]) (by simp) (by simp [go_sem]) ?_
    refine (caught_wrong w.heap.size _ _ 0 0 [] _ rfl (by simp) (by simp [go_sem]) (by simp [go_sem]) (by simp [go_sem]) (by simp [go_sem])).mono ?_
    rintro e u' w'' ⟨rfl, rfl, c1, c2, hb⟩
    simp [Leaves, settle, results, Try.results9, go_sem, c1, c2]
    exact (((Below.refl _ w).alloc (Nat.le_refl _) _).alloc (by simp) _).trans hb

def logicI (op a b : Int) : Int := if op = 13 then truthI (a != 0 && b != 0) else if op = 14 then truthI (a != 0 || b != 0) else truthI (a == 0)
set_option maxHeartbeats 1000000 in
theorem logic_13 (a b : Int) (w : World) : Calls Try.prog 14 #[.int .i64 13, .int .i64 a, .int .i64 b] w fun e w' => e = .returned (.int .i64 (truthI (a != 0 && b != 0))) ∧ w = w' := by
  by_cases ha : a = 0
  · by_cases hb : b = 0
    · subst ha; subst hb
      go_enter Try.func14, Try.ntmps14
      go_wp2_with (go_at_call 10; refine (truth_any _ _).mono ?_; rintro e w' ⟨rfl, rfl⟩)
      go_ret
      exact ⟨rfl, rfl⟩
    · subst ha
      have db : (b != 0) = true := by simpa using hb
      rw [db]
      go_enter Try.func14, Try.ntmps14
      go_wp2_with (go_at_call 10; refine (truth_any _ _).mono ?_; rintro e w' ⟨rfl, rfl⟩)
      go_ret
      exact ⟨rfl, rfl⟩
  · have da : (a != 0) = true := by simpa using ha
    go_enter Try.func14, Try.ntmps14
    go_wp2_with (go_at_call 10; refine (truth_any _ _).mono ?_; rintro e w' ⟨rfl, rfl⟩)
    go_ret
    exact ⟨by simp [da], rfl⟩
set_option maxHeartbeats 1000000 in
theorem logic_14 (a b : Int) (w : World) : Calls Try.prog 14 #[.int .i64 14, .int .i64 a, .int .i64 b] w fun e w' => e = .returned (.int .i64 (truthI (a != 0 || b != 0))) ∧ w = w' := by
  by_cases ha : a = 0
  · by_cases hb : b = 0
    · subst ha; subst hb
      go_enter Try.func14, Try.ntmps14
      go_wp2_with (go_at_call 10; refine (truth_any _ _).mono ?_; rintro e w' ⟨rfl, rfl⟩)
      go_ret
      exact ⟨rfl, rfl⟩
    · subst ha
      have db : (b != 0) = true := by simpa using hb
      rw [db]
      go_enter Try.func14, Try.ntmps14
      go_wp2_with (go_at_call 10; refine (truth_any _ _).mono ?_; rintro e w' ⟨rfl, rfl⟩)
      go_ret
      exact ⟨rfl, rfl⟩
  · have da : (a != 0) = true := by simpa using ha
    go_enter Try.func14, Try.ntmps14
    go_wp2_with (go_at_call 10; refine (truth_any _ _).mono ?_; rintro e w' ⟨rfl, rfl⟩)
    go_ret
    exact ⟨by simp [da], rfl⟩
set_option maxHeartbeats 1000000 in
theorem logic_15 (a b : Int) (w : World) : Calls Try.prog 14 #[.int .i64 15, .int .i64 a, .int .i64 b] w fun e w' => e = .returned (.int .i64 (truthI (a == 0))) ∧ w = w' := by
  go_enter Try.func14, Try.ntmps14
  go_wp2_with (go_at_call 10; refine (truth_any _ _).mono ?_; rintro e w' ⟨rfl, rfl⟩)
  go_ret
  exact ⟨rfl, rfl⟩
theorem logic_any (op a b : Int) (h : op = 13 ∨ op = 14 ∨ op = 15) (w : World) : Calls Try.prog 14 #[.int .i64 op, .int .i64 a, .int .i64 b] w fun e w' => e = .returned (.int .i64 (logicI op a b)) ∧ w = w' := by
  rcases h with rfl | rfl | rfl
  · exact logic_13 a b w
  · exact logic_14 a b w
  · exact logic_15 a b w
set_option maxHeartbeats 1000000 in
theorem do_logic (op a b : Int) (h : op = 13 ∨ op = 14 ∨ op = 15) (w : World) : Calls Try.prog 9 #[.int .i64 op, .int .i64 1, .int .i64 a, .int .i64 b] w fun e w' => e = .returned (.tuple #[.int .i64 (logicI op a b), .int .i64 0]) ∧ Below w.heap.size w w' := by
  have HO := Lib.hid (logic_any op a b h)
  generalize logicI op a b = r at HO ⊢
  rcases h with rfl | rfl | rfl
  · go_enter_defers Try.func9, Try.ntmps9
    go_wp2_with (first | (go_at_call 12; refine (compares_any _ _ _ _).mono ?_; rintro e w' ⟨rfl, rfl⟩) | (go_at_call 14; refine (HO.out _).mono ?_; rintro e w' ⟨rfl, rfl⟩))
    refine leaves_cons (f := 11) (args := #[.pointer (some ⟨w.heap.size, 0, none⟩), .pointer (some ⟨w.heap.size + 1, 0, none⟩)]) (by simp) (by simp [go_sem]) ?_
    refine (caught_idle _ _ _).mono ?_
    rintro e u' w'' ⟨rfl, rfl, rfl⟩
    simp [Leaves, settle, results, Try.results9, go_sem]
    exact (((Below.refl _ w).alloc (Nat.le_refl _) _).alloc (by simp) _).alloc (by simp; omega) _
  · go_enter_defers Try.func9, Try.ntmps9
    go_wp2_with (first | (go_at_call 12; refine (compares_any _ _ _ _).mono ?_; rintro e w' ⟨rfl, rfl⟩) | (go_at_call 14; refine (HO.out _).mono ?_; rintro e w' ⟨rfl, rfl⟩))
    refine leaves_cons (f := 11) (args := #[.pointer (some ⟨w.heap.size, 0, none⟩), .pointer (some ⟨w.heap.size + 1, 0, none⟩)]) (by simp) (by simp [go_sem]) ?_
    refine (caught_idle _ _ _).mono ?_
    rintro e u' w'' ⟨rfl, rfl, rfl⟩
    simp [Leaves, settle, results, Try.results9, go_sem]
    exact (((Below.refl _ w).alloc (Nat.le_refl _) _).alloc (by simp) _).alloc (by simp; omega) _
  · go_enter_defers Try.func9, Try.ntmps9
    go_wp2_with (first | (go_at_call 12; refine (compares_any _ _ _ _).mono ?_; rintro e w' ⟨rfl, rfl⟩) | (go_at_call 14; refine (HO.out _).mono ?_; rintro e w' ⟨rfl, rfl⟩))
    refine leaves_cons (f := 11) (args := #[.pointer (some ⟨w.heap.size, 0, none⟩), .pointer (some ⟨w.heap.size + 1, 0, none⟩)]) (by simp) (by simp [go_sem]) ?_
    refine (caught_idle _ _ _).mono ?_
    rintro e u' w'' ⟨rfl, rfl, rfl⟩
    simp [Leaves, settle, results, Try.results9, go_sem]
    exact (((Below.refl _ w).alloc (Nat.le_refl _) _).alloc (by simp) _).alloc (by simp; omega) _
set_option maxHeartbeats 1000000 in
theorem do_truth_cmp (op a b : Int) (h : op = 9 ∨ op = 10) (w : World) : Calls Try.prog 9 #[.int .i64 op, .int .i64 1, .int .i64 a, .int .i64 b] w fun e w' => e = .returned (.tuple #[.int .i64 (truthI (cmpSo op a b)), .int .i64 0]) ∧ Below w.heap.size w w' := by
  rcases h with rfl | rfl
  · go_enter_defers Try.func9, Try.ntmps9
    go_wp2_with (first | (go_at_call 12; refine (compares_any _ _ _ _).mono ?_; rintro e w' ⟨rfl, rfl⟩) | (go_at_call 10; refine (truth_any _ _).mono ?_; rintro e w' ⟨rfl, rfl⟩))
    refine leaves_cons (f := 11) (args := #[.pointer (some ⟨w.heap.size, 0, none⟩), .pointer (some ⟨w.heap.size + 1, 0, none⟩)]) (by simp) (by simp [go_sem]) ?_
    refine (caught_idle _ _ _).mono ?_
    rintro e u' w'' ⟨rfl, rfl, rfl⟩
    simp [Leaves, settle, results, Try.results9, go_sem]
    exact (((Below.refl _ w).alloc (Nat.le_refl _) _).alloc (by simp) _).alloc (by simp; omega) _
  · go_enter_defers Try.func9, Try.ntmps9
    go_wp2_with (first | (go_at_call 12; refine (compares_any _ _ _ _).mono ?_; rintro e w' ⟨rfl, rfl⟩) | (go_at_call 10; refine (truth_any _ _).mono ?_; rintro e w' ⟨rfl, rfl⟩))
    refine leaves_cons (f := 11) (args := #[.pointer (some ⟨w.heap.size, 0, none⟩), .pointer (some ⟨w.heap.size + 1, 0, none⟩)]) (by simp) (by simp [go_sem]) ?_
    refine (caught_idle _ _ _).mono ?_
    rintro e u' w'' ⟨rfl, rfl, rfl⟩
    simp [Leaves, settle, results, Try.results9, go_sem]
    exact (((Below.refl _ w).alloc (Nat.le_refl _) _).alloc (by simp) _).alloc (by simp; omega) _
set_option maxHeartbeats 1000000 in
theorem do_truth_type (op a b : Int) (h : op ≠ 13 ∧ op ≠ 14 ∧ op ≠ 15 ∧ op ≠ 9 ∧ op ≠ 10) (w : World) : Calls Try.prog 9 #[.int .i64 op, .int .i64 1, .int .i64 a, .int .i64 b] w fun e w' => e = .returned (.tuple #[.int .i64 0, .int .i64 4]) ∧ Below w.heap.size w w' := by
  obtain ⟨h1, h2, h3, h4, h5⟩ := h
  have d1 : (op == 13) = false := by simpa using h1
  have d2 : (op == 14) = false := by simpa using h2
  have d3 : (op == 15) = false := by simpa using h3
  have d4 : (op != 9) = true := by simpa using h4
  have d5 : (op != 10) = true := by simpa using h5
  go_enter_defers Try.func9, Try.ntmps9
  go_wp2_with (first | (go_at_call 12; refine (compares_any _ _ _ _).mono ?_; rintro e w' ⟨rfl, rfl⟩) | (go_at_call 13; refine (fail_any _ _).mono ?_; rintro e w' ⟨rfl, rfl⟩; unfold wrongE))
  refine leaves_cons (f := 11) (args := #[.pointer (some ⟨w.heap.size, 0, none⟩), .pointer (some ⟨w.heap.size + 1, 0, none⟩)]) (by simp) (by simp [go_sem]) ?_
  refine (caught_wrong w.heap.size _ _ 0 0 [] _ rfl (by simp) (by simp [go_sem]) (by simp [go_sem]) (by simp [go_sem]) (by simp [go_sem])).mono ?_
  rintro e u' w'' ⟨rfl, rfl, c1, c2, hb⟩
  simp [Leaves, settle, results, Try.results9, go_sem, c1, c2]
  exact (((Below.refl _ w).alloc (Nat.le_refl _) _).alloc (by simp) _).trans hb
end Go.Proofs.Ytaomflhkclljdaa
