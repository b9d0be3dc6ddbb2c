/-
  The walk of NumForms.
-/
import Derived.Test.YtaomflhkclljdaaNumLaw
import Derived.Deep.RegionHeld3
namespace Go.Proofs.Ytaomflhkclljdaa
open Go.RowKit

def opL : List Int := [4, 5, 6, 16, 7, 8, 8, 7, 4, 6, 16, 13, 15, 9, 4, 13]
def kindL : List Int := [2, 2, 2, 2, 2, 2, 2, 3, 4, 3, 4, 1, 1, 1, 1, 2]
def asL : List Int := [32767, -32768, 256, -32768, -7, -7, 7, -2147483648, 9223372036854775807, 65536, -9223372036854775808, 1, 0, 1, 1, 1]
def bsL : List Int := [2, 1, 256, 0, 2, 2, -2, -1, 1, 65536, 0, 1, 0, 1, 1, 1]
def wantL : List Int := [-32767, 32767, 0, -32768, -3, -1, 1, -2147483648, -9223372036854775808, 0, -9223372036854775808, 1, 1, 1, 0, 0]
def errL : List Int := [0, 0, 0, 0, 0, 0, 0, 0, 0, 0, 0, 0, 0, 0, 4, 4]

theorem forms_do (n : Nat) (h : n < 16) (w : World) : Calls Try.prog 9 #[.int .i64 (opL.getD n 0), .int .i64 (kindL.getD n 0), .int .i64 (asL.getD n 0), .int .i64 (bsL.getD n 0)] w fun e w' => e = .returned (.tuple #[.int .i64 (wantL.getD n 0), .int .i64 (errL.getD n 0)]) ∧ Below w.heap.size w w' :=
  match n, h with
  | 0, _ => by
    have h := do_num 4 2 (32767) (2) (by decide) (by decide) rfl (by decide +kernel) w
    rw [show wrapK 2 (numOf 4 (32767) (2)).1 = -32767 by decide +kernel] at h
    exact h
  | 1, _ => by
    have h := do_num 5 2 (-32768) (1) (by decide) (by decide) rfl (by decide +kernel) w
    rw [show wrapK 2 (numOf 5 (-32768) (1)).1 = 32767 by decide +kernel] at h
    exact h
  | 2, _ => by
    have h := do_num 6 2 (256) (256) (by decide) (by decide) rfl (by decide +kernel) w
    rw [show wrapK 2 (numOf 6 (256) (256)).1 = 0 by decide +kernel] at h
    exact h
  | 3, _ => by
    have h := do_num 16 2 (-32768) (0) (by decide) (by decide) rfl (by decide +kernel) w
    rw [show wrapK 2 (numOf 16 (-32768) (0)).1 = -32768 by decide +kernel] at h
    exact h
  | 4, _ => by
    have h := do_num 7 2 (-7) (2) (by decide) (by decide) rfl (by decide +kernel) w
    rw [show wrapK 2 (numOf 7 (-7) (2)).1 = -3 by decide +kernel] at h
    exact h
  | 5, _ => by
    have h := do_num 8 2 (-7) (2) (by decide) (by decide) rfl (by decide +kernel) w
    rw [show wrapK 2 (numOf 8 (-7) (2)).1 = -1 by decide +kernel] at h
    exact h
  | 6, _ => by
    have h := do_num 8 2 (7) (-2) (by decide) (by decide) rfl (by decide +kernel) w
    rw [show wrapK 2 (numOf 8 (7) (-2)).1 = 1 by decide +kernel] at h
    exact h
  | 7, _ => by
    have h := do_num 7 3 (-2147483648) (-1) (by decide) (by decide) rfl (by decide +kernel) w
    rw [show wrapK 3 (numOf 7 (-2147483648) (-1)).1 = -2147483648 by decide +kernel] at h
    exact h
  | 8, _ => by
    have h := do_num 4 4 (9223372036854775807) (1) (by decide) (by decide) rfl (by decide +kernel) w
    rw [show wrapK 4 (numOf 4 (9223372036854775807) (1)).1 = -9223372036854775808 by decide +kernel] at h
    exact h
  | 9, _ => by
    have h := do_num 6 3 (65536) (65536) (by decide) (by decide) rfl (by decide +kernel) w
    rw [show wrapK 3 (numOf 6 (65536) (65536)).1 = 0 by decide +kernel] at h
    exact h
  | 10, _ => by
    have h := do_num 16 4 (-9223372036854775808) (0) (by decide) (by decide) rfl (by decide +kernel) w
    rw [show wrapK 4 (numOf 16 (-9223372036854775808) (0)).1 = -9223372036854775808 by decide +kernel] at h
    exact h
  | 11, _ => by
    have h := do_logic 13 (1) (1) (by decide) w
    rw [show logicI 13 (1) (1) = 1 by decide +kernel] at h
    exact h
  | 12, _ => by
    have h := do_logic 15 (0) (0) (by decide) w
    rw [show logicI 15 (0) (0) = 1 by decide +kernel] at h
    exact h
  | 13, _ => by
    have h := do_truth_cmp 9 (1) (1) (by decide) w
    rw [show truthI (cmpSo 9 (1) (1)) = 1 by decide +kernel] at h
    exact h
  | 14, _ => by
    have h := do_truth_type 4 (1) (1) (by decide) w
    exact h
  | 15, _ => by
    have h := do_num_fail 13 2 (1) (1) (by decide) (by decide) rfl (by decide +kernel) w
    rw [show (numOf 13 (1) (1)).2 = 4 by decide +kernel] at h
    exact h
  | n + 16, h => absurd h (by omega)

theorem cells_at (w : World) (B : Nat) (C : Array Value) (t : TypeId) (l : List Int) (hC : C.toList = l.map (Value.int .i64)) (hw : w.heap[B]? = some (.cells C t (0, 0))) (n : Nat) (h : n < l.length) : w.cell? ⟨B, n, none⟩ = some (.int .i64 (l.getD n 0)) := by
  rw [cell_of_row w B n C t (0, 0) hw, ← Array.getElem?_toList, hC, List.getElem?_map]
  simp [List.getD, List.getElem?_eq_getElem h]

theorem six (w : World) (o0 o1 o2 o3 o4 o5 : Obj) : ((((((w.alloc o0).alloc o1).alloc o2).alloc o3).alloc o4).alloc o5).heap[w.heap.size]? = some o0 ∧ ((((((w.alloc o0).alloc o1).alloc o2).alloc o3).alloc o4).alloc o5).heap[w.heap.size + 1]? = some o1 ∧
    ((((((w.alloc o0).alloc o1).alloc o2).alloc o3).alloc o4).alloc o5).heap[w.heap.size + 1 + 1]? = some o2 ∧ ((((((w.alloc o0).alloc o1).alloc o2).alloc o3).alloc o4).alloc o5).heap[w.heap.size + 1 + 1 + 1]? = some o3 ∧
    ((((((w.alloc o0).alloc o1).alloc o2).alloc o3).alloc o4).alloc o5).heap[w.heap.size + 1 + 1 + 1 + 1]? = some o4 ∧ ((((((w.alloc o0).alloc o1).alloc o2).alloc o3).alloc o4).alloc o5).heap[w.heap.size + 1 + 1 + 1 + 1 + 1]? = some o5 ∧
    ((((((w.alloc o0).alloc o1).alloc o2).alloc o3).alloc o4).alloc o5).heap.size = w.heap.size + 6 := by
  have e : ((((((w.alloc o0).alloc o1).alloc o2).alloc o3).alloc o4).alloc o5).heap = ((((((w.heap.push o0).push o1).push o2).push o3).push o4).push o5) := rfl
  rw [e]
  simp only [Array.getElem?_push, Array.size_push]
  refine ⟨?_, ?_, ?_, ?_, ?_, ?_, trivial⟩
  · rw [if_neg (by omega), if_neg (by omega), if_neg (by omega), if_neg (by omega), if_neg (by omega), if_pos trivial]
  · rw [if_neg (by omega), if_neg (by omega), if_neg (by omega), if_neg (by omega), if_pos trivial]
  · rw [if_neg (by omega), if_neg (by omega), if_neg (by omega), if_pos trivial]
  · rw [if_neg (by omega), if_neg (by omega), if_pos trivial]
  · rw [if_neg (by omega), if_pos trivial]
  · rw [if_pos trivial]

set_option maxRecDepth 100000 in
set_option maxHeartbeats 2000000 in
theorem forms_any (w : World) : Calls Try.prog 5 #[] w fun e w' => e = .returned (.bool true) ∧ Below w.heap.size w w' := by
  go_enter Try.func5, Try.ntmps5
  go_wp2_with (go_at_call 7; refine (begun_any _).mono ?_; rintro e w1 ⟨rfl, hb1⟩)
  have hs := six w1 (.cells #[.int .i64 4, .int .i64 5, .int .i64 6, .int .i64 16, .int .i64 7, .int .i64 8, .int .i64 8, .int .i64 7, .int .i64 4, .int .i64 6, .int .i64 16, .int .i64 13, .int .i64 15, .int .i64 9, .int .i64 4, .int .i64 13] 3) (.cells #[.int .i64 2, .int .i64 2, .int .i64 2, .int .i64 2, .int .i64 2, .int .i64 2, .int .i64 2, .int .i64 3, .int .i64 4, .int .i64 3, .int .i64 4, .int .i64 1, .int .i64 1, .int .i64 1, .int .i64 1, .int .i64 2] 3) (.cells #[.int .i64 32767, .int .i64 (-32768), .int .i64 256, .int .i64 (-32768), .int .i64 (-7), .int .i64 (-7), .int .i64 7, .int .i64 (-2147483648), .int .i64 9223372036854775807, .int .i64 65536, .int .i64 (-9223372036854775808), .int .i64 1, .int .i64 0, .int .i64 1, .int .i64 1, .int .i64 1] 2) (.cells #[.int .i64 2, .int .i64 1, .int .i64 256, .int .i64 0, .int .i64 2, .int .i64 2, .int .i64 (-2), .int .i64 (-1), .int .i64 1, .int .i64 65536, .int .i64 0, .int .i64 1, .int .i64 0, .int .i64 1, .int .i64 1, .int .i64 1] 2) (.cells #[.int .i64 (-32767), .int .i64 32767, .int .i64 0, .int .i64 (-32768), .int .i64 (-3), .int .i64 (-1), .int .i64 1, .int .i64 (-2147483648), .int .i64 (-9223372036854775808), .int .i64 0, .int .i64 (-9223372036854775808), .int .i64 1, .int .i64 1, .int .i64 1, .int .i64 0, .int .i64 0] 2) (.cells #[.int .i64 0, .int .i64 0, .int .i64 0, .int .i64 0, .int .i64 0, .int .i64 0, .int .i64 0, .int .i64 0, .int .i64 0, .int .i64 0, .int .i64 0, .int .i64 0, .int .i64 0, .int .i64 0, .int .i64 4, .int .i64 4] 24)
  generalize hW : ((((((w1.alloc (.cells #[.int .i64 4, .int .i64 5, .int .i64 6, .int .i64 16, .int .i64 7, .int .i64 8, .int .i64 8, .int .i64 7, .int .i64 4, .int .i64 6, .int .i64 16, .int .i64 13, .int .i64 15, .int .i64 9, .int .i64 4, .int .i64 13] 3)).alloc (.cells #[.int .i64 2, .int .i64 2, .int .i64 2, .int .i64 2, .int .i64 2, .int .i64 2, .int .i64 2, .int .i64 3, .int .i64 4, .int .i64 3, .int .i64 4, .int .i64 1, .int .i64 1, .int .i64 1, .int .i64 1, .int .i64 2] 3)).alloc (.cells #[.int .i64 32767, .int .i64 (-32768), .int .i64 256, .int .i64 (-32768), .int .i64 (-7), .int .i64 (-7), .int .i64 7, .int .i64 (-2147483648), .int .i64 9223372036854775807, .int .i64 65536, .int .i64 (-9223372036854775808), .int .i64 1, .int .i64 0, .int .i64 1, .int .i64 1, .int .i64 1] 2)).alloc (.cells #[.int .i64 2, .int .i64 1, .int .i64 256, .int .i64 0, .int .i64 2, .int .i64 2, .int .i64 (-2), .int .i64 (-1), .int .i64 1, .int .i64 65536, .int .i64 0, .int .i64 1, .int .i64 0, .int .i64 1, .int .i64 1, .int .i64 1] 2)).alloc (.cells #[.int .i64 (-32767), .int .i64 32767, .int .i64 0, .int .i64 (-32768), .int .i64 (-3), .int .i64 (-1), .int .i64 1, .int .i64 (-2147483648), .int .i64 (-9223372036854775808), .int .i64 0, .int .i64 (-9223372036854775808), .int .i64 1, .int .i64 1, .int .i64 1, .int .i64 0, .int .i64 0] 2)).alloc (.cells #[.int .i64 0, .int .i64 0, .int .i64 0, .int .i64 0, .int .i64 0, .int .i64 0, .int .i64 0, .int .i64 0, .int .i64 0, .int .i64 0, .int .i64 0, .int .i64 0, .int .i64 0, .int .i64 0, .int .i64 4, .int .i64 4] 24)) = W at hs ⊢
  obtain ⟨s0, s1, s2, s3, s4, s5, s6⟩ := hs
  have hbW : Below w.heap.size w W := by
    refine hb1.trans ⟨by rw [← hW]; rfl, by rw [← hW]; rfl, by rw [← hW]; rfl, by rw [s6]; omega, fun k hk => ?_⟩
    rw [← hW]
    have := hb1.size
    rw [Below.heap_alloc _ _ _ (by simp only [World.size_alloc]; omega), Below.heap_alloc _ _ _ (by simp only [World.size_alloc]; omega), Below.heap_alloc _ _ _ (by simp only [World.size_alloc]; omega), Below.heap_alloc _ _ _ (by simp only [World.size_alloc]; omega), Below.heap_alloc _ _ _ (by simp only [World.size_alloc]; omega), Below.heap_alloc _ _ _ (by omega)]
  have f0 := fun n h => cells_at W _ _ _ opL rfl s0 n h
  have f1 := fun n h => cells_at W _ _ _ kindL rfl s1 n h
  have f2 := fun n h => cells_at W _ _ _ asL rfl s2 n h
  have f3 := fun n h => cells_at W _ _ _ bsL rfl s3 n h
  have f4 := fun n h => cells_at W _ _ _ wantL rfl s4 n h
  have f5 := fun n h => cells_at W _ _ _ errL rfl s5 n h
  clear hW s0 s1 s2 s3 s4 s5
  have F0 := Lib.hid f0
  have F1 := Lib.hid f1
  have F2 := Lib.hid f2
  have F3 := Lib.hid f3
  have F4 := Lib.hid f4
  have F5 := Lib.hid f5
  clear f0 f1 f2 f3 f4 f5 hb1
  go_loopw [7] (fun i wr => ∃ n : Nat, n ≤ 16 ∧ i = .int .i64 n ∧ Below W.heap.size W wr) (fun i _ => (16 - intOf i).toNat)
  case atStart => exact ⟨0, by omega, rfl, Below.refl _ _⟩
  case round =>
    obtain ⟨n, hn, rfl, hbr⟩ := hrel
    by_cases hlt : n < 16
    · have g0 := (hbr.cell (p := ⟨w1.heap.size, n, none⟩) (by simp; omega)).trans (F0.out n hlt)
      have g1 := (hbr.cell (p := ⟨w1.heap.size + 1, n, none⟩) (by simp; omega)).trans (F1.out n hlt)
      have g2 := (hbr.cell (p := ⟨w1.heap.size + 1 + 1, n, none⟩) (by simp; omega)).trans (F2.out n hlt)
      have g3 := (hbr.cell (p := ⟨w1.heap.size + 1 + 1 + 1, n, none⟩) (by simp; omega)).trans (F3.out n hlt)
      have HD := Lib.hid (fun w => forms_do n hlt w)
      have G4 := Lib.hid (F4.out n hlt)
      have G5 := Lib.hid (F5.out n hlt)
      clear F0 F1 F2 F3 F4 F5
      generalize opL.getD n 0 = op at g0 HD
      generalize kindL.getD n 0 = kind at g1 HD
      generalize asL.getD n 0 = x at g2 HD
      generalize bsL.getD n 0 = y at g3 HD
      generalize wantL.getD n 0 = want at G4 HD
      generalize errL.getD n 0 = err at G5 HD
      go_wp2
      go_region_held3 (fun w' => w'.cell? ⟨w1.heap.size, n, none⟩ = some (.int .i64 op) ∧ w'.cell? ⟨w1.heap.size + 1, n, none⟩ = some (.int .i64 kind) ∧ w'.cell? ⟨w1.heap.size + 1 + 1, n, none⟩ = some (.int .i64 x) ∧ w'.cell? ⟨w1.heap.size + 1 + 1 + 1, n, none⟩ = some (.int .i64 y))
        (first | go_keep | exact ⟨(hb5.cell (p := ⟨w1.heap.size, n, none⟩) (by simp; have := hbr.size; omega)).trans g0, (hb5.cell (p := ⟨w1.heap.size + 1, n, none⟩) (by simp; have := hbr.size; omega)).trans g1, (hb5.cell (p := ⟨w1.heap.size + 1 + 1, n, none⟩) (by simp; have := hbr.size; omega)).trans g2, (hb5.cell (p := ⟨w1.heap.size + 1 + 1 + 1, n, none⟩) (by simp; have := hbr.size; omega)).trans g3⟩)
        (first | (go_at_call 9; refine (HD.out _).mono ?_; rintro e w5 ⟨rfl, hb5⟩))
      have hz := hbr.size
      have c4 := (hb5.cell (p := ⟨w1.heap.size + 1 + 1 + 1 + 1, n, none⟩) (by simp; omega)).trans ((hbr.cell (p := ⟨w1.heap.size + 1 + 1 + 1 + 1, n, none⟩) (by simp; omega)).trans G4.out)
      have c5 := (hb5.cell (p := ⟨w1.heap.size + 1 + 1 + 1 + 1 + 1, n, none⟩) (by simp; omega)).trans ((hbr.cell (p := ⟨w1.heap.size + 1 + 1 + 1 + 1 + 1, n, none⟩) (by simp; omega)).trans G5.out)
      have hb6 : Below W.heap.size W w5 := hbr.trans ((Below.refl W.heap.size wr).drew.trans (hb5.mono (by simpa using hz)))
      clear g0 g1 g2 g3
      go_wp2
      go_roundw
      case rel => exact ⟨n + 1, by omega, by go_num, hb6⟩
      case measure => simp [intOf]; omega
    · clear F0 F1 F2 F3 F4 F5
      go_wp2
      go_ret
      exact ⟨rfl, hbW.trans (hbr.mono hbW.size)⟩
end Go.Proofs.Ytaomflhkclljdaa
