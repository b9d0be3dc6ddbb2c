/-
  The walks of annunciatorlaw16: begun and CrcAll.
-/
import Derived.Test.YtechabooakpaaaaCrcMath
import Derived.Outline
namespace Go.Proofs.Ytechabooakpaaaa
open Go.RowKit

theorem sum_ref (v : Value) (bs : List Nat) (w : World) (hv : Bytes w v bs) :
    Calls Try.prog 10 #[v] w fun e w' => e = .returned (.int .u32 (crcSum bs : Nat)) ∧ w = w' := by
  rw [crcSum_eq]; exact refSum_any v bs w hv

set_option maxHeartbeats 400000 in
theorem begun_any (w : World) :
    Calls Try.prog 8 #[] w fun e w' => e = .returned (.bool true) ∧ Below w.heap.size w w' := by
  have kc := fun (w : World) (C : Array Value) (n c : Nat) => Lib.run_convert_bytes_const (P := Try.prog) w 22 5 C n c Try.underlying22 Try.underlying5
  go_enter Try.func8, Try.ntmps8
  go_wp2_with fail
  have h1 := sum_any _ _ _ (Bytes.made w #[.int .u8 49, .int .u8 50, .int .u8 51, .int .u8 52, .int .u8 53, .int .u8 54, .int .u8 55, .int .u8 56, .int .u8 57] 5 (9, 10) 9 9 [49, 50, 51, 52, 53, 54, 55, 56, 57] rfl rfl (by decide) (by decide) (by decide))
  rw [show crcSum [49, 50, 51, 52, 53, 54, 55, 56, 57] = 3421780262 by decide] at h1
  refine h1.mono ?_
  rintro e w1 ⟨rfl, hb1⟩
  go_wp2_with fail
  have h2 := sum_any _ _ w1 (Bytes.nil w1)
  rw [show crcSum [] = 0 by decide] at h2
  refine h2.mono ?_
  rintro e w2 ⟨rfl, hb2⟩
  go_wp2
  go_ret
  have hb1' := hb1.mono (B' := w.heap.size) (by simp)
  exact ⟨rfl, (((Below.refl _ _).alloc (Nat.le_refl _) _).trans hb1').trans (hb2.mono (by have := hb1.size; simp at this; omega))⟩

set_option maxHeartbeats 400000 in
theorem all_any (v : Value) (bs : List Nat) (w : World) (hv : Bytes w v bs) :
    Calls Try.prog 3 #[v] w fun e w' => e = .returned (.bool true) ∧ Below w.heap.size w w' := by
  have HV := Lib.hid hv
  obtain ⟨a, cap, rfl, hm, hb, hc⟩ := hv.parts
  unfold maxLen at hm
  clear hb hc
  by_cases hl : 300 < bs.length
  · go_enter Try.func3, Try.ntmps3
    go_wp2_with (go_at_call 8; refine (begun_any _).mono ?_; rintro e w' ⟨rfl, hb⟩)
    go_ret
    exact ⟨rfl, hb⟩
  · go_enter Try.func3, Try.ntmps3
    go_wp2_with (go_at_call 8; refine (begun_any _).mono ?_; rintro e w1 ⟨rfl, hb1⟩)
    refine (sum_any _ _ w1 (HV.out.kept hb1 (Nat.le_refl _))).mono ?_
    rintro e w2 ⟨rfl, hb2⟩
    go_wp2_with fail
    have hb12 := hb1.trans (hb2.mono hb1.size)
    refine (sum_ref _ _ w2 (HV.out.kept hb12 (Nat.le_refl _))).mono ?_
    rintro e w3 ⟨rfl, rfl⟩
    go_wp2
    go_ret
    exact ⟨rfl, hb12⟩
end Go.Proofs.Ytechabooakpaaaa
