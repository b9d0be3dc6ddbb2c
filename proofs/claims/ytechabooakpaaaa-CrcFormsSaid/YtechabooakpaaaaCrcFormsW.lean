/-
  The walk of CrcForms.
-/
import Derived.Test.YtechabooakpaaaaCrcLawW
namespace Go.Proofs.Ytechabooakpaaaa
open Go.RowKit

set_option maxHeartbeats 400000 in
theorem forms_any (w : World) :
    Calls Try.prog 7 #[] w fun e w' => e = .returned (.bool true) ∧ Below w.heap.size w w' := by
  have kc := fun (w : World) (C : Array Value) (n c : Nat) => Lib.run_convert_bytes_const (P := Try.prog) w 22 5 C n c Try.underlying22 Try.underlying5
  have hmk : ∀ w : World, (Instr.makeSlice 22 (.int .i64 4) (.int .i64 4)).run Try.prog w = .ok (.slice (some ⟨w.heap.size, 0, none⟩) 4 4) (w.alloc (.cells #[.int .u8 0, .int .u8 0, .int .u8 0, .int .u8 0] 5)) := fun _ => by kernel_rfl
  go_enter Try.func7, Try.ntmps7
  go_wp2_with (go_at_call 8; refine (begun_any _).mono ?_; rintro e w1 ⟨rfl, hb1⟩)
  have h1 := sum_any _ _ _ (Bytes.made w1 #[.int .u8 0] 5 (0, 0) 1 1 [0] rfl rfl (by decide) (by decide))
  rw [show crcSum [0] = 3523407757 by decide] at h1
  refine h1.mono ?_
  rintro e w2 ⟨rfl, hb2⟩
  go_wp2_with fail
  have h2 := sum_any _ _ _ (Bytes.made w2 #[.int .u8 97] 5 (1, 2) 1 1 [97] rfl rfl (by decide) (by decide))
  rw [show crcSum [97] = 3904355907 by decide] at h2
  refine h2.mono ?_
  rintro e w3 ⟨rfl, hb3⟩
  go_wp2_with fail
  have h3 := sum_any _ _ _ (Bytes.made w3 #[.int .u8 97, .int .u8 98, .int .u8 99] 5 (3, 4) 3 3 [97, 98, 99] rfl rfl (by decide) (by decide))
  rw [show crcSum [97, 98, 99] = 891568578 by decide] at h3
  refine h3.mono ?_
  rintro e w4 ⟨rfl, hb4⟩
  go_wp2_with fail
  have h4 := sum_any _ _ _ (Bytes.made w4 #[.int .u8 0, .int .u8 0, .int .u8 0, .int .u8 0] 5 (0, 0) 4 4 [0, 0, 0, 0] rfl rfl (by decide) (by decide))
  rw [show crcSum [0, 0, 0, 0] = 558161692 by decide] at h4
  refine h4.mono ?_
  rintro e w5 ⟨rfl, hb5⟩
  go_wp2_with fail
  have h5 := sum_any _ _ _ (Bytes.made w5 #[.int .u8 255, .int .u8 255, .int .u8 255, .int .u8 255] 5 (0, 0) 4 4 [255, 255, 255, 255] rfl rfl (by decide) (by decide))
  rw [show crcSum [255, 255, 255, 255] = 4294967295 by decide] at h5
  refine h5.mono ?_
  rintro e w6 ⟨rfl, hb6⟩
  go_wp2
  go_ret
  have s1 := hb1.size
  have s2 := hb2.size
  have s3 := hb3.size
  have s4 := hb4.size
  have s5 := hb5.size
  simp only [World.size_alloc] at s1 s2 s3 s4 s5
  refine ⟨rfl, ?_⟩
  refine Below.trans (b := w5) (Below.trans (b := w4) (Below.trans (b := w3) (Below.trans (b := w2) (Below.trans (b := w1) hb1 ?_) ?_) ?_) ?_) ?_
  · exact ((Below.refl _ _).alloc (by omega) _).trans (hb2.mono (by simp; omega))
  · exact ((Below.refl _ _).alloc (by omega) _).trans (hb3.mono (by simp; omega))
  · exact ((Below.refl _ _).alloc (by omega) _).trans (hb4.mono (by simp; omega))
  · exact ((Below.refl _ _).alloc (by omega) _).trans (hb5.mono (by simp; omega))
  · exact ((Below.refl _ _).alloc (by omega) _).trans (hb6.mono (by simp; omega))
end Go.Proofs.Ytechabooakpaaaa
