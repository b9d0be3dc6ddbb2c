/-
  The walk of CrcRest.
-/
import Derived.Test.YtechabooakpaaaaCrcLawW
namespace Go.Proofs.Ytechabooakpaaaa
open Go.RowKit

theorem info_u8 : (Try.prog.info? 5).map (fun i => (i.zero, i.size, i.bytes)) = some (some (.int .u8 0), 1, 1) := by kernel_rfl

set_option maxHeartbeats 1000000 in
theorem rest_any (v : Value) (bs : List Nat) (w : World) (hv : Bytes w v bs) :
    Calls Try.prog 5 #[v] w fun e w' => e = .returned (.bool true) ∧ Below w.heap.size w w' := by
  have HV := Lib.hid hv
  obtain ⟨a, cap, rfl, hm, hb, hc⟩ := hv.parts
  obtain ⟨i0, hi, hz0, hz1, hz2⟩ := info_parts info_u8
  unfold maxLen at hm
  have HB := Lib.hid hb
  clear hb hc hv
  by_cases hl : 300 < bs.length
  · go_enter Try.func5, Try.ntmps5
    go_wp2_with (go_at_call 8; refine (begun_any _).mono ?_; rintro e w' ⟨rfl, hb⟩)
    go_ret
    exact ⟨rfl, hb⟩
  · have hs := crcSum_lt bs HB.out
    have HR := Lib.hid (rest bs HB.out)
    rw [← crcSum_eq, ← crcSum_eq] at HR
    have HS : Hid (∀ w1, Below w.heap.size w w1 → Calls Try.prog 9 #[.slice a bs.length cap] w1 fun e w' => e = .returned (.int .u32 (crcSum bs : Nat)) ∧ Below w1.heap.size w1 w') := Lib.hid fun w1 hb1 => sum_any _ _ w1 (HV.out.kept hb1 (Nat.le_refl _))
    revert hs HR HS
    generalize crcSum bs = s
    intro hs HR HS
    go_enter Try.func5, Try.ntmps5
    go_wp2_with (go_at_call 8; refine (begun_any _).mono ?_; rintro e w1 ⟨rfl, hb1⟩)
    refine (HS.out w1 hb1).mono ?_
    rintro e w2 ⟨rfl, hb2⟩
    have hb12 := hb1.trans (hb2.mono hb1.size)
    have hsz : w.heap.size ≤ w2.heap.size := Nat.le_trans hb1.size hb2.size
    have HR2 := Lib.hid ((HV.out.kept hb12 (Nat.le_refl _)).1.kept ((Below.refl w2.heap.size _).alloc (Nat.le_refl _) (.cells #[] 5)) (Nat.le_refl _))
    go_wp2_with (first | (at_builtin; refine wpList_append_rd rfl (.tmp 11) (.tmp 12) 22 rfl w.heap.size 5 i0 (.int .u8 0) 1 1 Try.underlying22 hi hz0 hz1 hz2 rfl (by decide) _ 0 [] rfl (World.ownsRow_lit w2 #[] 0 hsz (by decide) rfl) _ _ _ rfl HR2.out (cells8_one _) (by simp [maxLen]; omega) (by omega) (by simp; omega) ?_; intro v3 w3 hown3 hb3 _; simp only [Nat.zero_add, List.nil_append] at hown3) | (at_builtin; refine wpList_append_rd rfl (.tmp 13) (.tmp 25) 22 rfl w.heap.size 5 i0 (.int .u8 0) 1 1 Try.underlying22 hi hz0 hz1 hz2 rfl (by decide) _ _ _ rfl (hown3.alloc _) _ 4 _ rfl (Reads.made w3 _ 5 (0, 0) 1 4 4 rfl (by decide) (by decide)) ?c1 ?c2 ?c3 ?c4 ?_; (case c1 => simp [Value.oneCell']); (case c2 => simp [maxLen]; omega); (case c3 => omega); (case c4 => simp; have := hb3.size; simp at this; omega); intro v4 w4 hown4 hb4 _))
    have e1 : cells8 (lows 4 s) = [.int .u8 (s % 256), .int .u8 (s / 256 % 256), .int .u8 (s / 65536 % 256), .int .u8 (s / 16777216)] := by
      simp [cells8, lows, Nat.div_div_eq_div_mul]; omega
    rw [← e1, ← cells8_append] at hown4
    have hbb : ∀ i, i < (bs ++ lows 4 s).length → (bs ++ lows 4 s).getD i 0 < 256 := by
      intro i hi
      simp only [List.getD]
      rcases Nat.lt_or_ge i bs.length with h | h
      · rw [List.getElem?_append_left h]; exact HB.out i h
      · rw [List.getElem?_append_right h]
        have : i - bs.length < 4 := by simp [lows] at hi; omega
        generalize i - bs.length = j at this ⊢
        match j, this with
        | 0, _ => simp [lows]; omega
        | 1, _ => simp [lows]; omega
        | 2, _ => simp [lows]; omega
        | 3, _ => simp [lows]; omega
    have h4 := sum_any v4 _ w4 (Bytes.own hown4 hbb)
    rw [HR.out] at h4
    refine h4.mono ?_
    rintro e w5 ⟨rfl, hb5⟩
    go_wp2
    go_ret
    have s3 := hb3.size
    have s4 := hb4.size
    simp only [World.size_alloc] at s3 s4
    exact ⟨rfl, (hb12.trans (((Below.refl _ _).alloc hsz _).trans hb3)).trans ((((Below.refl _ _).alloc (by omega) _).trans hb4).trans (hb5.mono (by omega)))⟩
end Go.Proofs.Ytechabooakpaaaa
