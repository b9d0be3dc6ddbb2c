/-
  The walk of CntForms.
-/
import Derived.Test.YtcdbodpmcnebiaaCntLaw
import Derived.Deep.QuietTactic
import Derived.BigQuiet
import Derived.WalkSmall
import Derived.Deep.RegionHeld3
import Derived.Deep.AppendLies
namespace Go.Proofs.Ytcdbodpmcnebiaa
open Go.RowKit

theorem info_i64 : (Try.prog.info? 2).map (fun i => (i.zero, i.size, i.bytes)) = some (some (.int .i64 0), 1, 8) := by kernel_rfl
theorem own_below {w w' : World} {base : Nat} {e : TypeId} {size : Nat} {v : Value} {n : Nat} {xs : List Value} (h : w.ownsRow base e size v n xs) (hb : Below w.heap.size w w') : w'.ownsRow base e size v n xs :=
  h.kept (row := none) ⟨hb.os, hb.tape, hb.output, hb.size, fun k hk _ => hb.block k hk⟩ (by cases v.ownBlock <;> simp)
theorem Reads_grown {w w' : World} {k n : Nat} {a : Option Addr} {m c : Nat} {xs : List Value} {row : Option Nat} (h : Reads w k (.slice a m c) n xs) (hg : w.grownBy w' row) (hne : ∀ y, a = some y → some y.block ≠ row) : Reads w' k (.slice a m c) n xs := by
  obtain ⟨a', cap, he, hl, hc, hm, hn, hcell⟩ := h
  simp only [Value.slice.injEq] at he
  obtain ⟨rfl, rfl, rfl⟩ := he
  refine ⟨a, c, rfl, hl, hc, hm, hn, fun hx => ?_⟩
  obtain ⟨b, off, rfl, hb, hcl⟩ := hcell hx
  refine ⟨b, off, rfl, Nat.lt_of_lt_of_le hb hg.size, fun i hi => ?_⟩
  have h1 := hne _ rfl
  exact (World.cell?_of_block (hg.block b hb h1)).trans (hcl i hi)

theorem fresh_ne {w : World} {base : Nat} {e : TypeId} {size : Nat} {v : Value} {n : Nat} {xs : List Value} (h : w.ownsRow base e size v n xs) {b : Nat} (hf : w.heap.size ≤ b) : some b ≠ v.ownBlock := by
  intro hh
  have := (h.lt _ hh.symm).2
  omega

def upC (q n : Int) (b : Bool) : List V := [⟨1, q, 0⟩, ⟨2, n, 0⟩, ⟨1, truthI b, 0⟩]
theorem stepA (q n : Int) (x : Value) (w : World) (hn : n = 32766 ∨ n = 32767) (hx : Vals w x (upC q n false)) :
    Calls Try.prog 10 #[.int .i64 9, x, .bool true, .int .i64 32767] w (RetVals w (upC 1 32767 true)) := by
  have h := step_up x ⟨1, q, 0⟩ ⟨2, n, 0⟩ ⟨1, truthI false, 0⟩ true 32767 w hx rfl rfl rfl
  rcases hn with rfl | rfl
  · rw [show upV 32766 (truthI false) true 32767 = upC 1 32767 true by simp [upV, upC, truthI, wrap64]] at h; exact h
  · rw [show upV 32767 (truthI false) true 32767 = upC 1 32767 true by simp [upV, upC, truthI, wrap64]; omega] at h; exact h
theorem stepB (x : Value) (w : World) (hx : Vals w x (upC 1 32767 true)) :
    Calls Try.prog 10 #[.int .i64 9, x, .bool false, .int .i64 32767] w (RetVals w (upC 1 32767 false)) :=
  step_up x ⟨1, 1, 0⟩ ⟨2, 32767, 0⟩ ⟨1, truthI true, 0⟩ false 32767 w hx rfl rfl rfl
def mL : List Int := [2, 1, 0, 3, 2]
def qL : List Int := [0, 0, 1, 0, 0]
def wantL : List Int := [0, 1, 1, 0, 0, 3, 0, 2]
theorem stepC (k : Nat) (hk : k < 4) (x : Value) (w : World) (hx : Vals w x (upC (qL.getD k 0) (mL.getD k 0) false)) :
    Calls Try.prog 10 #[.int .i64 10, x, .bool true, .int .i64 3] w (RetVals w (upC (qL.getD (k + 1) 0) (mL.getD (k + 1) 0) true)) := by
  have h := step_down x ⟨1, (qL.getD k 0), 0⟩ ⟨2, (mL.getD k 0), 0⟩ ⟨1, truthI false, 0⟩ true 3 w hx rfl rfl rfl
  match k, hk with
  | 0, _ => rw [show downV ((V.mk 2 (mL.getD 0 0) 0).i) (truthI false) true 3 = upC (qL.getD (0 + 1) 0) (mL.getD (0 + 1) 0) true by simp [downV, upC, truthI, wrap64, mL, qL]] at h; exact h
  | 1, _ => rw [show downV ((V.mk 2 (mL.getD 1 0) 0).i) (truthI false) true 3 = upC (qL.getD (1 + 1) 0) (mL.getD (1 + 1) 0) true by simp [downV, upC, truthI, wrap64, mL, qL]] at h; exact h
  | 2, _ => exact h
  | 3, _ => rw [show downV ((V.mk 2 (mL.getD 3 0) 0).i) (truthI false) true 3 = upC (qL.getD (3 + 1) 0) (mL.getD (3 + 1) 0) true by simp [downV, upC, truthI, wrap64, mL, qL]] at h; exact h
theorem stepD (k : Nat) (hk : k < 4) (x : Value) (w : World) (hx : Vals w x (upC (qL.getD (k + 1) 0) (mL.getD (k + 1) 0) true)) :
    Calls Try.prog 10 #[.int .i64 10, x, .bool false, .int .i64 3] w (RetVals w (upC (qL.getD (k + 1) 0) (mL.getD (k + 1) 0) false)) := by
  have h := step_down x ⟨1, (qL.getD (k + 1) 0), 0⟩ ⟨2, (mL.getD (k + 1) 0), 0⟩ ⟨1, truthI true, 0⟩ false 3 w hx rfl rfl rfl
  match k, hk with
  | 0, _ => exact h
  | 1, _ => exact h
  | 2, _ => exact h
  | 3, _ => exact h
def wl (k : Nat) : List Value := (wantL.take (2 * k)).map (Value.int .i64)
theorem wl_succ (k : Nat) (hk : k < 4) : wl k ++ [.int .i64 (qL.getD (k + 1) 0), .int .i64 (mL.getD (k + 1) 0)] = wl (k + 1) := by
  match k, hk with
  | 0, _ => rfl
  | 1, _ => rfl
  | 2, _ => rfl
  | 3, _ => rfl

set_option linter.unusedSimpArgs false
set_option maxRecDepth 100000 in
set_option maxHeartbeats 2000000 in
theorem forms_law (w : World) :
    Calls Try.prog 6 #[] w fun e w' => e = .returned (.bool true) ∧ Below w.heap.size w w' := by
  obtain ⟨i0, hi, hz0, hz1, hz2⟩ := info_parts info_i64
  go_enter Try.func6, Try.ntmps6
  go_wp2_with (first | (go_at_call 8; refine (begun_any _).mono ?_; rintro e w1 ⟨rfl, hb1⟩) | (go_at_call 9; refine (cells_any false false 32766 (by omega) _).mono ?_; rintro e w2 ⟨a2, n2, c2, rfl, hv, hfr, hb2⟩; have HV := Lib.hid hv; have hb12 := Below_tr hb1 hb2; clear hv hfr hb2))
  go_loopw [1, 2] (fun u i wr => ∃ (k : Nat) (n q : Int) (a3 : Option Addr) (n3 c3 : Nat), k ≤ 3 ∧ i = .int .i64 k ∧ u = .slice a3 n3 c3 ∧ Vals wr u (upC q n false) ∧ (n = 32766 ∨ n = 32767) ∧ (k ≠ 0 → n = 32767 ∧ q = 1) ∧ Below w.heap.size w wr) (fun _ i _ => 3 - (intOf i).toNat)
  case atStart => exact ⟨0, 32766, 0, a2, n2, c2, by omega, rfl, rfl, HV.out, Or.inl rfl, by simp, hb12⟩
  case round =>
    obtain ⟨k, n, q, a3, n3, c3, hk, rfl, rfl, hv3, hn, hkq, hbr⟩ := hrel
    clear HV hb12 hb1
    have HV3 := Lib.hid hv3
    have HN := Lib.hid hn
    have HK := Lib.hid hkq
    clear hv3 hn hkq
    by_cases hlt : k < 3
    · go_wp2_with (first | (go_at_call 10; (with_reducible refine (stepA q n _ _ HN.out HV3.out).mono ?_); rintro e w5 ⟨a5, n5, c5, rfl, hv5, hfr5, hb5⟩; have HV5 := Lib.hid hv5; have hbr5 := Below_tr hbr hb5; clear hv5 hfr5 hb5) | (go_at_call 10; (with_reducible refine (stepB _ _ HV5.out).mono ?_); rintro e w6 ⟨a6, n6, c6, rfl, hv6, hfr6, hb6⟩; have HV6 := Lib.hid hv6; have hbr6 := Below_tr hbr5 hb6; clear hv6 hfr6 hb6))
      go_roundw
      case rel => exact ⟨k + 1, _, _, _, _, _, by omega, by go_num, rfl, HV6.out, Or.inr rfl, fun _ => ⟨rfl, rfl⟩, hbr6⟩
      case measure => simp [intOf]; omega
    · obtain ⟨rfl, rfl⟩ := HK.out (by omega)
      clear HN HK
      go_wp2_with (go_at_call 9; refine (cells_any false false 2 (by omega) _).mono ?_; rintro e w7 ⟨a7, n7, c7, rfl, hv7, hfr7, hb7⟩; have HV7 := Lib.hid hv7; have hb17 := Below_tr hbr hb7; have HU := Lib.hid (HV3.out.kept hb7 (Nat.le_refl _)); clear hv7 hfr7 hb7)
      go_loopw [3, 4, 5] (fun d qs i wr => ∃ (k : Nat) (a3 : Option Addr) (n3 c3 : Nat), k ≤ 4 ∧ i = .int .i64 k ∧ d = .slice a3 n3 c3 ∧ Vals wr d (upC (qL.getD k 0) (mL.getD k 0) false) ∧ wr.ownsRow w7.heap.size 2 1 qs (2 * k) (wl k) ∧ Below w7.heap.size w7 wr) (fun _ _ i _ => 4 - (intOf i).toNat)
      case atStart => exact ⟨0, _, _, _, by omega, rfl, rfl, HV7.out, World.ownsRow_nil w7 _ _ _, Below.refl _ _⟩
      case round =>
        obtain ⟨k2, a8, n8, c8, hk2, rfl, rfl, hv8, hown8, hbr8⟩ := hrel
        have HV8 := Lib.hid hv8
        have HO8 : Hid (wr.ownsRow w7.heap.size 2 1 _ (2 * k2) (wl k2)) := Lib.hid hown8
        clear hv8 hown8
        by_cases hlt2 : k2 < 4
        · have HC := Lib.hid (stepC k2 hlt2)
          have HD := Lib.hid (stepD k2 hlt2)
          have HW := Lib.hid (wl_succ k2 hlt2)
          have HS := Lib.hid hlt2
          generalize hq1 : qL.getD (k2 + 1) 0 = q1 at HC HD HW
          generalize hm1 : mL.getD (k2 + 1) 0 = m1 at HC HD HW
          have HQ1 := Lib.hid hq1
          have HM1 := Lib.hid hm1
          clear hq1 hm1
          go_wp2_with (go_at_call 10; (with_reducible refine (HC.out _ _ HV8.out).mono ?_); rintro e w9 ⟨a9, n9, c9, rfl, hv9, hfr9, hb9⟩; have HV9 := Lib.hid hv9; obtain ⟨b9, off9, rfl, rfl, hbl9, g1, g2, g3⟩ := Vals3 hv9; have hbr9 := hbr8.trans (hb9.mono hbr8.size); have HO9 := Lib.hid (own_below HO8.out hb9); clear hv9 hb9 g3)
          have hne9 := fresh_ne HO8.out (hfr9 _ rfl)
          have hs9 := hbr9.size
          have HZ9 := Lib.hid hs9
          go_region_held3 (fun w' => w'.cell? ⟨b9, off9 + 0 * 3 + 1, none⟩ = some (.int .i64 q1) ∧ w'.cell? ⟨b9, off9 + 1 * 3 + 1, none⟩ = some (.int .i64 m1))
            (first | go_keep | exact ⟨(World.cell?_alloc_lt _ _ _ hbl9).trans g1, (World.cell?_alloc_lt _ _ _ hbl9).trans g2⟩ | exact ⟨kk1, kk2⟩)
            ((refine step_append_lies _ (by rfl) _ _ _ (by rfl) w7.heap.size 2 i0 _ 1 8 Try.underlying34 hi hz0 hz1 hz2 rfl (by decide) _ (2 * k2) _ (by rfl) (HO9.out.drew.alloc _) ⟨w9.heap.size, 0, none⟩ 2 2 [.int .i64 q1, .int .i64 m1] (by rfl) (by rfl) (World.news_of_block (cs := #[.int .i64 q1, .int .i64 m1]) (t := 2) (fr := (0, 0)) (heap_alloc_new _ _)) (by simp [Value.oneCell']) (by omega) (by have := HS.out; unfold maxLen; omega) (by have := HS.out; omega) (by have := HZ9.out; simp; omega) (w9.heap.size + 1) (by simp) ?_; intro gg cap w10 hown10 hgrow10 hat10 hlt10; have kk1 := hgrow10.cell (a := ⟨b9, off9 + 0 * 3 + 1, none⟩) ((World.cell?_alloc_lt w9.drew _ _ hbl9).trans g1) hne9; have kk2 := hgrow10.cell (a := ⟨b9, off9 + 1 * 3 + 1, none⟩) ((World.cell?_alloc_lt w9.drew _ _ hbl9).trans g2) hne9))
          have hv10 := Reads_grown (HV9.out.kept ((Below.refl w9.heap.size w9).drew.alloc (Nat.le_refl _) _) (Nat.le_refl _)) hgrow10 (by intro y hy; cases hy; exact hne9)
          have HV10 : Hid (Vals w10 _ (upC q1 m1 true)) := Lib.hid hv10
          have hbr10 := (hbr9.drew.alloc (by simpa using HZ9.out) _).grown hgrow10 (by have := HZ9.out; simp; omega) (fun k hk => (HO9.out.lt k hk).1)
          rw [HW.out] at hown10
          have HO10 := Lib.hid hown10
          clear hv10 hgrow10 hown10 hat10 kk1 kk2 g1 g2 hne9 hs9
          go_wp2_with (go_at_call 10; (with_reducible refine (HD.out _ _ HV10.out).mono ?_); rintro e w11 ⟨a11, n11, c11, rfl, hv11, hfr11, hb11⟩; have HV11 := Lib.hid hv11; have hbr11 := hbr10.trans (hb11.mono hbr10.size); have HO11 := Lib.hid (own_below HO10.out hb11); clear hv11 hb11 hfr11)
          go_roundw
          case rel => exact ⟨k2 + 1, _, _, _, by omega, by go_num, rfl, (by rw [HQ1.out, HM1.out]; exact HV11.out), HO11.out, hbr11⟩
          case measure => simp [intOf]; omega
        · obtain rfl : k2 = 4 := by omega
          obtain ⟨b0, off0, rfl, rfl, hbl0, g1, g2, g3⟩ := Vals3 (p := ⟨1, 1, 0⟩) (q := ⟨2, 32767, 0⟩) (r := ⟨1, 0, 0⟩) (HU.out.kept hbr8 (Nat.le_refl _))
          obtain ⟨g, cap, rfl, hgb, hgl⟩ := HO8.out.form (by decide)
          have HQ : Hid (∀ j, j < 8 → wr.cell? ⟨g, j, none⟩ = some (.int .i64 (wantL.getD j 0))) := Lib.hid fun j hj => by
            have h := HO8.out.cells rfl j (.int .i64 (wantL.getD j 0)) (by match j, hj with | 0, _ => rfl | 1, _ => rfl | 2, _ => rfl | 3, _ => rfl | 4, _ => rfl | 5, _ => rfl | 6, _ => rfl | 7, _ => rfl)
            rw [add_plain, Nat.zero_add] at h
            exact h
          have HA : Hid (Below w.heap.size w wr) := Lib.hid (hb17.trans (hbr8.mono hb17.size))
          have HZ : Hid (w.heap.size ≤ wr.heap.size) := Lib.hid HA.out.size
          clear HV8 HO8 hbr8 HU HV3 HV7 hbr hb17
          go_wp2
          generalize hW8 : wr.alloc _ = w12
          have HQ12 : Hid (∀ j, j < 8 → w12.cell? ⟨g, j, none⟩ = some (.int .i64 (wantL.getD j 0))) := Lib.hid fun j hj => by rw [← hW8]; exact (World.cell?_alloc_lt _ _ _ hgl).trans (HQ.out j hj)
          have HT12 : Hid (∀ j, j < 8 → w12.cell? ⟨wr.heap.size, j, none⟩ = some (.int .i64 (wantL.getD j 0))) := Lib.hid fun j hj => by
            rw [← hW8, World.cell?_alloc_mark]
            match j, hj with | 0, _ => rfl | 1, _ => rfl | 2, _ => rfl | 3, _ => rfl | 4, _ => rfl | 5, _ => rfl | 6, _ => rfl | 7, _ => rfl
          have G1 : Hid (w12.cell? ⟨b0, off0 + 0 * 3 + 1, none⟩ = some (.int .i64 1)) := Lib.hid (by rw [← hW8]; exact (World.cell?_alloc_lt _ _ _ hbl0).trans g1)
          have G2 : Hid (w12.cell? ⟨b0, off0 + 1 * 3 + 1, none⟩ = some (.int .i64 32767)) := Lib.hid (by rw [← hW8]; exact (World.cell?_alloc_lt _ _ _ hbl0).trans g2)
          have G3 : Hid (w12.cell? ⟨b0, off0 + 2 * 3 + 1, none⟩ = some (.int .i64 0)) := Lib.hid (by rw [← hW8]; exact (World.cell?_alloc_lt _ _ _ hbl0).trans g3)
          have HB12 : Hid (Below w.heap.size w w12) := Lib.hid (by rw [← hW8]; exact HA.out.alloc HZ.out _)
          have HS12 : Hid (w12.heap.size = wr.heap.size + 1) := Lib.hid (by rw [← hW8]; exact World.size_alloc ..)
          clear hW8 g1 g2 g3 HQ HA
          generalize wr.heap.size = H at *
          go_loopw [7] (fun i wx => ∃ k3 : Nat, k3 ≤ 8 ∧ i = .int .i64 k3 ∧ Below w12.heap.size w12 wx) (fun i _ => 8 - (intOf i).toNat)
          case atStart => exact ⟨0, by omega, rfl, Below.refl _ _⟩
          case round =>
            obtain ⟨k3, hk3, rfl, hbx⟩ := hrel
            by_cases hlt3 : k3 < 8
            · have e1 := (hbx.cell (p := ⟨g, k3, none⟩) (by have := HS12.out; simp; omega)).trans (HQ12.out k3 hlt3)
              have e2 := (hbx.cell (p := ⟨H, k3, none⟩) (by have := HS12.out; simp; omega)).trans (HT12.out k3 hlt3)
              generalize wantL.getD k3 0 = wv at e1 e2
              go_wp2
              go_quiet (fail)
              go_wp2
              go_roundw
              case rel => exact ⟨k3 + 1, by omega, by go_num, below_drewN hbx _⟩
              case measure => simp [intOf]; omega
            · have e1 := (hbx.cell (p := ⟨b0, off0 + 0 * 3 + 1, none⟩) (by have := HS12.out; simp; omega)).trans G1.out
              have e2 := (hbx.cell (p := ⟨b0, off0 + 1 * 3 + 1, none⟩) (by have := HS12.out; simp; omega)).trans G2.out
              have e3 := (hbx.cell (p := ⟨b0, off0 + 2 * 3 + 1, none⟩) (by have := HS12.out; simp; omega)).trans G3.out
              have hbf := HB12.out.trans (hbx.mono HB12.out.size)
              go_wp2
              go_ret
              exact ⟨rfl, hbf⟩
end Go.Proofs.Ytcdbodpmcnebiaa
