/-
  The walks of annunciatorlaw9: begun, cells; words for what the laws read.
-/
import Derived.Test.YtcdbodpmcnebiaaCntStep
namespace Go.Proofs.Ytcdbodpmcnebiaa
open Go.RowKit

/-- three cells, read -/
theorem Vals3 {w : World} {a : Option Addr} {n c : Nat} {p q r : V} (h : Vals w (.slice a n c) [p, q, r]) : ∃ b off, a = some ⟨b, off, none⟩ ∧ n = 3 ∧ b < w.heap.size ∧ w.cell? ⟨b, off + 0 * 3 + 1, none⟩ = some (.int .i64 p.i) ∧ w.cell? ⟨b, off + 1 * 3 + 1, none⟩ = some (.int .i64 q.i) ∧ w.cell? ⟨b, off + 2 * 3 + 1, none⟩ = some (.int .i64 r.i) := by
  obtain ⟨a', cap, he, _, _, hc⟩ := h.parts
  obtain ⟨b, off, ha, hb, hcell⟩ := hc (by simp)
  simp only [Value.slice.injEq] at he
  obtain ⟨rfl, rfl, rfl⟩ := he
  exact ⟨b, off, ha, rfl, hb, (hcell 0 (by simp)).2.1, (hcell 1 (by simp)).2.1, (hcell 2 (by simp)).2.1⟩
theorem Vals2 {w : World} {a : Option Addr} {n c : Nat} {p q : V} (h : Vals w (.slice a n c) [p, q]) : ∃ b off, a = some ⟨b, off, none⟩ ∧ n = 2 ∧ b < w.heap.size ∧ w.cell? ⟨b, off + 0 * 3 + 1, none⟩ = some (.int .i64 p.i) ∧ w.cell? ⟨b, off + 1 * 3 + 1, none⟩ = some (.int .i64 q.i) := by
  obtain ⟨a', cap, he, _, _, hc⟩ := h.parts
  obtain ⟨b, off, ha, hb, hcell⟩ := hc (by simp)
  simp only [Value.slice.injEq] at he
  obtain ⟨rfl, rfl, rfl⟩ := he
  exact ⟨b, off, ha, rfl, hb, (hcell 0 (by simp)).2.1, (hcell 1 (by simp)).2.1⟩

set_option maxHeartbeats 1000000 in
theorem begun_any (w : World) : Calls Try.prog 8 #[] w fun e w' => e = .returned (.bool true) ∧ Below w.heap.size w w' := by
  go_enter Try.func8, Try.ntmps8
  go_wp2_with fail
  refine (step_any 9 _ [⟨1, 0, 0⟩, ⟨2, 0, 0⟩, ⟨1, 0, 0⟩] true 1 _ (Vals.made w _ _ 3 3 _ rfl rfl (by decide) (by decide)) (by decide)).mono ?_
  rintro e w1 ⟨a, n, c, rfl, hv, hfr, hb1⟩
  rw [show stepV 9 [⟨1, 0, 0⟩, ⟨2, 0, 0⟩, ⟨1, 0, 0⟩] true 1 = [⟨1, 1, 0⟩, ⟨2, 1, 0⟩, ⟨1, 1, 0⟩] by simp [stepV, upV, truthI, wrap64]; omega] at hv
  obtain ⟨b, off, rfl, rfl, hbl, g1, g2, g3⟩ := Vals3 (p := ⟨1, 1, 0⟩) (q := ⟨2, 1, 0⟩) (r := ⟨1, 1, 0⟩) hv
  clear hv hfr
  go_wp2_with fail
  refine (step_any 11 _ [⟨1, 0, 0⟩, ⟨1, 0, 0⟩] true 0 _ (Vals.made w1 _ _ 2 2 _ rfl rfl (by decide) (by decide)) (by decide)).mono ?_
  rintro e w2 ⟨a2, n2, c2, rfl, hv2, hfr2, hb2⟩
  rw [show stepV 11 [⟨1, 0, 0⟩, ⟨1, 0, 0⟩] true 0 = [⟨1, 1, 0⟩, ⟨1, 1, 0⟩] by simp [stepV, edgeV, truthI]] at hv2
  obtain ⟨b2, off2, rfl, rfl, hbl2, k1, k2⟩ := Vals2 (p := ⟨1, 1, 0⟩) (q := ⟨1, 1, 0⟩) hv2
  have j1 := (hb2.cell (p := ⟨b, off + 0 * 3 + 1, none⟩) (by simp; omega)).trans ((World.cell?_alloc_lt _ _ _ hbl).trans g1)
  have j2 := (hb2.cell (p := ⟨b, off + 1 * 3 + 1, none⟩) (by simp; omega)).trans ((World.cell?_alloc_lt _ _ _ hbl).trans g2)
  have j3 := (hb2.cell (p := ⟨b, off + 2 * 3 + 1, none⟩) (by simp; omega)).trans ((World.cell?_alloc_lt _ _ _ hbl).trans g3)
  clear hv2 hfr2 g1 g2 g3
  go_wp2
  go_ret
  exact ⟨rfl, Below_tr (Below_al (Below_tr (Below_al (Below.refl _ _) _) hb1) _) hb2⟩

set_option maxHeartbeats 1000000 in
theorem cells_any (q was : Bool) (cv : Int) (hc : -32768 ≤ cv ∧ cv ≤ 32767) (w : World) : Calls Try.prog 9 #[.bool q, .int .i16 cv, .bool was] w (RetVals w [⟨1, truthI q, 0⟩, ⟨2, cv, 0⟩, ⟨1, truthI was, 0⟩]) := by
  obtain ⟨h1, h2⟩ := hc
  cases q <;> cases was
  all_goals
    go_enter Try.func9, Try.ntmps9
    go_wp2
    go_ret
    exact ⟨_, _, _, rfl, Vals.made _ _ _ 3 3 _ rfl rfl (by decide) (by decide), fun y h => by (cases h; exact Nat.le_refl _), (by repeat (first | assumption | exact Below.refl _ _ | apply Below_al | apply Below_dr | refine Below_st ?_ (by simp; omega) _))⟩
end Go.Proofs.Ytcdbodpmcnebiaa
