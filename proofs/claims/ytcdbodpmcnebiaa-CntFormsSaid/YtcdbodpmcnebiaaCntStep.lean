/-
  The contract of cnt.Step.
-/
import Derived.Test.YtcdbodpmcnebiaaCntW3
namespace Go.Proofs.Ytcdbodpmcnebiaa
open Go.RowKit

theorem three (c : List V) (a b d : Int) (h : c.map V.kind = [a, b, d]) : ∃ c0 c1 c2, c = [c0, c1, c2] ∧ c0.kind = a ∧ c1.kind = b ∧ c2.kind = d := by
  match c, h with
  | [c0, c1, c2], h => simp at h; exact ⟨c0, c1, c2, rfl, h.1, h.2.1, h.2.2⟩
theorem two (c : List V) (a b : Int) (h : c.map V.kind = [a, b]) : ∃ c0 c1, c = [c0, c1] ∧ c0.kind = a ∧ c1.kind = b := by
  match c, h with
  | [c0, c1], h => simp at h; exact ⟨c0, c1, rfl, h.1, h.2⟩

set_option maxHeartbeats 1000000 in
theorem step_up (x : Value) (c0 c1 c2 : V) (inn : Bool) (pv : Int) (w : World) (hx : Vals w x [c0, c1, c2]) (h0 : c0.kind = 1) (h1 : c1.kind = 2) (h2 : c2.kind = 1) :
    Calls Try.prog 10 #[.int .i64 9, x, .bool inn, .int .i64 pv] w (RetVals w (upV c1.i c2.i inn pv)) := by
  have HX := Lib.hid hx
  clear hx
  go_enter_defers Try.func10, Try.ntmps10
  go_wp2_with (go_at_call 14; refine (up_ok x c0 c1 c2 inn pv _ (HX.out.kept ((Below.refl w.heap.size _).alloc (Nat.le_refl _) _) (Nat.le_refl _)) h0 h1 h2).mono ?_; rintro e w5 ⟨a, n, cc, rfl, hv, hfr, hb5⟩; have g1 := (hb5.cell (p := ⟨w.heap.size, 0, none⟩) (by simp)).trans (World.cell?_alloc_new w _ _ 0); have g2 := (hb5.frozen (p := ⟨w.heap.size, 0, none⟩) (by simp)).trans (frozen_of_row _ _ 0 _ _ (heap_alloc_new w _)); have HV := Lib.hid hv; have HF := Lib.hid hfr; clear hv hfr)
  refine leaves_cons (f := 13) (args := #[x, .pointer (some ⟨w.heap.size, 0, none⟩)]) (by simp) (by simp [go_sem]) ?_
  refine (caught_idle _ _ _).mono ?_
  rintro e u' w'' ⟨rfl, rfl, rfl⟩
  have s5 := hb5.size
  simp only [World.size_alloc] at s5
  have k1 : ((w5.setCell ⟨w.heap.size, 0, none⟩ (.slice a n cc)).alloc (.cells #[] 43)).cell? ⟨w.heap.size, 0, none⟩ = some (.slice a n cc) := by
    rw [World.cell?_alloc_lt _ _ _ (by simp [World.setCell]; omega)]
    exact World.cell?_setCell_same _ _ _ g1
  refine ⟨.slice a n cc, ?_, a, n, cc, rfl, ?_, fun y hy => ?_, ?_⟩
  · simp [results, Try.results10, go_sem, k1]
  · refine (Reads_st HV.out ?_ : Vals (w5.setCell _ _) _ _).kept ((Below.refl w5.heap.size _).alloc (by simp [World.setCell]) _) (by simp [World.setCell])
    intro y m c' hy
    cases hy
    have := HF.out y rfl
    simp at this ⊢; omega
  · have := HF.out y hy
    simp at this; omega
  · exact ((((Below.refl w.heap.size w).alloc (Nat.le_refl _) _).trans (hb5.mono (by simp))).setCell (Nat.le_refl _) _).alloc (by simp [World.setCell]; omega) _

set_option maxHeartbeats 1000000 in
theorem step_down (x : Value) (c0 c1 c2 : V) (inn : Bool) (pv : Int) (w : World) (hx : Vals w x [c0, c1, c2]) (h0 : c0.kind = 1) (h1 : c1.kind = 2) (h2 : c2.kind = 1) :
    Calls Try.prog 10 #[.int .i64 10, x, .bool inn, .int .i64 pv] w (RetVals w (downV c1.i c2.i inn pv)) := by
  have HX := Lib.hid hx
  clear hx
  go_enter_defers Try.func10, Try.ntmps10
  go_wp2_with (go_at_call 15; refine (down_ok x c0 c1 c2 inn pv _ (HX.out.kept ((Below.refl w.heap.size _).alloc (Nat.le_refl _) _) (Nat.le_refl _)) h0 h1 h2).mono ?_; rintro e w5 ⟨a, n, cc, rfl, hv, hfr, hb5⟩; have g1 := (hb5.cell (p := ⟨w.heap.size, 0, none⟩) (by simp)).trans (World.cell?_alloc_new w _ _ 0); have g2 := (hb5.frozen (p := ⟨w.heap.size, 0, none⟩) (by simp)).trans (frozen_of_row _ _ 0 _ _ (heap_alloc_new w _)); have HV := Lib.hid hv; have HF := Lib.hid hfr; clear hv hfr)
  refine leaves_cons (f := 13) (args := #[x, .pointer (some ⟨w.heap.size, 0, none⟩)]) (by simp) (by simp [go_sem]) ?_
  refine (caught_idle _ _ _).mono ?_
  rintro e u' w'' ⟨rfl, rfl, rfl⟩
  have s5 := hb5.size
  simp only [World.size_alloc] at s5
  have k1 : ((w5.setCell ⟨w.heap.size, 0, none⟩ (.slice a n cc)).alloc (.cells #[] 43)).cell? ⟨w.heap.size, 0, none⟩ = some (.slice a n cc) := by
    rw [World.cell?_alloc_lt _ _ _ (by simp [World.setCell]; omega)]
    exact World.cell?_setCell_same _ _ _ g1
  refine ⟨.slice a n cc, ?_, a, n, cc, rfl, ?_, fun y hy => ?_, ?_⟩
  · simp [results, Try.results10, go_sem, k1]
  · refine (Reads_st HV.out ?_ : Vals (w5.setCell _ _) _ _).kept ((Below.refl w5.heap.size _).alloc (by simp [World.setCell]) _) (by simp [World.setCell])
    intro y m c' hy
    cases hy
    have := HF.out y rfl
    simp at this ⊢; omega
  · have := HF.out y hy
    simp at this; omega
  · exact ((((Below.refl w.heap.size w).alloc (Nat.le_refl _) _).trans (hb5.mono (by simp))).setCell (Nat.le_refl _) _).alloc (by simp [World.setCell]; omega) _

set_option maxHeartbeats 1000000 in
theorem step_rise (x : Value) (c0 c1 : V) (inn : Bool) (pv : Int) (w : World) (hx : Vals w x [c0, c1]) (h0 : c0.kind = 1) (h1 : c1.kind = 1) :
    Calls Try.prog 10 #[.int .i64 11, x, .bool inn, .int .i64 pv] w (RetVals w (edgeV c1.i inn true)) := by
  have HX := Lib.hid hx
  clear hx
  go_enter_defers Try.func10, Try.ntmps10
  go_wp2_with (go_at_call 16; refine (edge_ok x c0 c1 inn true _ (HX.out.kept ((Below.refl w.heap.size _).alloc (Nat.le_refl _) _) (Nat.le_refl _)) h0 h1).mono ?_; rintro e w5 ⟨a, n, cc, rfl, hv, hfr, hb5⟩; have g1 := (hb5.cell (p := ⟨w.heap.size, 0, none⟩) (by simp)).trans (World.cell?_alloc_new w _ _ 0); have g2 := (hb5.frozen (p := ⟨w.heap.size, 0, none⟩) (by simp)).trans (frozen_of_row _ _ 0 _ _ (heap_alloc_new w _)); have HV := Lib.hid hv; have HF := Lib.hid hfr; clear hv hfr)
  refine leaves_cons (f := 13) (args := #[x, .pointer (some ⟨w.heap.size, 0, none⟩)]) (by simp) (by simp [go_sem]) ?_
  refine (caught_idle _ _ _).mono ?_
  rintro e u' w'' ⟨rfl, rfl, rfl⟩
  have s5 := hb5.size
  simp only [World.size_alloc] at s5
  have k1 : ((w5.setCell ⟨w.heap.size, 0, none⟩ (.slice a n cc)).alloc (.cells #[] 43)).cell? ⟨w.heap.size, 0, none⟩ = some (.slice a n cc) := by
    rw [World.cell?_alloc_lt _ _ _ (by simp [World.setCell]; omega)]
    exact World.cell?_setCell_same _ _ _ g1
  refine ⟨.slice a n cc, ?_, a, n, cc, rfl, ?_, fun y hy => ?_, ?_⟩
  · simp [results, Try.results10, go_sem, k1]
  · refine (Reads_st HV.out ?_ : Vals (w5.setCell _ _) _ _).kept ((Below.refl w5.heap.size _).alloc (by simp [World.setCell]) _) (by simp [World.setCell])
    intro y m c' hy
    cases hy
    have := HF.out y rfl
    simp at this ⊢; omega
  · have := HF.out y hy
    simp at this; omega
  · exact ((((Below.refl w.heap.size w).alloc (Nat.le_refl _) _).trans (hb5.mono (by simp))).setCell (Nat.le_refl _) _).alloc (by simp [World.setCell]; omega) _

set_option maxHeartbeats 1000000 in
theorem step_fall (x : Value) (c0 c1 : V) (inn : Bool) (pv : Int) (w : World) (hx : Vals w x [c0, c1]) (h0 : c0.kind = 1) (h1 : c1.kind = 1) :
    Calls Try.prog 10 #[.int .i64 12, x, .bool inn, .int .i64 pv] w (RetVals w (edgeV c1.i inn false)) := by
  have HX := Lib.hid hx
  clear hx
  go_enter_defers Try.func10, Try.ntmps10
  go_wp2_with (go_at_call 16; refine (edge_ok x c0 c1 inn false _ (HX.out.kept ((Below.refl w.heap.size _).alloc (Nat.le_refl _) _) (Nat.le_refl _)) h0 h1).mono ?_; rintro e w5 ⟨a, n, cc, rfl, hv, hfr, hb5⟩; have g1 := (hb5.cell (p := ⟨w.heap.size, 0, none⟩) (by simp)).trans (World.cell?_alloc_new w _ _ 0); have g2 := (hb5.frozen (p := ⟨w.heap.size, 0, none⟩) (by simp)).trans (frozen_of_row _ _ 0 _ _ (heap_alloc_new w _)); have HV := Lib.hid hv; have HF := Lib.hid hfr; clear hv hfr)
  refine leaves_cons (f := 13) (args := #[x, .pointer (some ⟨w.heap.size, 0, none⟩)]) (by simp) (by simp [go_sem]) ?_
  refine (caught_idle _ _ _).mono ?_
  rintro e u' w'' ⟨rfl, rfl, rfl⟩
  have s5 := hb5.size
  simp only [World.size_alloc] at s5
  have k1 : ((w5.setCell ⟨w.heap.size, 0, none⟩ (.slice a n cc)).alloc (.cells #[] 43)).cell? ⟨w.heap.size, 0, none⟩ = some (.slice a n cc) := by
    rw [World.cell?_alloc_lt _ _ _ (by simp [World.setCell]; omega)]
    exact World.cell?_setCell_same _ _ _ g1
  refine ⟨.slice a n cc, ?_, a, n, cc, rfl, ?_, fun y hy => ?_, ?_⟩
  · simp [results, Try.results10, go_sem, k1]
  · refine (Reads_st HV.out ?_ : Vals (w5.setCell _ _) _ _).kept ((Below.refl w5.heap.size _).alloc (by simp [World.setCell]) _) (by simp [World.setCell])
    intro y m c' hy
    cases hy
    have := HF.out y rfl
    simp at this ⊢; omega
  · have := HF.out y hy
    simp at this; omega
  · exact ((((Below.refl w.heap.size w).alloc (Nat.le_refl _) _).trans (hb5.mono (by simp))).setCell (Nat.le_refl _) _).alloc (by simp [World.setCell]; omega) _

set_option maxHeartbeats 1000000 in
theorem step_up_bad (x : Value) (c : List V) (inn : Bool) (pv : Int) (w : World) (hx : Vals w x c) (hl : c.length * 24 ≤ 140737488355328) (h : ¬ c.map V.kind = [1, 2, 1]) :
    Calls Try.prog 10 #[.int .i64 9, x, .bool inn, .int .i64 pv] w (RetVals w c) := by
  have HX := Lib.hid hx
  have HH := Lib.hid h
  have HL := Lib.hid hl
  clear hx h hl
  go_enter_defers Try.func10, Try.ntmps10
  go_wp2_with (go_at_call 14; refine (up_bad x c inn pv _ (HX.out.kept ((Below.refl w.heap.size _).alloc (Nat.le_refl _) _) (Nat.le_refl _)) HH.out).mono ?_; rintro e w5 ⟨rfl, hb5⟩; unfold wrongE)
  refine leaves_cons (f := 13) (args := #[x, .pointer (some ⟨w.heap.size, 0, none⟩)]) (by simp) (by simp [go_sem]) ?_
  have g1 := (hb5.cell (p := ⟨w.heap.size, 0, none⟩) (by simp)).trans (World.cell?_alloc_new w _ _ 0)
  have g2 := (hb5.frozen (p := ⟨w.heap.size, 0, none⟩) (by simp)).trans (frozen_of_row _ _ 0 _ _ (heap_alloc_new w _))
  have s5 := hb5.size
  simp only [World.size_alloc] at s5
  have b5 : Below w.heap.size w w5 := ((Below.refl w.heap.size w).alloc (Nat.le_refl _) _).trans (hb5.mono (by simp))
  refine (caught_wrong x _ c w.heap.size [] _ (HX.out.kept b5 (Nat.le_refl _)) HL.out (by omega) g1 g2).mono ?_
  rintro e u' w'' ⟨rfl, he, ⟨a, n, cc, k1, hv, hfr⟩, hb6⟩
  subst he
  refine ⟨.slice a n cc, ?_, a, n, cc, rfl, hv, hfr, b5.trans hb6⟩
  simp [results, Try.results10, go_sem, k1]

set_option maxHeartbeats 1000000 in
theorem step_down_bad (x : Value) (c : List V) (inn : Bool) (pv : Int) (w : World) (hx : Vals w x c) (hl : c.length * 24 ≤ 140737488355328) (h : ¬ c.map V.kind = [1, 2, 1]) :
    Calls Try.prog 10 #[.int .i64 10, x, .bool inn, .int .i64 pv] w (RetVals w c) := by
  have HX := Lib.hid hx
  have HH := Lib.hid h
  have HL := Lib.hid hl
  clear hx h hl
  go_enter_defers Try.func10, Try.ntmps10
  go_wp2_with (go_at_call 15; refine (down_bad x c inn pv _ (HX.out.kept ((Below.refl w.heap.size _).alloc (Nat.le_refl _) _) (Nat.le_refl _)) HH.out).mono ?_; rintro e w5 ⟨rfl, hb5⟩; unfold wrongE)
  refine leaves_cons (f := 13) (args := #[x, .pointer (some ⟨w.heap.size, 0, none⟩)]) (by simp) (by simp [go_sem]) ?_
  have g1 := (hb5.cell (p := ⟨w.heap.size, 0, none⟩) (by simp)).trans (World.cell?_alloc_new w _ _ 0)
  have g2 := (hb5.frozen (p := ⟨w.heap.size, 0, none⟩) (by simp)).trans (frozen_of_row _ _ 0 _ _ (heap_alloc_new w _))
  have s5 := hb5.size
  simp only [World.size_alloc] at s5
  have b5 : Below w.heap.size w w5 := ((Below.refl w.heap.size w).alloc (Nat.le_refl _) _).trans (hb5.mono (by simp))
  refine (caught_wrong x _ c w.heap.size [] _ (HX.out.kept b5 (Nat.le_refl _)) HL.out (by omega) g1 g2).mono ?_
  rintro e u' w'' ⟨rfl, he, ⟨a, n, cc, k1, hv, hfr⟩, hb6⟩
  subst he
  refine ⟨.slice a n cc, ?_, a, n, cc, rfl, hv, hfr, b5.trans hb6⟩
  simp [results, Try.results10, go_sem, k1]

set_option maxHeartbeats 1000000 in
theorem step_rise_bad (x : Value) (c : List V) (inn : Bool) (pv : Int) (w : World) (hx : Vals w x c) (hl : c.length * 24 ≤ 140737488355328) (h : ¬ c.map V.kind = [1, 1]) :
    Calls Try.prog 10 #[.int .i64 11, x, .bool inn, .int .i64 pv] w (RetVals w c) := by
  have HX := Lib.hid hx
  have HH := Lib.hid h
  have HL := Lib.hid hl
  clear hx h hl
  go_enter_defers Try.func10, Try.ntmps10
  go_wp2_with (go_at_call 16; refine (edge_bad x c inn true _ (HX.out.kept ((Below.refl w.heap.size _).alloc (Nat.le_refl _) _) (Nat.le_refl _)) HH.out).mono ?_; rintro e w5 ⟨rfl, hb5⟩; unfold wrongE)
  refine leaves_cons (f := 13) (args := #[x, .pointer (some ⟨w.heap.size, 0, none⟩)]) (by simp) (by simp [go_sem]) ?_
  have g1 := (hb5.cell (p := ⟨w.heap.size, 0, none⟩) (by simp)).trans (World.cell?_alloc_new w _ _ 0)
  have g2 := (hb5.frozen (p := ⟨w.heap.size, 0, none⟩) (by simp)).trans (frozen_of_row _ _ 0 _ _ (heap_alloc_new w _))
  have s5 := hb5.size
  simp only [World.size_alloc] at s5
  have b5 : Below w.heap.size w w5 := ((Below.refl w.heap.size w).alloc (Nat.le_refl _) _).trans (hb5.mono (by simp))
  refine (caught_wrong x _ c w.heap.size [] _ (HX.out.kept b5 (Nat.le_refl _)) HL.out (by omega) g1 g2).mono ?_
  rintro e u' w'' ⟨rfl, he, ⟨a, n, cc, k1, hv, hfr⟩, hb6⟩
  subst he
  refine ⟨.slice a n cc, ?_, a, n, cc, rfl, hv, hfr, b5.trans hb6⟩
  simp [results, Try.results10, go_sem, k1]

set_option maxHeartbeats 1000000 in
theorem step_fall_bad (x : Value) (c : List V) (inn : Bool) (pv : Int) (w : World) (hx : Vals w x c) (hl : c.length * 24 ≤ 140737488355328) (h : ¬ c.map V.kind = [1, 1]) :
    Calls Try.prog 10 #[.int .i64 12, x, .bool inn, .int .i64 pv] w (RetVals w c) := by
  have HX := Lib.hid hx
  have HH := Lib.hid h
  have HL := Lib.hid hl
  clear hx h hl
  go_enter_defers Try.func10, Try.ntmps10
  go_wp2_with (go_at_call 16; refine (edge_bad x c inn false _ (HX.out.kept ((Below.refl w.heap.size _).alloc (Nat.le_refl _) _) (Nat.le_refl _)) HH.out).mono ?_; rintro e w5 ⟨rfl, hb5⟩; unfold wrongE)
  refine leaves_cons (f := 13) (args := #[x, .pointer (some ⟨w.heap.size, 0, none⟩)]) (by simp) (by simp [go_sem]) ?_
  have g1 := (hb5.cell (p := ⟨w.heap.size, 0, none⟩) (by simp)).trans (World.cell?_alloc_new w _ _ 0)
  have g2 := (hb5.frozen (p := ⟨w.heap.size, 0, none⟩) (by simp)).trans (frozen_of_row _ _ 0 _ _ (heap_alloc_new w _))
  have s5 := hb5.size
  simp only [World.size_alloc] at s5
  have b5 : Below w.heap.size w w5 := ((Below.refl w.heap.size w).alloc (Nat.le_refl _) _).trans (hb5.mono (by simp))
  refine (caught_wrong x _ c w.heap.size [] _ (HX.out.kept b5 (Nat.le_refl _)) HL.out (by omega) g1 g2).mono ?_
  rintro e u' w'' ⟨rfl, he, ⟨a, n, cc, k1, hv, hfr⟩, hb6⟩
  subst he
  refine ⟨.slice a n cc, ?_, a, n, cc, rfl, hv, hfr, b5.trans hb6⟩
  simp [results, Try.results10, go_sem, k1]

set_option maxHeartbeats 1000000 in
theorem step_other (kind : Int) (x : Value) (c : List V) (inn : Bool) (pv : Int) (w : World) (hx : Vals w x c) (hl : c.length * 24 ≤ 140737488355328) (h : kind ≠ 9 ∧ kind ≠ 10 ∧ kind ≠ 11 ∧ kind ≠ 12) :
    Calls Try.prog 10 #[.int .i64 kind, x, .bool inn, .int .i64 pv] w (RetVals w c) := by
  have HX := Lib.hid hx
  have HH := Lib.hid h
  have HL := Lib.hid hl
  have d1 : (kind == 9) = false := by simpa using h.1
  have d2 : (kind == 10) = false := by simpa using h.2.1
  have d3 : (kind == 11) = false := by simpa using h.2.2.1
  have d4 : (kind == 12) = false := by simpa using h.2.2.2
  clear hx h hl
  go_enter_defers Try.func10, Try.ntmps10
  go_wp2
  refine leaves_cons (f := 13) (args := #[x, .pointer (some ⟨w.heap.size, 0, none⟩)]) (by simp) (by simp [go_sem]) ?_
  have g1 := World.cell?_alloc_new w #[.slice none 0 0] 25 0
  have g2 := frozen_of_row _ _ 0 _ _ (heap_alloc_new w (.cells #[.slice none 0 0] 25))
  have s5 : w.heap.size + 1 ≤ (w.alloc (.cells #[.slice none 0 0] 25)).heap.size := by simp
  have b5 : Below w.heap.size w (w.alloc (.cells #[.slice none 0 0] 25)) := (Below.refl w.heap.size w).alloc (Nat.le_refl _) _
  refine (caught_wrong x _ c w.heap.size [] _ (HX.out.kept b5 (Nat.le_refl _)) HL.out (by omega) g1 g2).mono ?_
  rintro e u' w'' ⟨rfl, he, ⟨a, n, cc, k1, hv, hfr⟩, hb6⟩
  subst he
  refine ⟨.slice a n cc, ?_, a, n, cc, rfl, hv, hfr, b5.trans hb6⟩
  simp [results, Try.results10, go_sem, k1]

theorem step_any (kind : Int) (x : Value) (c : List V) (inn : Bool) (pv : Int) (w : World) (hx : Vals w x c) (hl : c.length * 24 ≤ 140737488355328) :
    Calls Try.prog 10 #[.int .i64 kind, x, .bool inn, .int .i64 pv] w (RetVals w (stepV kind c inn pv)) := by
  by_cases h9 : kind = 9
  · subst h9
    by_cases hk : c.map V.kind = [1, 2, 1]
    · obtain ⟨c0, c1, c2, rfl, h0, h1, h2⟩ := three c _ _ _ hk
      have e : stepV 9 [c0, c1, c2] inn pv = upV c1.i c2.i inn pv := by unfold stepV; rw [if_pos ⟨rfl, hk⟩]; rfl
      rw [e]; exact step_up x c0 c1 c2 inn pv w hx h0 h1 h2
    · have e : stepV 9 c inn pv = c := by simp [stepV, hk]
      rw [e]; exact step_up_bad x c inn pv w hx hl hk
  by_cases h10 : kind = 10
  · subst h10
    by_cases hk : c.map V.kind = [1, 2, 1]
    · obtain ⟨c0, c1, c2, rfl, h0, h1, h2⟩ := three c _ _ _ hk
      have e : stepV 10 [c0, c1, c2] inn pv = downV c1.i c2.i inn pv := by unfold stepV; rw [if_neg (by simp), if_pos ⟨rfl, hk⟩]; rfl
      rw [e]; exact step_down x c0 c1 c2 inn pv w hx h0 h1 h2
    · have e : stepV 10 c inn pv = c := by simp [stepV, hk]
      rw [e]; exact step_down_bad x c inn pv w hx hl hk
  by_cases h11 : kind = 11
  · subst h11
    by_cases hk : c.map V.kind = [1, 1]
    · obtain ⟨c0, c1, rfl, h0, h1⟩ := two c _ _ hk
      have e : stepV 11 [c0, c1] inn pv = edgeV c1.i inn true := by unfold stepV; rw [if_neg (by simp), if_neg (by simp), if_pos ⟨rfl, hk⟩]; rfl
      rw [e]; exact step_rise x c0 c1 inn pv w hx h0 h1
    · have e : stepV 11 c inn pv = c := by simp [stepV, hk]
      rw [e]; exact step_rise_bad x c inn pv w hx hl hk
  by_cases h12 : kind = 12
  · subst h12
    by_cases hk : c.map V.kind = [1, 1]
    · obtain ⟨c0, c1, rfl, h0, h1⟩ := two c _ _ hk
      have e : stepV 12 [c0, c1] inn pv = edgeV c1.i inn false := by unfold stepV; rw [if_neg (by simp), if_neg (by simp), if_neg (by simp), if_pos ⟨rfl, hk⟩]; rfl
      rw [e]; exact step_fall x c0 c1 inn pv w hx h0 h1
    · have e : stepV 12 c inn pv = c := by simp [stepV, hk]
      rw [e]; exact step_fall_bad x c inn pv w hx hl hk
  · have e : stepV kind c inn pv = c := by simp [stepV, h9, h10, h11, h12]
    rw [e]; exact step_other kind x c inn pv w hx hl ⟨h9, h10, h11, h12⟩
end Go.Proofs.Ytcdbodpmcnebiaa
