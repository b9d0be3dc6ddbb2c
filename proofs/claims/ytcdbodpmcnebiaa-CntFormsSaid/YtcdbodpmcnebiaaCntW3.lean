/-
  Contracts of package cnt: what may not be, and Step.
-/
import Derived.Test.YtcdbodpmcnebiaaCntW2
namespace Go.Proofs.Ytcdbodpmcnebiaa
open Go.RowKit

theorem Reads_st {w : World} {k n : Nat} {v : Value} {cs : List Value} {p : Addr} {u : Value} (h : Reads w k v n cs) (hne : ∀ y m c, v = .slice (some y) m c → y.block ≠ p.block) : Reads (w.setCell p u) k v n cs := by
  obtain ⟨a, cap, rfl, h1, h2, h3, h4, hc⟩ := h
  refine ⟨a, cap, rfl, h1, h2, h3, h4, fun hn => ?_⟩
  obtain ⟨b, off, rfl, hbl, hcell⟩ := hc hn
  have hb := hne _ _ _ rfl
  refine ⟨b, off, rfl, by simpa [World.setCell] using hbl, fun j hj => ?_⟩
  rw [World.cell?_setCell_other _ _ _ _ (by intro e; apply hb; rw [e]), hcell j hj]

set_option maxHeartbeats 400000 in
theorem up_bad (x : Value) (c : List V) (inn : Bool) (pv : Int) (w : World) (hx : Vals w x c) (h : ¬ c.map V.kind = [1, 2, 1]) :
    Calls Try.prog 14 #[x, .bool inn, .int .i64 pv] w fun e w' => e = wrongE ∧ Below w.heap.size w w' := by
  have HX := Lib.hid hx
  have HN := Lib.hid h
  clear hx h
  go_enter Try.func14, Try.ntmps14
  go_wp2_with (go_at_call 21; refine (chain (w0 := w) (may_not _ _ _ [1, 2, 1] _ (HX.out.kept ((Below.refl w.heap.size _).alloc (Nat.le_refl _) _) (Nat.le_refl _)) (Ints.made w _ _ _ _ [1, 2, 1] rfl rfl (by decide) (by decide)) HN.out) (by repeat (first | assumption | exact Below.refl _ _ | apply Below_al | apply Below_dr | refine Below_st ?_ (by simp; omega) _))).mono ?_; rintro e w5 ⟨rfl, hb5⟩; unfold wrongE)
  exact ⟨rfl, rfl, hb5⟩

set_option maxHeartbeats 400000 in
theorem down_bad (x : Value) (c : List V) (inn : Bool) (pv : Int) (w : World) (hx : Vals w x c) (h : ¬ c.map V.kind = [1, 2, 1]) :
    Calls Try.prog 15 #[x, .bool inn, .int .i64 pv] w fun e w' => e = wrongE ∧ Below w.heap.size w w' := by
  have HX := Lib.hid hx
  have HN := Lib.hid h
  clear hx h
  go_enter Try.func15, Try.ntmps15
  go_wp2_with (go_at_call 21; refine (chain (w0 := w) (may_not _ _ _ [1, 2, 1] _ (HX.out.kept ((Below.refl w.heap.size _).alloc (Nat.le_refl _) _) (Nat.le_refl _)) (Ints.made w _ _ _ _ [1, 2, 1] rfl rfl (by decide) (by decide)) HN.out) (by repeat (first | assumption | exact Below.refl _ _ | apply Below_al | apply Below_dr | refine Below_st ?_ (by simp; omega) _))).mono ?_; rintro e w5 ⟨rfl, hb5⟩; unfold wrongE)
  exact ⟨rfl, rfl, hb5⟩

set_option maxHeartbeats 400000 in
theorem edge_bad (x : Value) (c : List V) (inn rises : Bool) (w : World) (hx : Vals w x c) (h : ¬ c.map V.kind = [1, 1]) :
    Calls Try.prog 16 #[x, .bool inn, .bool rises] w fun e w' => e = wrongE ∧ Below w.heap.size w w' := by
  have HX := Lib.hid hx
  have HN := Lib.hid h
  clear hx h
  go_enter Try.func16, Try.ntmps16
  go_wp2_with (go_at_call 21; refine (chain (w0 := w) (may_not _ _ _ [1, 1] _ (HX.out.kept ((Below.refl w.heap.size _).alloc (Nat.le_refl _) _) (Nat.le_refl _)) (Ints.made w _ _ _ _ [1, 1] rfl rfl (by decide) (by decide)) HN.out) (by repeat (first | assumption | exact Below.refl _ _ | apply Below_al | apply Below_dr | refine Below_st ?_ (by simp; omega) _))).mono ?_; rintro e w5 ⟨rfl, hb5⟩; unfold wrongE)
  exact ⟨rfl, rfl, hb5⟩

set_option maxHeartbeats 400000 in
theorem caught_idle (x : Value) (p : Addr) (w : World) :
    CallsD Try.prog 13 #[x, .pointer (some p)] .returning w fun e u' w' => u' = .returning ∧ (e = .returned (.tuple #[]) ∧ w' = w.alloc (.cells #[] 43)) := by
  have hta : ∀ w : World, (Instr.typeAssert .nilIface 20 43 true).run Try.prog w = .ok (.tuple #[.agg #[], .bool false]) w := fun _ => by kernel_rfl
  refine callsD_recover Try.func13 rfl rfl (fun _ => rfl) (.inr ⟨rfl, rfl, rfl⟩) ?_
  simp only [Try.ntmps13, List.size_toArray, List.length_cons, List.length_nil, Nat.reduceAdd, Nat.reduceSub, Array.replicate_succ, Array.replicate_zero, List.push_toArray, List.append_toArray, List.nil_append, List.cons_append, Act.put, List.setIfInBounds_toArray, List.set_cons_succ, List.set_cons_zero]
  go_wp2
  go_end0
  exact ⟨rfl, rfl⟩

/-- what is left where cells are told as they were -/
def CaughtPost (B : Nat) (w : World) (l : List V) (e : Ending) (w' : World) : Prop := e = .returned (.tuple #[]) ∧ (∃ a n c, w'.cell? ⟨B, 0, none⟩ = some (.slice a n c) ∧ Vals w' (.slice a n c) l ∧ (∀ y, a = some y → B ≤ y.block)) ∧ Below B w w'

set_option maxHeartbeats 1000000 in
theorem caught_wrong (x u : Value) (l : List V) (B : Nat) (older : List PanicEntry) (w : World) (hx : Vals w x l) (hl : l.length * 24 ≤ 140737488355328) (hB : B < w.heap.size) (hp : w.cell? ⟨B, 0, none⟩ = some u) (fp : w.frozen? ⟨B, 0, none⟩ = false) :
    CallsD Try.prog 13 #[x, .pointer (some ⟨B, 0, none⟩)] (.panicking ({ v := .iface 43 (.agg #[]), recovered := false } :: older)) w fun e u' w' => u' = .panicking ({ v := .iface 43 (.agg #[]), recovered := true } :: older) ∧ CaughtPost B w l e w' := by
  have HX := Lib.hid hx
  clear hx
  have hta : ∀ w : World, (Instr.typeAssert (.iface 43 (.agg #[])) 20 43 true).run Try.prog w = .ok (.tuple #[.agg #[], .bool true]) w := fun _ => by kernel_rfl
  refine callsD_recover Try.func13 rfl rfl (fun _ => rfl) (.inl ⟨older, rfl, rfl⟩) ?_
  simp only [Try.ntmps13, List.size_toArray, List.length_cons, List.length_nil, Nat.reduceAdd, Nat.reduceSub, Array.replicate_succ, Array.replicate_zero, List.push_toArray, List.append_toArray, List.nil_append, List.cons_append, Act.put, List.setIfInBounds_toArray, List.set_cons_succ, List.set_cons_zero]
  go_wp2_with fail
  refine (clone_any x l _ (HX.out.kept ((Below.refl w.heap.size _).alloc (Nat.le_refl _) _) (Nat.le_refl _)) hl).mono ?_
  rintro e w5 ⟨a, n, c, rfl, hv, hfr, hb5⟩
  have c1 := (hb5.cell (p := ⟨B, 0, none⟩) (by simp; omega)).trans ((World.cell?_alloc_lt w _ ⟨B, 0, none⟩ hB).trans hp)
  have c2 := (hb5.frozen (p := ⟨B, 0, none⟩) (by simp; omega)).trans ((frozen?_alloc_cells w _ _ _).trans fp)
  have s5 := hb5.size
  simp only [World.size_alloc] at s5
  have hB5 : B < w5.heap.size := by omega
  have HV := Lib.hid hv
  have HF := Lib.hid hfr
  clear hv hfr
  go_wp2
  go_end0
  refine ⟨rfl, ⟨a, n, c, World.cell?_setCell_same _ _ _ c1, Reads_st HV.out ?_, fun y hy => ?_⟩, ?_⟩
  · intro y m c' hy
    cases hy
    have := HF.out y rfl
    simp at this ⊢; omega
  · have := HF.out y hy
    simp at this; omega
  · exact (((Below.refl B w).alloc (by omega) _).trans (hb5.mono (by simp; omega))).setCell (Nat.le_refl _) _

def stepV (kind : Int) (c : List V) (inn : Bool) (pv : Int) : List V :=
  if kind = 9 ∧ c.map V.kind = [1, 2, 1] then upV (c.getD 1 V0).i (c.getD 2 V0).i inn pv
  else if kind = 10 ∧ c.map V.kind = [1, 2, 1] then downV (c.getD 1 V0).i (c.getD 2 V0).i inn pv
  else if kind = 11 ∧ c.map V.kind = [1, 1] then edgeV (c.getD 1 V0).i inn true
  else if kind = 12 ∧ c.map V.kind = [1, 1] then edgeV (c.getD 1 V0).i inn false
  else c

end Go.Proofs.Ytcdbodpmcnebiaa
