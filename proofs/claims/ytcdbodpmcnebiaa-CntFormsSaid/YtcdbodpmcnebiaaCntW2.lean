/-
  Contracts of package cnt: counters, edges, the clone of cells.
-/
import Derived.Test.YtcdbodpmcnebiaaCntW
namespace Go.Proofs.Ytcdbodpmcnebiaa
open Go.RowKit

/-- it returns a slice that reads l, and nothing that was there is changed -/
def RetVals (w : World) (l : List V) (e : Ending) (w' : World) : Prop := ∃ a n c, e = .returned (.slice a n c) ∧ Vals w' (.slice a n c) l ∧ (∀ y, a = some y → w.heap.size ≤ y.block) ∧ Below w.heap.size w w'

theorem info_val : (Try.prog.info? 30).map (fun i => (i.zero, i.size, i.bytes)) = some (some (.agg #[.int .i64 0, .int .i64 0, .float .f64 0]), 3, 24) := by kernel_rfl

set_option maxHeartbeats 400000 in
theorem clone_any (x : Value) (l : List V) (w : World) (hx : Vals w x l) (hb : l.length * 24 ≤ 140737488355328) :
    Calls Try.prog 20 #[x] w (RetVals w l) := by
  have HX := Lib.hid hx
  obtain ⟨a, cap, rfl, hm, hn, _⟩ := hx.parts
  obtain ⟨i0, hi, hz0, hz1, hz2⟩ := info_parts info_val
  clear hx
  cases a with
  | none =>
    obtain rfl : cap = 0 := hn rfl
    have hl : l = [] := by
      by_cases h : l = []
      · exact h
      · obtain ⟨a, cap, h1, _, _, h2⟩ := HX.out.parts
        obtain ⟨b, off, h3, _⟩ := h2 h
        simp only [Value.slice.injEq] at h1
        rw [← h1.1] at h3; cases h3
    subst hl
    have hq := fun (w : World) => Lib.run_eql_slice_nil (P := Try.prog) w 25 30 none 0 0 0 0 Try.underlying25
    go_enter Try.func20, Try.ntmps20
    go_wp2
    go_ret
    exact ⟨_, _, _, rfl, Vals.nil _, fun y h => by simp at h, Below.refl _ _⟩
  | some a =>
    have HR := Lib.hid (Reads.kept HX.out ((Below.refl w.heap.size _).alloc (Nat.le_refl _) (.cells #[] 30)) (Nat.le_refl _))
    have hm2 := hm
    unfold maxLen at hm2
    have hq := fun (w : World) => Lib.run_eql_slice_nil (P := Try.prog) w 25 30 (some a) l.length cap 0 0 Try.underlying25
    go_enter Try.func20, Try.ntmps20
    go_wp2_with (at_builtin; refine wpList_append_rd rfl (.tmp 5) (.tmp 6) 25 rfl w.heap.size 30 i0 _ 3 24 Try.underlying25 hi hz0 hz1 hz2 rfl (by decide) _ 0 [] rfl (World.ownsRow_lit w #[] 0 (Nat.le_refl _) (by decide) rfl) _ _ _ rfl HR.out (vcells_one _) (by rw [Nat.zero_add]; exact hm) (by rw [Nat.zero_add]; exact hb) (by simp) ?_; intro v3 w3 hown3 hb3 _; simp only [Nat.zero_add, List.nil_append] at hown3)
    go_ret
    have hv3 := Vals.own hown3
    obtain ⟨a3, cap3, rfl, _⟩ := hv3.parts
    exact ⟨_, _, _, rfl, hv3, fun y h => by subst h; exact (hown3.lt _ rfl).1, Below.trans ((Below.refl _ _).alloc (Nat.le_refl _) _) hb3⟩

def upV (c1 c2 : Int) (inn : Bool) (pv : Int) : List V :=
  let cv := if inn && c2 == 0 then min (wrap64 (c1 + 1)) 32767 else c1
  [⟨1, truthI (decide (pv ≤ cv)), 0⟩, ⟨2, cv, 0⟩, ⟨1, truthI inn, 0⟩]

set_option maxHeartbeats 1000000 in
theorem up_ok (x : Value) (c0 c1 c2 : V) (inn : Bool) (pv : Int) (w : World) (hx : Vals w x [c0, c1, c2]) (h0 : c0.kind = 1) (h1 : c1.kind = 2) (h2 : c2.kind = 1) :
    Calls Try.prog 14 #[x, .bool inn, .int .i64 pv] w (RetVals w (upV c1.i c2.i inn pv)) := by
  have HX := Lib.hid hx
  obtain ⟨a, cap, rfl, hm, hn, hc⟩ := hx.parts
  obtain ⟨b, off, rfl, hbl, hcell⟩ := hc (by simp)
  have q1 := (hcell 1 (by simp)).2.1
  have q2 := (hcell 2 (by simp)).2.1
  have e1 : [c0, c1, c2].map V.kind = [1, 2, 1] := by simp [h0, h1, h2]
  have HE := Lib.hid e1
  clear hx hc hcell h0 h1 h2 hn hm e1
  simp only [List.getD, List.getElem?_cons_succ, List.getElem?_cons_zero, Option.getD_some, List.length_cons, List.length_nil] at q1 q2 ⊢
  generalize c1.i = p1 at q1 ⊢
  generalize c2.i = p2 at q2 ⊢
  cases inn
  · go_enter Try.func14, Try.ntmps14
    go_wp2_with (first | (go_at_call 21; refine (chain (w0 := w) (may_ok _ _ _ [1, 2, 1] _ (HX.out.kept ((Below.refl w.heap.size _).alloc (Nat.le_refl _) _) (Nat.le_refl _)) (Ints.made w _ _ _ _ [1, 2, 1] rfl rfl (by decide) (by decide)) HE.out) (by repeat (first | assumption | exact Below.refl _ _ | apply Below_al | apply Below_dr | refine Below_st ?_ (by simp; omega) _))).mono ?_; rintro e w5 ⟨rfl, hb5⟩; have g1 := (hb5.cell (p := ⟨b, off + 1 * 3 + 1, none⟩) hbl).trans q1; have g2 := (hb5.cell (p := ⟨b, off + 2 * 3 + 1, none⟩) hbl).trans q2) | (go_at_call 22; refine (chain (w0 := w) (truth_any _ _) (by repeat (first | assumption | exact Below.refl _ _ | apply Below_al | apply Below_dr | refine Below_st ?_ (by simp; omega) _))).mono ?_; rintro e w6 ⟨rfl, hb6⟩))
    go_ret
    exact ⟨_, _, _, rfl, Vals.made _ _ _ 3 3 _ rfl rfl (by decide) (by decide), fun y h => by (cases h; exact hb6.size), (by repeat (first | assumption | exact Below.refl _ _ | apply Below_al | apply Below_dr | refine Below_st ?_ (by simp; omega) _))⟩
  · by_cases hp : p2 = 0
    · subst hp
      by_cases hc : 32767 < wrap64 (p1 + 1)
      · have HU : Hid (upV p1 0 true pv = [⟨1, truthI (decide (pv ≤ 32767)), 0⟩, ⟨2, 32767, 0⟩, ⟨1, truthI true, 0⟩]) := by
          have : min (wrap64 (p1 + 1)) 32767 = 32767 := by omega
          simp [Hid, upV, this]
        rw [HU.out]
        go_enter Try.func14, Try.ntmps14
        go_wp2_with (first | (go_at_call 21; refine (chain (w0 := w) (may_ok _ _ _ [1, 2, 1] _ (HX.out.kept ((Below.refl w.heap.size _).alloc (Nat.le_refl _) _) (Nat.le_refl _)) (Ints.made w _ _ _ _ [1, 2, 1] rfl rfl (by decide) (by decide)) HE.out) (by repeat (first | assumption | exact Below.refl _ _ | apply Below_al | apply Below_dr | refine Below_st ?_ (by simp; omega) _))).mono ?_; rintro e w5 ⟨rfl, hb5⟩; have g1 := (hb5.cell (p := ⟨b, off + 1 * 3 + 1, none⟩) hbl).trans q1; have g2 := (hb5.cell (p := ⟨b, off + 2 * 3 + 1, none⟩) hbl).trans q2) | (go_at_call 22; refine (chain (w0 := w) (truth_any _ _) (by repeat (first | assumption | exact Below.refl _ _ | apply Below_al | apply Below_dr | refine Below_st ?_ (by simp; omega) _))).mono ?_; rintro e w6 ⟨rfl, hb6⟩))
        go_ret
        exact ⟨_, _, _, rfl, Vals.made _ _ _ 3 3 _ rfl rfl (by decide) (by decide), fun y h => by (cases h; exact hb6.size), (by repeat (first | assumption | exact Below.refl _ _ | apply Below_al | apply Below_dr | refine Below_st ?_ (by simp; omega) _))⟩
      · have HU : Hid (upV p1 0 true pv = [⟨1, truthI (decide (pv ≤ wrap64 (p1 + 1))), 0⟩, ⟨2, wrap64 (p1 + 1), 0⟩, ⟨1, truthI true, 0⟩]) := by
          have : min (wrap64 (p1 + 1)) 32767 = wrap64 (p1 + 1) := by omega
          simp [Hid, upV, this]
        rw [HU.out]
        go_enter Try.func14, Try.ntmps14
        go_wp2_with (first | (go_at_call 21; refine (chain (w0 := w) (may_ok _ _ _ [1, 2, 1] _ (HX.out.kept ((Below.refl w.heap.size _).alloc (Nat.le_refl _) _) (Nat.le_refl _)) (Ints.made w _ _ _ _ [1, 2, 1] rfl rfl (by decide) (by decide)) HE.out) (by repeat (first | assumption | exact Below.refl _ _ | apply Below_al | apply Below_dr | refine Below_st ?_ (by simp; omega) _))).mono ?_; rintro e w5 ⟨rfl, hb5⟩; have g1 := (hb5.cell (p := ⟨b, off + 1 * 3 + 1, none⟩) hbl).trans q1; have g2 := (hb5.cell (p := ⟨b, off + 2 * 3 + 1, none⟩) hbl).trans q2) | (go_at_call 22; refine (chain (w0 := w) (truth_any _ _) (by repeat (first | assumption | exact Below.refl _ _ | apply Below_al | apply Below_dr | refine Below_st ?_ (by simp; omega) _))).mono ?_; rintro e w6 ⟨rfl, hb6⟩))
        go_ret
        exact ⟨_, _, _, rfl, Vals.made _ _ _ 3 3 _ rfl rfl (by decide) (by decide), fun y h => by (cases h; exact hb6.size), (by repeat (first | assumption | exact Below.refl _ _ | apply Below_al | apply Below_dr | refine Below_st ?_ (by simp; omega) _))⟩
    · have d1 : (p2 == 0) = false := by simpa using hp
      have HU : Hid (upV p1 p2 true pv = [⟨1, truthI (decide (pv ≤ p1)), 0⟩, ⟨2, p1, 0⟩, ⟨1, truthI true, 0⟩]) := by simp [Hid, upV, d1]
      rw [HU.out]
      go_enter Try.func14, Try.ntmps14
      go_wp2_with (first | (go_at_call 21; refine (chain (w0 := w) (may_ok _ _ _ [1, 2, 1] _ (HX.out.kept ((Below.refl w.heap.size _).alloc (Nat.le_refl _) _) (Nat.le_refl _)) (Ints.made w _ _ _ _ [1, 2, 1] rfl rfl (by decide) (by decide)) HE.out) (by repeat (first | assumption | exact Below.refl _ _ | apply Below_al | apply Below_dr | refine Below_st ?_ (by simp; omega) _))).mono ?_; rintro e w5 ⟨rfl, hb5⟩; have g1 := (hb5.cell (p := ⟨b, off + 1 * 3 + 1, none⟩) hbl).trans q1; have g2 := (hb5.cell (p := ⟨b, off + 2 * 3 + 1, none⟩) hbl).trans q2) | (go_at_call 22; refine (chain (w0 := w) (truth_any _ _) (by repeat (first | assumption | exact Below.refl _ _ | apply Below_al | apply Below_dr | refine Below_st ?_ (by simp; omega) _))).mono ?_; rintro e w6 ⟨rfl, hb6⟩))
      go_ret
      exact ⟨_, _, _, rfl, Vals.made _ _ _ 3 3 _ rfl rfl (by decide) (by decide), fun y h => by (cases h; exact hb6.size), (by repeat (first | assumption | exact Below.refl _ _ | apply Below_al | apply Below_dr | refine Below_st ?_ (by simp; omega) _))⟩

def downV (c1 c2 : Int) (inn : Bool) (pv : Int) : List V :=
  let cv := if inn && c2 == 0 then (if c1 ≤ 0 then pv else wrap64 (c1 - 1)) else c1
  [⟨1, truthI (decide (cv ≤ 0)), 0⟩, ⟨2, cv, 0⟩, ⟨1, truthI inn, 0⟩]

set_option maxHeartbeats 1000000 in
theorem down_ok (x : Value) (c0 c1 c2 : V) (inn : Bool) (pv : Int) (w : World) (hx : Vals w x [c0, c1, c2]) (h0 : c0.kind = 1) (h1 : c1.kind = 2) (h2 : c2.kind = 1) :
    Calls Try.prog 15 #[x, .bool inn, .int .i64 pv] w (RetVals w (downV c1.i c2.i inn pv)) := by
  have HX := Lib.hid hx
  obtain ⟨a, cap, rfl, hm, hn, hc⟩ := hx.parts
  obtain ⟨b, off, rfl, hbl, hcell⟩ := hc (by simp)
  have q1 := (hcell 1 (by simp)).2.1
  have q2 := (hcell 2 (by simp)).2.1
  have e1 : [c0, c1, c2].map V.kind = [1, 2, 1] := by simp [h0, h1, h2]
  have HE := Lib.hid e1
  clear hx hc hcell h0 h1 h2 hn hm e1
  simp only [List.getD, List.getElem?_cons_succ, List.getElem?_cons_zero, Option.getD_some, List.length_cons, List.length_nil] at q1 q2 ⊢
  generalize c1.i = p1 at q1 ⊢
  generalize c2.i = p2 at q2 ⊢
  cases inn
  · go_enter Try.func15, Try.ntmps15
    go_wp2_with (first | (go_at_call 21; refine (chain (w0 := w) (may_ok _ _ _ [1, 2, 1] _ (HX.out.kept ((Below.refl w.heap.size _).alloc (Nat.le_refl _) _) (Nat.le_refl _)) (Ints.made w _ _ _ _ [1, 2, 1] rfl rfl (by decide) (by decide)) HE.out) (by repeat (first | assumption | exact Below.refl _ _ | apply Below_al | apply Below_dr | refine Below_st ?_ (by simp; omega) _))).mono ?_; rintro e w5 ⟨rfl, hb5⟩; have g1 := (hb5.cell (p := ⟨b, off + 1 * 3 + 1, none⟩) hbl).trans q1; have g2 := (hb5.cell (p := ⟨b, off + 2 * 3 + 1, none⟩) hbl).trans q2) | (go_at_call 22; refine (chain (w0 := w) (truth_any _ _) (by repeat (first | assumption | exact Below.refl _ _ | apply Below_al | apply Below_dr | refine Below_st ?_ (by simp; omega) _))).mono ?_; rintro e w6 ⟨rfl, hb6⟩))
    go_ret
    exact ⟨_, _, _, rfl, Vals.made _ _ _ 3 3 _ rfl rfl (by decide) (by decide), fun y h => by (cases h; exact hb6.size), (by repeat (first | assumption | exact Below.refl _ _ | apply Below_al | apply Below_dr | refine Below_st ?_ (by simp; omega) _))⟩
  · by_cases hp : p2 = 0
    · subst hp
      by_cases hle : p1 ≤ 0
      · have HU : Hid (downV p1 0 true pv = [⟨1, truthI (decide (pv ≤ 0)), 0⟩, ⟨2, pv, 0⟩, ⟨1, truthI true, 0⟩]) := by simp [Hid, downV, hle]
        rw [HU.out]
        go_enter Try.func15, Try.ntmps15
        go_wp2_with (first | (go_at_call 21; refine (chain (w0 := w) (may_ok _ _ _ [1, 2, 1] _ (HX.out.kept ((Below.refl w.heap.size _).alloc (Nat.le_refl _) _) (Nat.le_refl _)) (Ints.made w _ _ _ _ [1, 2, 1] rfl rfl (by decide) (by decide)) HE.out) (by repeat (first | assumption | exact Below.refl _ _ | apply Below_al | apply Below_dr | refine Below_st ?_ (by simp; omega) _))).mono ?_; rintro e w5 ⟨rfl, hb5⟩; have g1 := (hb5.cell (p := ⟨b, off + 1 * 3 + 1, none⟩) hbl).trans q1; have g2 := (hb5.cell (p := ⟨b, off + 2 * 3 + 1, none⟩) hbl).trans q2) | (go_at_call 22; refine (chain (w0 := w) (truth_any _ _) (by repeat (first | assumption | exact Below.refl _ _ | apply Below_al | apply Below_dr | refine Below_st ?_ (by simp; omega) _))).mono ?_; rintro e w6 ⟨rfl, hb6⟩))
        go_ret
        exact ⟨_, _, _, rfl, Vals.made _ _ _ 3 3 _ rfl rfl (by decide) (by decide), fun y h => by (cases h; exact hb6.size), (by repeat (first | assumption | exact Below.refl _ _ | apply Below_al | apply Below_dr | refine Below_st ?_ (by simp; omega) _))⟩
      · have HU : Hid (downV p1 0 true pv = [⟨1, truthI (decide (wrap64 (p1 - 1) ≤ 0)), 0⟩, ⟨2, wrap64 (p1 - 1), 0⟩, ⟨1, truthI true, 0⟩]) := by simp [Hid, downV, hle]
        rw [HU.out]
        go_enter Try.func15, Try.ntmps15
        go_wp2_with (first | (go_at_call 21; refine (chain (w0 := w) (may_ok _ _ _ [1, 2, 1] _ (HX.out.kept ((Below.refl w.heap.size _).alloc (Nat.le_refl _) _) (Nat.le_refl _)) (Ints.made w _ _ _ _ [1, 2, 1] rfl rfl (by decide) (by decide)) HE.out) (by repeat (first | assumption | exact Below.refl _ _ | apply Below_al | apply Below_dr | refine Below_st ?_ (by simp; omega) _))).mono ?_; rintro e w5 ⟨rfl, hb5⟩; have g1 := (hb5.cell (p := ⟨b, off + 1 * 3 + 1, none⟩) hbl).trans q1; have g2 := (hb5.cell (p := ⟨b, off + 2 * 3 + 1, none⟩) hbl).trans q2) | (go_at_call 22; refine (chain (w0 := w) (truth_any _ _) (by repeat (first | assumption | exact Below.refl _ _ | apply Below_al | apply Below_dr | refine Below_st ?_ (by simp; omega) _))).mono ?_; rintro e w6 ⟨rfl, hb6⟩))
        go_ret
        exact ⟨_, _, _, rfl, Vals.made _ _ _ 3 3 _ rfl rfl (by decide) (by decide), fun y h => by (cases h; exact hb6.size), (by repeat (first | assumption | exact Below.refl _ _ | apply Below_al | apply Below_dr | refine Below_st ?_ (by simp; omega) _))⟩
    · have d1 : (p2 == 0) = false := by simpa using hp
      have HU : Hid (downV p1 p2 true pv = [⟨1, truthI (decide (p1 ≤ 0)), 0⟩, ⟨2, p1, 0⟩, ⟨1, truthI true, 0⟩]) := by simp [Hid, downV, d1]
      rw [HU.out]
      go_enter Try.func15, Try.ntmps15
      go_wp2_with (first | (go_at_call 21; refine (chain (w0 := w) (may_ok _ _ _ [1, 2, 1] _ (HX.out.kept ((Below.refl w.heap.size _).alloc (Nat.le_refl _) _) (Nat.le_refl _)) (Ints.made w _ _ _ _ [1, 2, 1] rfl rfl (by decide) (by decide)) HE.out) (by repeat (first | assumption | exact Below.refl _ _ | apply Below_al | apply Below_dr | refine Below_st ?_ (by simp; omega) _))).mono ?_; rintro e w5 ⟨rfl, hb5⟩; have g1 := (hb5.cell (p := ⟨b, off + 1 * 3 + 1, none⟩) hbl).trans q1; have g2 := (hb5.cell (p := ⟨b, off + 2 * 3 + 1, none⟩) hbl).trans q2) | (go_at_call 22; refine (chain (w0 := w) (truth_any _ _) (by repeat (first | assumption | exact Below.refl _ _ | apply Below_al | apply Below_dr | refine Below_st ?_ (by simp; omega) _))).mono ?_; rintro e w6 ⟨rfl, hb6⟩))
      go_ret
      exact ⟨_, _, _, rfl, Vals.made _ _ _ 3 3 _ rfl rfl (by decide) (by decide), fun y h => by (cases h; exact hb6.size), (by repeat (first | assumption | exact Below.refl _ _ | apply Below_al | apply Below_dr | refine Below_st ?_ (by simp; omega) _))⟩

def edgeV (c1 : Int) (inn rises : Bool) : List V := [⟨1, truthI (inn != (c1 != 0) && inn == rises), 0⟩, ⟨1, truthI inn, 0⟩]

set_option maxHeartbeats 1000000 in
theorem edge_ok (x : Value) (c0 c1 : V) (inn rises : Bool) (w : World) (hx : Vals w x [c0, c1]) (h0 : c0.kind = 1) (h1 : c1.kind = 1) :
    Calls Try.prog 16 #[x, .bool inn, .bool rises] w (RetVals w (edgeV c1.i inn rises)) := by
  have HX := Lib.hid hx
  obtain ⟨a, cap, rfl, hm, hn, hc⟩ := hx.parts
  obtain ⟨b, off, rfl, hbl, hcell⟩ := hc (by simp)
  have q1 := (hcell 1 (by simp)).2.1
  have e1 : [c0, c1].map V.kind = [1, 1] := by simp [h0, h1]
  have HE := Lib.hid e1
  clear hx hc hcell h0 h1 hn hm e1
  simp only [List.getD, List.getElem?_cons_succ, List.getElem?_cons_zero, Option.getD_some, List.length_cons, List.length_nil] at q1 ⊢
  generalize c1.i = p1 at q1 ⊢
  by_cases hp : p1 = 0
  · subst hp
    cases inn <;> cases rises
    · go_enter Try.func16, Try.ntmps16
      go_wp2_with (first | (go_at_call 21; refine (chain (w0 := w) (may_ok _ _ _ [1, 1] _ (HX.out.kept ((Below.refl w.heap.size _).alloc (Nat.le_refl _) _) (Nat.le_refl _)) (Ints.made w _ _ _ _ [1, 1] rfl rfl (by decide) (by decide)) HE.out) (by repeat (first | assumption | exact Below.refl _ _ | apply Below_al | apply Below_dr | refine Below_st ?_ (by simp; omega) _))).mono ?_; rintro e w5 ⟨rfl, hb5⟩; have g1 := (hb5.cell (p := ⟨b, off + 1 * 3 + 1, none⟩) hbl).trans q1) | (go_at_call 22; refine (chain (w0 := w) (truth_any _ _) (by repeat (first | assumption | exact Below.refl _ _ | apply Below_al | apply Below_dr | refine Below_st ?_ (by simp; omega) _))).mono ?_; rintro e w6 ⟨rfl, hb6⟩))
      go_ret
      exact ⟨_, _, _, rfl, Vals.made _ _ _ 2 2 _ rfl rfl (by decide) (by decide), fun y h => by (cases h; exact hb6.size), (by repeat (first | assumption | exact Below.refl _ _ | apply Below_al | apply Below_dr | refine Below_st ?_ (by simp; omega) _))⟩
    · go_enter Try.func16, Try.ntmps16
      go_wp2_with (first | (go_at_call 21; refine (chain (w0 := w) (may_ok _ _ _ [1, 1] _ (HX.out.kept ((Below.refl w.heap.size _).alloc (Nat.le_refl _) _) (Nat.le_refl _)) (Ints.made w _ _ _ _ [1, 1] rfl rfl (by decide) (by decide)) HE.out) (by repeat (first | assumption | exact Below.refl _ _ | apply Below_al | apply Below_dr | refine Below_st ?_ (by simp; omega) _))).mono ?_; rintro e w5 ⟨rfl, hb5⟩; have g1 := (hb5.cell (p := ⟨b, off + 1 * 3 + 1, none⟩) hbl).trans q1) | (go_at_call 22; refine (chain (w0 := w) (truth_any _ _) (by repeat (first | assumption | exact Below.refl _ _ | apply Below_al | apply Below_dr | refine Below_st ?_ (by simp; omega) _))).mono ?_; rintro e w6 ⟨rfl, hb6⟩))
      go_ret
      exact ⟨_, _, _, rfl, Vals.made _ _ _ 2 2 _ rfl rfl (by decide) (by decide), fun y h => by (cases h; exact hb6.size), (by repeat (first | assumption | exact Below.refl _ _ | apply Below_al | apply Below_dr | refine Below_st ?_ (by simp; omega) _))⟩
    · go_enter Try.func16, Try.ntmps16
      go_wp2_with (first | (go_at_call 21; refine (chain (w0 := w) (may_ok _ _ _ [1, 1] _ (HX.out.kept ((Below.refl w.heap.size _).alloc (Nat.le_refl _) _) (Nat.le_refl _)) (Ints.made w _ _ _ _ [1, 1] rfl rfl (by decide) (by decide)) HE.out) (by repeat (first | assumption | exact Below.refl _ _ | apply Below_al | apply Below_dr | refine Below_st ?_ (by simp; omega) _))).mono ?_; rintro e w5 ⟨rfl, hb5⟩; have g1 := (hb5.cell (p := ⟨b, off + 1 * 3 + 1, none⟩) hbl).trans q1) | (go_at_call 22; refine (chain (w0 := w) (truth_any _ _) (by repeat (first | assumption | exact Below.refl _ _ | apply Below_al | apply Below_dr | refine Below_st ?_ (by simp; omega) _))).mono ?_; rintro e w6 ⟨rfl, hb6⟩))
      go_ret
      exact ⟨_, _, _, rfl, Vals.made _ _ _ 2 2 _ rfl rfl (by decide) (by decide), fun y h => by (cases h; exact hb6.size), (by repeat (first | assumption | exact Below.refl _ _ | apply Below_al | apply Below_dr | refine Below_st ?_ (by simp; omega) _))⟩
    · go_enter Try.func16, Try.ntmps16
      go_wp2_with (first | (go_at_call 21; refine (chain (w0 := w) (may_ok _ _ _ [1, 1] _ (HX.out.kept ((Below.refl w.heap.size _).alloc (Nat.le_refl _) _) (Nat.le_refl _)) (Ints.made w _ _ _ _ [1, 1] rfl rfl (by decide) (by decide)) HE.out) (by repeat (first | assumption | exact Below.refl _ _ | apply Below_al | apply Below_dr | refine Below_st ?_ (by simp; omega) _))).mono ?_; rintro e w5 ⟨rfl, hb5⟩; have g1 := (hb5.cell (p := ⟨b, off + 1 * 3 + 1, none⟩) hbl).trans q1) | (go_at_call 22; refine (chain (w0 := w) (truth_any _ _) (by repeat (first | assumption | exact Below.refl _ _ | apply Below_al | apply Below_dr | refine Below_st ?_ (by simp; omega) _))).mono ?_; rintro e w6 ⟨rfl, hb6⟩))
      go_ret
      exact ⟨_, _, _, rfl, Vals.made _ _ _ 2 2 _ rfl rfl (by decide) (by decide), fun y h => by (cases h; exact hb6.size), (by repeat (first | assumption | exact Below.refl _ _ | apply Below_al | apply Below_dr | refine Below_st ?_ (by simp; omega) _))⟩
  · have d1 : (p1 != 0) = true := by simpa using hp
    cases inn <;> cases rises
    · have HU : Hid (edgeV p1 false false = [⟨1, truthI ((false != true) && false == false), 0⟩, ⟨1, truthI false, 0⟩]) := by simp [Hid, edgeV, d1]
      rw [HU.out]
      go_enter Try.func16, Try.ntmps16
      go_wp2_with (first | (go_at_call 21; refine (chain (w0 := w) (may_ok _ _ _ [1, 1] _ (HX.out.kept ((Below.refl w.heap.size _).alloc (Nat.le_refl _) _) (Nat.le_refl _)) (Ints.made w _ _ _ _ [1, 1] rfl rfl (by decide) (by decide)) HE.out) (by repeat (first | assumption | exact Below.refl _ _ | apply Below_al | apply Below_dr | refine Below_st ?_ (by simp; omega) _))).mono ?_; rintro e w5 ⟨rfl, hb5⟩; have g1 := (hb5.cell (p := ⟨b, off + 1 * 3 + 1, none⟩) hbl).trans q1) | (go_at_call 22; refine (chain (w0 := w) (truth_any _ _) (by repeat (first | assumption | exact Below.refl _ _ | apply Below_al | apply Below_dr | refine Below_st ?_ (by simp; omega) _))).mono ?_; rintro e w6 ⟨rfl, hb6⟩))
      go_ret
      exact ⟨_, _, _, rfl, Vals.made _ _ _ 2 2 _ rfl rfl (by decide) (by decide), fun y h => by (cases h; exact hb6.size), (by repeat (first | assumption | exact Below.refl _ _ | apply Below_al | apply Below_dr | refine Below_st ?_ (by simp; omega) _))⟩
    · have HU : Hid (edgeV p1 false true = [⟨1, truthI ((false != true) && false == true), 0⟩, ⟨1, truthI false, 0⟩]) := by simp [Hid, edgeV, d1]
      rw [HU.out]
      go_enter Try.func16, Try.ntmps16
      go_wp2_with (first | (go_at_call 21; refine (chain (w0 := w) (may_ok _ _ _ [1, 1] _ (HX.out.kept ((Below.refl w.heap.size _).alloc (Nat.le_refl _) _) (Nat.le_refl _)) (Ints.made w _ _ _ _ [1, 1] rfl rfl (by decide) (by decide)) HE.out) (by repeat (first | assumption | exact Below.refl _ _ | apply Below_al | apply Below_dr | refine Below_st ?_ (by simp; omega) _))).mono ?_; rintro e w5 ⟨rfl, hb5⟩; have g1 := (hb5.cell (p := ⟨b, off + 1 * 3 + 1, none⟩) hbl).trans q1) | (go_at_call 22; refine (chain (w0 := w) (truth_any _ _) (by repeat (first | assumption | exact Below.refl _ _ | apply Below_al | apply Below_dr | refine Below_st ?_ (by simp; omega) _))).mono ?_; rintro e w6 ⟨rfl, hb6⟩))
      go_ret
      exact ⟨_, _, _, rfl, Vals.made _ _ _ 2 2 _ rfl rfl (by decide) (by decide), fun y h => by (cases h; exact hb6.size), (by repeat (first | assumption | exact Below.refl _ _ | apply Below_al | apply Below_dr | refine Below_st ?_ (by simp; omega) _))⟩
    · have HU : Hid (edgeV p1 true false = [⟨1, truthI ((true != true) && true == false), 0⟩, ⟨1, truthI true, 0⟩]) := by simp [Hid, edgeV, d1]
      rw [HU.out]
      go_enter Try.func16, Try.ntmps16
      go_wp2_with (first | (go_at_call 21; refine (chain (w0 := w) (may_ok _ _ _ [1, 1] _ (HX.out.kept ((Below.refl w.heap.size _).alloc (Nat.le_refl _) _) (Nat.le_refl _)) (Ints.made w _ _ _ _ [1, 1] rfl rfl (by decide) (by decide)) HE.out) (by repeat (first | assumption | exact Below.refl _ _ | apply Below_al | apply Below_dr | refine Below_st ?_ (by simp; omega) _))).mono ?_; rintro e w5 ⟨rfl, hb5⟩; have g1 := (hb5.cell (p := ⟨b, off + 1 * 3 + 1, none⟩) hbl).trans q1) | (go_at_call 22; refine (chain (w0 := w) (truth_any _ _) (by repeat (first | assumption | exact Below.refl _ _ | apply Below_al | apply Below_dr | refine Below_st ?_ (by simp; omega) _))).mono ?_; rintro e w6 ⟨rfl, hb6⟩))
      go_ret
      exact ⟨_, _, _, rfl, Vals.made _ _ _ 2 2 _ rfl rfl (by decide) (by decide), fun y h => by (cases h; exact hb6.size), (by repeat (first | assumption | exact Below.refl _ _ | apply Below_al | apply Below_dr | refine Below_st ?_ (by simp; omega) _))⟩
    · have HU : Hid (edgeV p1 true true = [⟨1, truthI ((true != true) && true == true), 0⟩, ⟨1, truthI true, 0⟩]) := by simp [Hid, edgeV, d1]
      rw [HU.out]
      go_enter Try.func16, Try.ntmps16
      go_wp2_with (first | (go_at_call 21; refine (chain (w0 := w) (may_ok _ _ _ [1, 1] _ (HX.out.kept ((Below.refl w.heap.size _).alloc (Nat.le_refl _) _) (Nat.le_refl _)) (Ints.made w _ _ _ _ [1, 1] rfl rfl (by decide) (by decide)) HE.out) (by repeat (first | assumption | exact Below.refl _ _ | apply Below_al | apply Below_dr | refine Below_st ?_ (by simp; omega) _))).mono ?_; rintro e w5 ⟨rfl, hb5⟩; have g1 := (hb5.cell (p := ⟨b, off + 1 * 3 + 1, none⟩) hbl).trans q1) | (go_at_call 22; refine (chain (w0 := w) (truth_any _ _) (by repeat (first | assumption | exact Below.refl _ _ | apply Below_al | apply Below_dr | refine Below_st ?_ (by simp; omega) _))).mono ?_; rintro e w6 ⟨rfl, hb6⟩))
      go_ret
      exact ⟨_, _, _, rfl, Vals.made _ _ _ 2 2 _ rfl rfl (by decide) (by decide), fun y h => by (cases h; exact hb6.size), (by repeat (first | assumption | exact Below.refl _ _ | apply Below_al | apply Below_dr | refine Below_st ?_ (by simp; omega) _))⟩
end Go.Proofs.Ytcdbodpmcnebiaa
