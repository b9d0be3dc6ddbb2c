/-
  VeriHolds: what has to hold holds.
-/
import Derived.Test.YtbkbimmelmoohaaVrLV
set_option linter.unusedVariables false
set_option linter.unusedSimpArgs false
set_option maxRecDepth 100000
namespace Go.Proofs.Ytbkbimmelmoohaa.Ev
open Go Go.Proofs Go.RowKit
theorem row_isG {α : Type} [Enc α] {R : List α} {n es : Nat} {g : Nat → Nat → Td} (k : Rk) (hes : es = Enc.es α) (hn : n = R.length) (hg : ∀ i, i < n → (Enc.dec (g i) : α) = R.getD i Enc.dflt ∧ Enc.ok α (g i) = okA α (R.getD i Enc.dflt)) (hok : R.all (okA α) = true) (hl : n ≤ 1000000) : rowL α n (some (.row k es 0 n g)) = R ∧ ∀ c, c ≤ 1 → rowB α n c (some (.row k es 0 n g)) = true := by
 have e1 : (decL n g : List α) = R := by
  rw [← decL_encL R, ← hn]
  unfold decL
  exact List.map_congr_left fun i hi => by
   rw [(hg i (List.mem_range.1 hi)).1]
   exact (Enc.back _).symm
 refine ⟨e1, fun c hc => ?_⟩
 subst hes
 simp only [rowB, Bool.and_eq_true]
 refine ⟨⟨⟨⟨⟨Nat.beq_refl _, rfl⟩, Nat.ble_eq_true_of_le (Nat.le_refl _)⟩, okL_of fun i hi => ?_⟩, Nat.ble_eq_true_of_le hc⟩, Nat.ble_eq_true_of_le hl⟩
 rw [(hg i hi).2]
 rw [List.all_eq_true] at hok
 have : R.getD i Enc.dflt ∈ R := by
  have hi : i < R.length := by omega
  simp [List.getD, hi]
 exact hok _ this
def hlt : In := ⟨23, 0, 0, 0, ⟨0, 0, 0⟩⟩
def tsH : List Td := [.sc (.int .i64 23), .sc (.int .i64 0), .sc (.int .i64 0), .sc (.int .i64 0), .sc (.int .i64 0), .sc (.int .i64 0), .sc (.float .f64 0)]
theorem tsH_nth (j : Nat) (hj : j < Enc.es In) : nthT tsH j = Enc.enc hlt j := by
 have hj : j < 7 := hj
 match j, hj with
 | 0, _ | 1, _ | 2, _ | 3, _ | 4, _ | 5, _ | 6, _ => rfl
theorem row_hlt {l : List In} (k : Rk) (hok : l.all (okA In) = true) (hl : l.length + 1 ≤ 1000000) : rowL In (l.length + 1) (some (.row k 7 0 (l.length + 1) fun j i => mrgT (Nat.blt j l.length) (encL l j i) (selT 7 1 tsH (j - l.length) i))) = l ++ [hlt] ∧ ∀ c, c ≤ 1 → rowB In (l.length + 1) c (some (.row k 7 0 (l.length + 1) fun j i => mrgT (Nat.blt j l.length) (encL l j i) (selT 7 1 tsH (j - l.length) i))) = true := by
 refine row_isG (R := l ++ [hlt]) k rfl (by rw [List.length_append]; rfl) (fun i hi => app_dec (e2 := 7) tsH_nth i hi) ?_ hl
 rw [List.all_append, hok]; rfl
theorem mayP_op {x : In} (h : mayP x) : x.op = 1 ∨ x.op = 2 ∨ x.op = 3 ∨ x.op = 4 ∨ x.op = 5 ∨ x.op = 6 ∨ x.op = 7 ∨ x.op = 8 ∨ x.op = 9 ∨ x.op = 10 ∨ x.op = 11 ∨ x.op = 12 ∨ x.op = 13 ∨ x.op = 14 ∨ x.op = 15 ∨ x.op = 16 ∨ x.op = 17 ∨ x.op = 18 ∨ x.op = 19 ∨ x.op = 20 ∨ x.op = 21 ∨ x.op = 22 ∨ x.op = 23 := by
 unfold mayP at h
 omega
set_option maxHeartbeats 4000000 in
theorem vh_round {l : List In} {W : List Bool} {cw : Nat} {L : List In} {β : Bs} (hL : OkV L) (hf : (vrF L).fu = false) (hb : ∀ x ∈ L, beyB L.length 12 x = false) (k : Nat) (hk : k ≤ 100) (hW : W.length ≤ 100) (w : Wy) (hR : Rch L w) (Nx : Kt) (ex : Nat → Kt → Prop)
  (hret : Nx .ret (FVr1 true) (SVr1 l W))
  (hnx : ∀ w', Rch L w' → k < 100 → Nx .normal (FVh L W cw w'.p w'.h ((k + 1 : Nat) : Int)) (SVh l W L))
  (hex : k = 100 → Nx (.exit 0) (FVh L W cw w.p w.h 100) (SVh l W L)) :
  roundJ Try.prog toldB6 100 20 β (fun _ => 0) (cnOf 2 fun _ => slVh) ex 4 0 2 lvVh (FVh L W cw w.p w.h (k : Nat)) (SVh l W L) Nx := by
 rw [vc_vh_r]
 by_cases hk1 : k < 100
 ·have c0 : decide ((k : Int) < 100) = true := decide_eq_true (by omega)
  obtain ⟨hB, hg⟩ := rch_good hL hf hR
  obtain ⟨b1, b2, b3, b4⟩ := hB
  have hx := InB.x hL (w := w) ⟨b1, b2, b3, b4⟩
  have c1 : decide (w.p < 0) = false := decide_eq_false (by omega)
  have c2 : decide (w.p ≥ Int.ofNat L.length) = false := decide_eq_false (by simp only [Int.ofNat_eq_natCast]; omega)
  have c3 : decide ((0 : Int) ≤ w.p) = true := decide_eq_true b1
  have c4 : Nat.blt w.p.toNat L.length = true := by simp; omega
  have c5 : ∀ a, Nat.ble 0 a = true := fun a => by simp
  have c6 : IntKind.wrap .i64 ((k : Int) + 1) = ((k + 1 : Nat) : Int) := w64 (by omega) (by omega)
  have c7 : decide ((0 : Int) ≤ (k : Int)) = true := decide_eq_true (by omega)
  have c8 : Int.toNat (k : Int) = k := Int.toNat_natCast k
  have hm := hL.may _ hx
  have hbx := hb _ hx
  have hop := mayP_op hm
  have hnx' : ∀ w', w' ∈ sucW L w → Nx .normal (FVh L W cw w'.p w'.h ((k + 1 : Nat) : Int)) (SVh l W L) := fun w' hw' => hnx w' (.step hR hw') hk1
  unfold gdW at hg
  unfold sucW at hnx'
  simp only [c0, c1, c2, c3, c4, c5, c6, Nat.zero_add, Bool.and_self, br_t, br_f, need_t]
  generalize L.getD w.p.toNat Enc.dflt = x at hm hbx hop hnx' hg ⊢
  obtain ⟨op, kd, a, n, v⟩ := x
  obtain ⟨g1, g2⟩ := hg
  simp only at hop
  have fin : ∀ {tk lv : Int}, tkI ⟨op, kd, a, n, v⟩ = tk → lvI ⟨op, kd, a, n, v⟩ = lv → decide (w.h < tk) = false ∧ decide (IntKind.wrap .i64 (IntKind.wrap .i64 (w.h - tk) + lv) > 16) = false ∧ nhW ⟨op, kd, a, n, v⟩ w.h = IntKind.wrap .i64 (IntKind.wrap .i64 (w.h - tk) + lv) := fun {tk lv} h1 h2 => by
   have e : nhW ⟨op, kd, a, n, v⟩ w.h = IntKind.wrap .i64 (IntKind.wrap .i64 (w.h - tk) + lv) := by unfold nhW; rw [h1, h2]
   refine ⟨decide_eq_false (by rw [← h1]; omega), decide_eq_false (by rw [← e]; omega), e⟩
  rcases hop with rfl | rfl | rfl | rfl | rfl | rfl | rfl | rfl | rfl | rfl | rfl | rfl | rfl | rfl | rfl | rfl | rfl | rfl | rfl | rfl | rfl | rfl | rfl
  ·obtain ⟨f1, f2, f3⟩ := fin (tk := 0) (lv := 1) rfl rfl
   simp only [Int.reduceBEq, br_t, br_f, f1, f2]
   have hs : sucI ⟨1, kd, a, n, v⟩ w.p (IntKind.wrap .i64 (IntKind.wrap .i64 (w.h - 0) + 1)) = [⟨IntKind.wrap .i64 (w.p + 1), IntKind.wrap .i64 (IntKind.wrap .i64 (w.h - 0) + 1)⟩] := rfl
   rw [f3, hs] at hnx'
   exact hnx' ⟨IntKind.wrap .i64 (w.p + 1), IntKind.wrap .i64 (IntKind.wrap .i64 (w.h - 0) + 1)⟩ (List.Mem.head _)
  ·obtain ⟨f1, f2, f3⟩ := fin (tk := 0) (lv := 1) rfl rfl
   simp only [Int.reduceBEq, br_t, br_f, f1, f2]
   have hs : sucI ⟨2, kd, a, n, v⟩ w.p (IntKind.wrap .i64 (IntKind.wrap .i64 (w.h - 0) + 1)) = [⟨IntKind.wrap .i64 (w.p + 1), IntKind.wrap .i64 (IntKind.wrap .i64 (w.h - 0) + 1)⟩] := rfl
   rw [f3, hs] at hnx'
   have hb3 : decide (a ≥ 12) = false := hbx
   simp only [hb3, br_f]
   exact hnx' ⟨IntKind.wrap .i64 (w.p + 1), IntKind.wrap .i64 (IntKind.wrap .i64 (w.h - 0) + 1)⟩ (List.Mem.head _)
  ·obtain ⟨f1, f2, f3⟩ := fin (tk := 1) (lv := 1) rfl rfl
   simp only [Int.reduceBEq, br_t, br_f, f1, f2]
   have hs : sucI ⟨3, kd, a, n, v⟩ w.p (IntKind.wrap .i64 (IntKind.wrap .i64 (w.h - 1) + 1)) = [⟨IntKind.wrap .i64 (w.p + 1), IntKind.wrap .i64 (IntKind.wrap .i64 (w.h - 1) + 1)⟩] := rfl
   rw [f3, hs] at hnx'
   exact hnx' ⟨IntKind.wrap .i64 (w.p + 1), IntKind.wrap .i64 (IntKind.wrap .i64 (w.h - 1) + 1)⟩ (List.Mem.head _)
  ·obtain ⟨f1, f2, f3⟩ := fin (tk := 2) (lv := 1) rfl rfl
   simp only [Int.reduceBEq, br_t, br_f, f1, f2]
   have hs : sucI ⟨4, kd, a, n, v⟩ w.p (IntKind.wrap .i64 (IntKind.wrap .i64 (w.h - 2) + 1)) = [⟨IntKind.wrap .i64 (w.p + 1), IntKind.wrap .i64 (IntKind.wrap .i64 (w.h - 2) + 1)⟩] := rfl
   rw [f3, hs] at hnx'
   exact hnx' ⟨IntKind.wrap .i64 (w.p + 1), IntKind.wrap .i64 (IntKind.wrap .i64 (w.h - 2) + 1)⟩ (List.Mem.head _)
  ·obtain ⟨f1, f2, f3⟩ := fin (tk := 2) (lv := 1) rfl rfl
   simp only [Int.reduceBEq, br_t, br_f, f1, f2]
   have hs : sucI ⟨5, kd, a, n, v⟩ w.p (IntKind.wrap .i64 (IntKind.wrap .i64 (w.h - 2) + 1)) = [⟨IntKind.wrap .i64 (w.p + 1), IntKind.wrap .i64 (IntKind.wrap .i64 (w.h - 2) + 1)⟩] := rfl
   rw [f3, hs] at hnx'
   exact hnx' ⟨IntKind.wrap .i64 (w.p + 1), IntKind.wrap .i64 (IntKind.wrap .i64 (w.h - 2) + 1)⟩ (List.Mem.head _)
  ·obtain ⟨f1, f2, f3⟩ := fin (tk := 2) (lv := 1) rfl rfl
   simp only [Int.reduceBEq, br_t, br_f, f1, f2]
   have hs : sucI ⟨6, kd, a, n, v⟩ w.p (IntKind.wrap .i64 (IntKind.wrap .i64 (w.h - 2) + 1)) = [⟨IntKind.wrap .i64 (w.p + 1), IntKind.wrap .i64 (IntKind.wrap .i64 (w.h - 2) + 1)⟩] := rfl
   rw [f3, hs] at hnx'
   exact hnx' ⟨IntKind.wrap .i64 (w.p + 1), IntKind.wrap .i64 (IntKind.wrap .i64 (w.h - 2) + 1)⟩ (List.Mem.head _)
  ·obtain ⟨f1, f2, f3⟩ := fin (tk := 2) (lv := 1) rfl rfl
   simp only [Int.reduceBEq, br_t, br_f, f1, f2]
   have hs : sucI ⟨7, kd, a, n, v⟩ w.p (IntKind.wrap .i64 (IntKind.wrap .i64 (w.h - 2) + 1)) = [⟨IntKind.wrap .i64 (w.p + 1), IntKind.wrap .i64 (IntKind.wrap .i64 (w.h - 2) + 1)⟩] := rfl
   rw [f3, hs] at hnx'
   exact hnx' ⟨IntKind.wrap .i64 (w.p + 1), IntKind.wrap .i64 (IntKind.wrap .i64 (w.h - 2) + 1)⟩ (List.Mem.head _)
  ·obtain ⟨f1, f2, f3⟩ := fin (tk := 2) (lv := 1) rfl rfl
   simp only [Int.reduceBEq, br_t, br_f, f1, f2]
   have hs : sucI ⟨8, kd, a, n, v⟩ w.p (IntKind.wrap .i64 (IntKind.wrap .i64 (w.h - 2) + 1)) = [⟨IntKind.wrap .i64 (w.p + 1), IntKind.wrap .i64 (IntKind.wrap .i64 (w.h - 2) + 1)⟩] := rfl
   rw [f3, hs] at hnx'
   exact hnx' ⟨IntKind.wrap .i64 (w.p + 1), IntKind.wrap .i64 (IntKind.wrap .i64 (w.h - 2) + 1)⟩ (List.Mem.head _)
  ·obtain ⟨f1, f2, f3⟩ := fin (tk := 2) (lv := 1) rfl rfl
   simp only [Int.reduceBEq, br_t, br_f, f1, f2]
   have hs : sucI ⟨9, kd, a, n, v⟩ w.p (IntKind.wrap .i64 (IntKind.wrap .i64 (w.h - 2) + 1)) = [⟨IntKind.wrap .i64 (w.p + 1), IntKind.wrap .i64 (IntKind.wrap .i64 (w.h - 2) + 1)⟩] := rfl
   rw [f3, hs] at hnx'
   exact hnx' ⟨IntKind.wrap .i64 (w.p + 1), IntKind.wrap .i64 (IntKind.wrap .i64 (w.h - 2) + 1)⟩ (List.Mem.head _)
  ·obtain ⟨f1, f2, f3⟩ := fin (tk := 2) (lv := 1) rfl rfl
   simp only [Int.reduceBEq, br_t, br_f, f1, f2]
   have hs : sucI ⟨10, kd, a, n, v⟩ w.p (IntKind.wrap .i64 (IntKind.wrap .i64 (w.h - 2) + 1)) = [⟨IntKind.wrap .i64 (w.p + 1), IntKind.wrap .i64 (IntKind.wrap .i64 (w.h - 2) + 1)⟩] := rfl
   rw [f3, hs] at hnx'
   exact hnx' ⟨IntKind.wrap .i64 (w.p + 1), IntKind.wrap .i64 (IntKind.wrap .i64 (w.h - 2) + 1)⟩ (List.Mem.head _)
  ·obtain ⟨f1, f2, f3⟩ := fin (tk := 2) (lv := 1) rfl rfl
   simp only [Int.reduceBEq, br_t, br_f, f1, f2]
   have hs : sucI ⟨11, kd, a, n, v⟩ w.p (IntKind.wrap .i64 (IntKind.wrap .i64 (w.h - 2) + 1)) = [⟨IntKind.wrap .i64 (w.p + 1), IntKind.wrap .i64 (IntKind.wrap .i64 (w.h - 2) + 1)⟩] := rfl
   rw [f3, hs] at hnx'
   exact hnx' ⟨IntKind.wrap .i64 (w.p + 1), IntKind.wrap .i64 (IntKind.wrap .i64 (w.h - 2) + 1)⟩ (List.Mem.head _)
  ·obtain ⟨f1, f2, f3⟩ := fin (tk := 2) (lv := 1) rfl rfl
   simp only [Int.reduceBEq, br_t, br_f, f1, f2]
   have hs : sucI ⟨12, kd, a, n, v⟩ w.p (IntKind.wrap .i64 (IntKind.wrap .i64 (w.h - 2) + 1)) = [⟨IntKind.wrap .i64 (w.p + 1), IntKind.wrap .i64 (IntKind.wrap .i64 (w.h - 2) + 1)⟩] := rfl
   rw [f3, hs] at hnx'
   exact hnx' ⟨IntKind.wrap .i64 (w.p + 1), IntKind.wrap .i64 (IntKind.wrap .i64 (w.h - 2) + 1)⟩ (List.Mem.head _)
  ·obtain ⟨f1, f2, f3⟩ := fin (tk := 2) (lv := 1) rfl rfl
   simp only [Int.reduceBEq, br_t, br_f, f1, f2]
   have hs : sucI ⟨13, kd, a, n, v⟩ w.p (IntKind.wrap .i64 (IntKind.wrap .i64 (w.h - 2) + 1)) = [⟨IntKind.wrap .i64 (w.p + 1), IntKind.wrap .i64 (IntKind.wrap .i64 (w.h - 2) + 1)⟩] := rfl
   rw [f3, hs] at hnx'
   exact hnx' ⟨IntKind.wrap .i64 (w.p + 1), IntKind.wrap .i64 (IntKind.wrap .i64 (w.h - 2) + 1)⟩ (List.Mem.head _)
  ·obtain ⟨f1, f2, f3⟩ := fin (tk := 2) (lv := 1) rfl rfl
   simp only [Int.reduceBEq, br_t, br_f, f1, f2]
   have hs : sucI ⟨14, kd, a, n, v⟩ w.p (IntKind.wrap .i64 (IntKind.wrap .i64 (w.h - 2) + 1)) = [⟨IntKind.wrap .i64 (w.p + 1), IntKind.wrap .i64 (IntKind.wrap .i64 (w.h - 2) + 1)⟩] := rfl
   rw [f3, hs] at hnx'
   exact hnx' ⟨IntKind.wrap .i64 (w.p + 1), IntKind.wrap .i64 (IntKind.wrap .i64 (w.h - 2) + 1)⟩ (List.Mem.head _)
  ·obtain ⟨f1, f2, f3⟩ := fin (tk := 1) (lv := 1) rfl rfl
   simp only [Int.reduceBEq, br_t, br_f, f1, f2]
   have hs : sucI ⟨15, kd, a, n, v⟩ w.p (IntKind.wrap .i64 (IntKind.wrap .i64 (w.h - 1) + 1)) = [⟨IntKind.wrap .i64 (w.p + 1), IntKind.wrap .i64 (IntKind.wrap .i64 (w.h - 1) + 1)⟩] := rfl
   rw [f3, hs] at hnx'
   exact hnx' ⟨IntKind.wrap .i64 (w.p + 1), IntKind.wrap .i64 (IntKind.wrap .i64 (w.h - 1) + 1)⟩ (List.Mem.head _)
  ·obtain ⟨f1, f2, f3⟩ := fin (tk := 1) (lv := 1) rfl rfl
   simp only [Int.reduceBEq, br_t, br_f, f1, f2]
   have hs : sucI ⟨16, kd, a, n, v⟩ w.p (IntKind.wrap .i64 (IntKind.wrap .i64 (w.h - 1) + 1)) = [⟨IntKind.wrap .i64 (w.p + 1), IntKind.wrap .i64 (IntKind.wrap .i64 (w.h - 1) + 1)⟩] := rfl
   rw [f3, hs] at hnx'
   exact hnx' ⟨IntKind.wrap .i64 (w.p + 1), IntKind.wrap .i64 (IntKind.wrap .i64 (w.h - 1) + 1)⟩ (List.Mem.head _)
  ·obtain ⟨f1, f2, f3⟩ := fin (tk := 1) (lv := 1) rfl rfl
   simp only [Int.reduceBEq, br_t, br_f, f1, f2]
   have hs : sucI ⟨17, kd, a, n, v⟩ w.p (IntKind.wrap .i64 (IntKind.wrap .i64 (w.h - 1) + 1)) = [⟨IntKind.wrap .i64 (w.p + 1), IntKind.wrap .i64 (IntKind.wrap .i64 (w.h - 1) + 1)⟩] := rfl
   rw [f3, hs] at hnx'
   exact hnx' ⟨IntKind.wrap .i64 (w.p + 1), IntKind.wrap .i64 (IntKind.wrap .i64 (w.h - 1) + 1)⟩ (List.Mem.head _)
  ·obtain ⟨f1, f2, f3⟩ := fin (tk := 1) (lv := 0) rfl rfl
   simp only [Int.reduceBEq, br_t, br_f, f1, f2]
   have hs : sucI ⟨18, kd, a, n, v⟩ w.p (IntKind.wrap .i64 (IntKind.wrap .i64 (w.h - 1) + 0)) = [⟨IntKind.wrap .i64 (w.p + 1), IntKind.wrap .i64 (IntKind.wrap .i64 (w.h - 1) + 0)⟩] := rfl
   rw [f3, hs] at hnx'
   have hb3 : decide (a ≥ 12) = false := hbx
   simp only [hb3, br_f]
   exact hnx' ⟨IntKind.wrap .i64 (w.p + 1), IntKind.wrap .i64 (IntKind.wrap .i64 (w.h - 1) + 0)⟩ (List.Mem.head _)
  ·obtain ⟨f1, f2, f3⟩ := fin (tk := 2) (lv := 0) rfl rfl
   simp only [Int.reduceBEq, br_t, br_f, f1, f2]
   have hs : sucI ⟨19, kd, a, n, v⟩ w.p (IntKind.wrap .i64 (IntKind.wrap .i64 (w.h - 2) + 0)) = [⟨IntKind.wrap .i64 (w.p + 1), IntKind.wrap .i64 (IntKind.wrap .i64 (w.h - 2) + 0)⟩] := rfl
   rw [f3, hs] at hnx'
   exact hnx' ⟨IntKind.wrap .i64 (w.p + 1), IntKind.wrap .i64 (IntKind.wrap .i64 (w.h - 2) + 0)⟩ (List.Mem.head _)
  ·obtain ⟨f1, f2, f3⟩ := fin (tk := 0) (lv := 0) rfl rfl
   simp only [Int.reduceBEq, br_t, br_f, f1, f2]
   have hs : sucI ⟨20, kd, a, n, v⟩ w.p (IntKind.wrap .i64 (IntKind.wrap .i64 (w.h - 0) + 0)) = [⟨a, IntKind.wrap .i64 (IntKind.wrap .i64 (w.h - 0) + 0)⟩] := rfl
   rw [f3, hs] at hnx'
   exact hnx' ⟨a, IntKind.wrap .i64 (IntKind.wrap .i64 (w.h - 0) + 0)⟩ (List.Mem.head _)
  ·obtain ⟨f1, f2, f3⟩ := fin (tk := 1) (lv := 0) rfl rfl
   simp only [Int.reduceBEq, br_t, br_f, f1, f2]
   have hs : sucI ⟨21, kd, a, n, v⟩ w.p (IntKind.wrap .i64 (IntKind.wrap .i64 (w.h - 1) + 0)) = [⟨a, IntKind.wrap .i64 (IntKind.wrap .i64 (w.h - 1) + 0)⟩, ⟨IntKind.wrap .i64 (w.p + 1), IntKind.wrap .i64 (IntKind.wrap .i64 (w.h - 1) + 0)⟩] := rfl
   rw [f3, hs] at hnx'
   refine br_of (fun q => ?_) (fun q => hnx' ⟨IntKind.wrap .i64 (w.p + 1), IntKind.wrap .i64 (IntKind.wrap .i64 (w.h - 1) + 0)⟩ (List.Mem.tail _ (List.Mem.head _)))
   have hkW : k < W.length := by simpa using q
   have e1 : Nat.blt k W.length = true := by simpa using hkW
   simp only [c7, c8, e1, c5, Bool.and_self, need_t]
   exact br_of (fun _ => hnx' ⟨a, IntKind.wrap .i64 (IntKind.wrap .i64 (w.h - 1) + 0)⟩ (List.Mem.head _)) (fun _ => hnx' ⟨IntKind.wrap .i64 (w.p + 1), IntKind.wrap .i64 (IntKind.wrap .i64 (w.h - 1) + 0)⟩ (List.Mem.tail _ (List.Mem.head _)))
  ·obtain ⟨f1, f2, f3⟩ := fin (tk := n) (lv := 0) rfl rfl
   simp only [Int.reduceBEq, br_t, br_f, f1, f2]
   have hs : sucI ⟨22, kd, a, n, v⟩ w.p (IntKind.wrap .i64 (IntKind.wrap .i64 (w.h - n) + 0)) = [⟨IntKind.wrap .i64 (w.p + 1), IntKind.wrap .i64 (IntKind.wrap .i64 (w.h - n) + 0)⟩] := rfl
   rw [f3, hs] at hnx'
   exact hnx' ⟨IntKind.wrap .i64 (w.p + 1), IntKind.wrap .i64 (IntKind.wrap .i64 (w.h - n) + 0)⟩ (List.Mem.head _)
  ·obtain ⟨f1, f2, f3⟩ := fin (tk := 0) (lv := 0) rfl rfl
   simp only [Int.reduceBEq, br_t, br_f, f1, f2]
   exact hret
 ·have c0 : decide ((k : Int) < 100) = false := decide_eq_false (by omega)
  have e : k = 100 := by omega
  subst e
  simp only [c0, br_f]
  exact hex rfl
theorem any_no {α : Type} {p : α → Bool} {l : List α} (h : l.any p = false) : ∀ x ∈ l, p x = false := fun x hx => by
 rw [List.any_eq_false] at h
 have := h x hx
 simpa using this
theorem vh_law {l : List In} {W : List Bool} {c cw : Nat} (hc : c ≤ 1) (hok : l.all (okA In) = true) (w : World) (args' : Array Value) (ha : PW (TR w (There w)) [tdL l c, tdL W cw] args'.toList) :
  Calls Try.prog 4 args' w fun e w' => e = .returned (.bool true) ∧ Below w.heap.size w w' := by
 refine law_top (C := toldB6) (fuel := 100) (n := 20) (un := fun _ => 0) (lvs := fun _ => slVh) (ex := exVh l W cw (l ++ [hlt])) follows toldB6_ok (fun β hβ => ?_) w args' ha
 show lawE _ _ _ _ _ _ (cnOf 2 fun _ => slVh) _ _ [.slice (some ⟨0, 0, some 0⟩) l.length c, .slice (some ⟨1, 0, some 0⟩) W.length cw] (mkS [some (rowO .still l), some (rowO .still W)]) trueE
 rw [vc_vh]
 refine br_of (fun _ => trivial) (fun q1 => br_of (fun _ => trivial) (fun q2 => ?_))
 have hl : l.length ≤ 20 := by simp at q1; omega
 have hW : W.length ≤ 100 := by simp at q2; omega
 obtain ⟨r1, r2⟩ := row_hlt .mine hok (by omega)
 have r3 := r2 0 (Nat.zero_le _)
 have hlen : (l ++ [hlt]).length = l.length + 1 := by rw [List.length_append]; rfl
 have ble : ∀ {a b : Nat}, a ≤ b → Nat.ble a b = true := fun h => Nat.ble_eq_true_of_le h
 have g1 := ble (show l.length ≤ 1000000 by omega)
 have g2 := ble (show l.length + 1 ≤ 1000000 by omega)
 have g3 : ∀ a : Nat, Nat.ble a a = true := fun a => ble (Nat.le_refl a)
 have g4 : ∀ a : Nat, Nat.ble 0 a = true := fun a => ble (Nat.zero_le _)
 have g5 : ∀ a : Nat, Nat.beq a a = true := fun a => Nat.beq_refl a
 have w1 : IntKind.wrap .i64 (Int.ofNat (l.length + 1) - 1) = ((l.length : Nat) : Int) := by
  rw [Int.ofNat_eq_natCast, w64 (by omega) (by omega)]; omega
 have t1 : Int.toNat (l.length : Int) = l.length := Int.toNat_natCast _
 have d1 : decide ((0 : Int) ≤ (l.length : Int)) = true := decide_eq_true (by omega)
 have d2 : Nat.blt l.length (l.length + 1) = true := by simp
 have d3 : Nat.blt l.length l.length = false := blt_false (Nat.lt_irrefl _)
 have d4 : decide (Int.ofNat (l.length + 1) > 400) = false := decide_eq_false (by simp only [Int.ofNat_eq_natCast]; omega)
 have d5 : ((23 : Int) != 23) = false := rfl
 have d6 : (Int.ofNat (l.length + 1) == 0) = false := beq_eq_false_iff_ne.2 (by simp only [Int.ofNat_eq_natCast]; omega)
 unfold tsH at r1 r3
 simp only [Nat.zero_add, Nat.sub_zero, Bool.true_and, Bool.and_true, g1, g2, g3, g4, g5, w1, t1, d1, d2, d3, d4, d5, d6, cond_false, Bool.and_self, need_t, br_f, r1, r3, ixQ_any]
 refine br_of (fun _ => trivial) (fun q4 => br_of (fun _ => trivial) (fun q5 => ?_))
 have m4 := any_no q4
 have m5 := any_no q5
 have hL : OkV (l ++ [hlt]) := by
  refine ⟨by omega, by omega, fun x hx => ?_, fun x hx ho => ?_, ?_⟩
  ·have h1 : (!mayB x) = false := m4 x hx
   rw [Bool.not_eq_false'] at h1
   exact of_decide_eq_true h1
  ·have h1 := m5 x hx
   have h2 : beyB (l.length + 1) 12 x = decide (x.a ≥ Int.ofNat (l.length + 1)) := by
    unfold beyB
    rcases ho with h | h <;> rw [h] <;> rfl
   rw [h2] at h1
   have h3 := of_decide_eq_false h1
   rw [hlen]
   simp only [Int.ofNat_eq_natCast] at h3
   omega
  ·rw [hlen, Nat.add_sub_cancel, getD_app_ge _ _ _ (Nat.le_refl _), Nat.sub_self]; rfl
 rw [okV_iff.2 hL, need_t]
 refine br_of (fun _ => trivial) (fun q6 => br_of (fun _ => trivial) (fun q7 => ⟨?_, fun _ _ => trivial, trivial⟩))
 refine LoopJ.seen ?_ (loop_rule (fun s : Nat × Wy => s.1 ≤ 100 ∧ Rch (l ++ [hlt]) s.2) (fun s : Nat × Wy => FVh (l ++ [hlt]) W cw s.2.p s.2.h s.1) (fun _ => SVh l W (l ++ [hlt])) (fun s => 100 - s.1) (fun s hs K hK => ?_) (0, ⟨0, 0⟩) ⟨Nat.zero_le _, .base⟩)
 ·show Seen β _ _ (FVh (l ++ [hlt]) W cw 0 0 0) _
  unfold FVh
  rw [hlen]
  refine Seen.objs rfl fun q o2 h => ?_
  match q, h with
  | 0, h => cases h; exact ⟨_, rfl, rfl, fun _ _ _ h => h⟩
  | 1, h => cases h; exact ⟨_, rfl, rfl, fun _ _ _ h => h⟩
  | 2, h =>
   cases h
   exact ⟨_, rfl, rfl, fun ρ s w h => row_app (α := In) (es := 7) (n := l.length) (g := fun i j => encL l i j) (a := hlt) (ts := tsH) rfl rfl (fun i j => rfl) tsH_nth (by simp only [Nat.zero_add]; exact h)⟩
 ·obtain ⟨k, v⟩ := s
  obtain ⟨hk, hR⟩ := hs
  have hk : k ≤ 100 := hk
  obtain ⟨hK1, hK2⟩ := hK
  refine roundJ_ok (E := 2) (lvs := fun _ => slVh) (un := fun _ => 0) (fuel := 100) (n := 20) (ex := fun _ _ => False) follows toldB6_ok hβ (lv := lvVh) ?_
  refine vh_round hL q6 (fun x hx => ?_) k hk hW v hR _ _ (Nn.ret (Seen.refl _ _ _) hK2) (fun w' hw' hk1 => ?_) (fun e => ?_)
  ·rw [hlen]; exact m5 x hx
  ·exact Nn.next (I := fun s : Nat × Wy => s.1 ≤ 100 ∧ Rch (l ++ [hlt]) s.2) (m := fun s : Nat × Wy => 100 - s.1) (F := fun s : Nat × Wy => FVh (l ++ [hlt]) W cw s.2.p s.2.h s.1) (S := fun _ => SVh l W (l ++ [hlt])) (p := (k, v)) (k + 1, w') ⟨hk1, hw'⟩ (by show 100 - (k + 1) < 100 - k; omega) (Seen.refl _ _ _)
  ·exact Nn.exit (Seen.refl _ _ _) (hK1 v.p v.h)
end Go.Proofs.Ytbkbimmelmoohaa.Ev
