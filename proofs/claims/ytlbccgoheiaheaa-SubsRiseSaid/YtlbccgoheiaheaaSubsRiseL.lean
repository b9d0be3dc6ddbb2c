/-
  SubsRise: what holds ahead of each deed, and that it holds behind it. Plain arithmetic, no condition.
-/
import Derived.Test.YtlbccgoheiaheaaSubsRiseV
import Derived.Test.YtlbccgoheiaheaaInT
set_option linter.unusedVariables false
set_option linter.unusedSimpArgs false
namespace Go.Proofs.Ytlbccgoheiaheaa.Ev
open Go Go.Proofs Go.RowKit

def Far (b x y : Int) : Prop := b < y - x ∨ b < x - y
structure IB (n : Nat) (E band m : Int) (p : RP) : Prop where
  i0 : 0 ≤ p.i
  iN : p.i ≤ n
  row : p.i0 + p.len ≤ p.nn
  nn : p.nn ≤ 100
  lm : (p.len : Int) ≤ m
  now0 : 0 ≤ p.now
  now1 : p.now ≤ 40 * p.i
  due0 : 0 ≤ p.due
  due1 : p.due ≤ p.now + E
  seq0 : 0 ≤ p.seq
  seq1 : p.seq ≤ p.S - p.len
  S1 : p.S ≤ p.i
  emp : p.len = 0 → p.S = p.seq
  el : ∀ j : Nat, j < p.len → p.qs (p.i0 + j) = p.S - p.len + 1 + j ∧ p.qk (p.i0 + j) = 2 ∧ (-19 ≤ p.qi (p.i0 + j) ∧ p.qi (p.i0 + j) ≤ 19) ∧ p.ql (p.i0 + j) = (decide (j = 0) && decide (p.S - p.len ≠ p.seq))
  far : ∀ j : Nat, j + 1 < p.len → Far band (p.qi (p.i0 + j)) (p.qi (p.i0 + (j + 1)))
  last : -19 ≤ p.last ∧ p.last ≤ 19
  first : 0 < p.len → p.S - p.len = p.seq → 0 < p.seq → Far band p.last (p.qi p.i0)
structure IT (n : Nat) (E band m : Int) (p : RP) : Prop extends IB n E band m p where
  pos : 0 < p.S
  li : -19 ≤ p.li ∧ p.li ≤ 19
  li1 : 0 < p.len → p.li = p.qi (p.i0 + (p.len - 1))
  li2 : p.len = 0 → p.li = p.last
structure IF (n : Nat) (E band m : Int) (p : RP) : Prop extends IB n E band m p where
  s : p.S = 0
  l : p.len = 0
  q : p.seq = 0
theorem blt_t {a b : Nat} (h : a < b) : Nat.blt a b = true := by simpa using h
theorem blt_f {a b : Nat} (h : ¬ a < b) : Nat.blt a b = false := by
  cases hq : Nat.blt a b with
  | true => exact absurd (by simpa using hq) h
  | false => rfl
theorem beq_f {a b : Nat} (h : a ≠ b) : Nat.beq a b = false := by
  cases hq : Nat.beq a b with
  | true => exact absurd (Nat.eq_of_beq_eq_true hq) h
  | false => rfl
section
variable {n : Nat} {E band m : Int} {p : RP}
def cp (p : RP) (nw D : Int) : RP := ⟨p.i + 1, 0, p.len, p.len, p.c, nw, p.last, p.seq, p.lost, D, p.li, p.S, fun i => p.qs (p.i0 + i), fun i => p.qk (p.i0 + i), fun i => p.qi (p.i0 + i), fun i => p.qf (p.i0 + i), fun i => p.ql (p.i0 + i)⟩
theorem IB.copy (h : IB n E band m p) (hm : m ≤ 8) (hi : p.i < n) {nw D : Int} (h1 : p.now ≤ nw ∧ nw ≤ p.now + 40) (h2 : 0 ≤ D ∧ D ≤ nw + E) : IB n E band m (cp p nw D) where
  i0 := by have := h.i0; show 0 ≤ p.i + 1; omega
  iN := by show p.i + 1 ≤ n; omega
  row := by show 0 + p.len ≤ p.len; omega
  nn := by have := h.lm; show p.len ≤ 100; omega
  lm := h.lm
  now0 := by have := h.now0; show 0 ≤ nw; omega
  now1 := by have := h.now1; show nw ≤ 40 * (p.i + 1); omega
  due0 := h2.1
  due1 := h2.2
  seq0 := h.seq0
  seq1 := h.seq1
  S1 := by have := h.S1; show p.S ≤ p.i + 1; omega
  emp := h.emp
  el j hj := by
    have := h.el j hj
    simp only [cp, Nat.zero_add]
    exact this
  far j hj := by
    have := h.far j hj
    simp only [cp, Nat.zero_add]
    exact this
  last := h.last
  first := h.first
theorem IT.copy (h : IT n E band m p) (hm : m ≤ 8) (hi : p.i < n) {nw D : Int} (h1 : p.now ≤ nw ∧ nw ≤ p.now + 40) (h2 : 0 ≤ D ∧ D ≤ nw + E) : IT n E band m (cp p nw D) where
  toIB := h.toIB.copy hm hi h1 h2
  pos := h.pos
  li := h.li
  li1 hl := by
    have := h.li1 hl
    simp only [cp, Nat.zero_add]
    exact this
  li2 := h.li2
theorem IF.copy (h : IF n E band m p) (hm : m ≤ 8) (hi : p.i < n) {nw D : Int} (h1 : p.now ≤ nw ∧ nw ≤ p.now + 40) (h2 : 0 ≤ D ∧ D ≤ nw + E) : IF n E band m (cp p nw D) where
  toIB := h.toIB.copy hm hi h1 h2
  s := h.s
  l := h.l
  q := h.q
def ap (p : RP) (nw D v : Int) : RP := ⟨p.i + 1, 0, p.len + 1, p.len + 1, p.c, nw, p.last, p.seq, p.lost, D, v, p.S + 1, fun i => bif Nat.blt i p.len then p.qs (p.i0 + (0 + i)) else p.S + 1, fun i => bif Nat.blt i p.len then p.qk (p.i0 + (0 + i)) else 2, fun i => bif Nat.blt i p.len then p.qi (p.i0 + (0 + i)) else v, fun i => bif Nat.blt i p.len then p.qf (p.i0 + (0 + i)) else 0, fun i => bif Nat.blt i p.len then p.ql (p.i0 + (0 + i)) else false⟩
theorem IB.app (h : IB n E band m p) (hm : m ≤ 8) (hi : p.i < n) {nw D v : Int} (h1 : p.now ≤ nw ∧ nw ≤ p.now + 40) (h2 : 0 ≤ D ∧ D ≤ nw + E) (hv : -19 ≤ v ∧ v ≤ 19) (hl : (p.len : Int) + 1 ≤ m)
    (hf : 0 < p.len → Far band (p.qi (p.i0 + (p.len - 1))) v) (hf0 : p.len = 0 → 0 < p.seq → Far band p.last v) (hb : 0 ≤ band) : IB n E band m (ap p nw D v) where
  i0 := by have := h.i0; show 0 ≤ p.i + 1; omega
  iN := by show p.i + 1 ≤ n; omega
  row := by show 0 + (p.len + 1) ≤ p.len + 1; omega
  nn := by have := h.lm; show p.len + 1 ≤ 100; omega
  lm := by show ((p.len + 1 : Nat) : Int) ≤ m; omega
  now0 := by have := h.now0; show 0 ≤ nw; omega
  now1 := by have := h.now1; show nw ≤ 40 * (p.i + 1); omega
  due0 := h2.1
  due1 := h2.2
  seq0 := h.seq0
  seq1 := by have := h.seq1; show p.seq ≤ p.S + 1 - ((p.len + 1 : Nat) : Int); omega
  S1 := by have := h.S1; show p.S + 1 ≤ p.i + 1; omega
  emp hl := by cases hl
  el j hj := by
    have hj : j < p.len + 1 := hj
    show (bif Nat.blt (0 + j) p.len then p.qs (p.i0 + (0 + (0 + j))) else p.S + 1) = p.S + 1 - ((p.len + 1 : Nat) : Int) + 1 + j ∧ (bif Nat.blt (0 + j) p.len then p.qk (p.i0 + (0 + (0 + j))) else 2) = 2 ∧
      (-19 ≤ (bif Nat.blt (0 + j) p.len then p.qi (p.i0 + (0 + (0 + j))) else v) ∧ (bif Nat.blt (0 + j) p.len then p.qi (p.i0 + (0 + (0 + j))) else v) ≤ 19) ∧
      (bif Nat.blt (0 + j) p.len then p.ql (p.i0 + (0 + (0 + j))) else false) = (decide (j = 0) && decide (p.S + 1 - ((p.len + 1 : Nat) : Int) ≠ p.seq))
    simp only [Nat.zero_add]
    have e : p.S + 1 - ((p.len + 1 : Nat) : Int) = p.S - p.len := by omega
    rw [e]
    by_cases hjl : j < p.len
    · obtain ⟨a1, a2, a3, a4⟩ := h.el j hjl
      rw [blt_t hjl]
      simp only [cond_true]
      exact ⟨a1, a2, a3, a4⟩
    · rw [blt_f hjl]
      simp only [cond_false]
      have hjj : j = p.len := by omega
      refine ⟨by omega, trivial, hv, ?_⟩
      by_cases h0 : j = 0
      · have := h.emp (by omega)
        have : decide (p.S - p.len ≠ p.seq) = false := by simp; omega
        rw [this, Bool.and_false]
      · rw [decide_eq_false h0, Bool.false_and]
  far j hj := by
    have hj : j + 1 < p.len + 1 := hj
    show Far band (bif Nat.blt (0 + j) p.len then p.qi (p.i0 + (0 + (0 + j))) else v) (bif Nat.blt (0 + (j + 1)) p.len then p.qi (p.i0 + (0 + (0 + (j + 1)))) else v)
    simp only [Nat.zero_add]
    rw [blt_t (by omega)]
    by_cases hjl : j + 1 < p.len
    · rw [blt_t hjl]; exact h.far j hjl
    · rw [blt_f hjl]
      have := hf (by omega)
      simp only [cond_true, cond_false]
      have hjj : p.len - 1 = j := by omega
      rw [hjj] at this
      exact this
  last := h.last
  first hl h3 h4 := by
    show Far band p.last (bif Nat.blt 0 p.len then p.qi (p.i0 + (0 + 0)) else v)
    have h3 : p.S + 1 - ((p.len + 1 : Nat) : Int) = p.seq := h3
    by_cases h0 : 0 < p.len
    · rw [blt_t h0]; exact h.first h0 (by omega) h4
    · rw [blt_f h0]; exact hf0 (by omega) h4
theorem IT.app (h : IT n E band m p) (hm : m ≤ 8) (hi : p.i < n) {nw D v : Int} (h1 : p.now ≤ nw ∧ nw ≤ p.now + 40) (h2 : 0 ≤ D ∧ D ≤ nw + E) (hv : -19 ≤ v ∧ v ≤ 19) (hl : (p.len : Int) + 1 ≤ m)
    (hf : Far band p.li v) (hb : 0 ≤ band) : IT n E band m (ap p nw D v) where
  toIB := h.toIB.app hm hi h1 h2 hv hl (fun hp => by rw [← h.li1 hp]; exact hf) (fun hp _ => by rw [← h.li2 hp]; exact hf) hb
  pos := by have := h.pos; show 0 < p.S + 1; omega
  li := hv
  li1 _ := by
    show v = (bif Nat.blt (0 + (p.len + 1 - 1)) p.len then p.qi (p.i0 + (0 + (0 + (p.len + 1 - 1)))) else v)
    rw [blt_f (by omega)]; rfl
  li2 hl := by cases hl
theorem IF.app (h : IF n E band m p) (hm : m ≤ 8) (hm1 : 1 ≤ m) (hi : p.i < n) {nw D v : Int} (h1 : p.now ≤ nw ∧ nw ≤ p.now + 40) (h2 : 0 ≤ D ∧ D ≤ nw + E) (hv : -19 ≤ v ∧ v ≤ 19) (hb : 0 ≤ band) : IT n E band m (ap p nw D v) where
  toIB := h.toIB.app hm hi h1 h2 hv (by have := h.l; omega) (fun hp => by have := h.l; omega) (fun _ hq => by have := h.q; omega) hb
  pos := by have := h.s; show 0 < p.S + 1; omega
  li := hv
  li1 _ := by
    show v = (bif Nat.blt (0 + (p.len + 1 - 1)) p.len then p.qi (p.i0 + (0 + (0 + (p.len + 1 - 1)))) else v)
    rw [blt_f (by omega)]; rfl
  li2 hl := by cases hl
def dr (p : RP) (nw D v : Int) : RP := ⟨p.i + 1, 1, p.len + 1, p.len + 1 - 1, 0, nw, p.last, p.seq, p.lost, D, v, p.S + 1,
  fun i => bif Nat.beq i 1 then bif Nat.blt 1 p.len then p.qs (p.i0 + 1) else p.S + 1 else bif Nat.blt i p.len then p.qs (p.i0 + (0 + i)) else p.S + 1,
  fun i => bif Nat.beq i 1 then bif Nat.blt 1 p.len then p.qk (p.i0 + 1) else 2 else bif Nat.blt i p.len then p.qk (p.i0 + (0 + i)) else 2,
  fun i => bif Nat.beq i 1 then bif Nat.blt 1 p.len then p.qi (p.i0 + 1) else v else bif Nat.blt i p.len then p.qi (p.i0 + (0 + i)) else v,
  fun i => bif Nat.beq i 1 then bif Nat.blt 1 p.len then p.qf (p.i0 + 1) else 0 else bif Nat.blt i p.len then p.qf (p.i0 + (0 + i)) else 0,
  fun i => bif Nat.beq i 1 then true else bif Nat.blt i p.len then p.ql (p.i0 + (0 + i)) else false⟩
theorem dr_at {α : Type} (f : Nat → α) (i0 len j : Nat) (z : α) (h : j < len) : (bif Nat.beq (1 + j) 1 then bif Nat.blt 1 len then f (i0 + 1) else z else bif Nat.blt (1 + j) len then f (i0 + (0 + (1 + j))) else z) = if 1 + j < len then f (i0 + (1 + j)) else z := by
  by_cases hj : j = 0
  · subst hj
    have : Nat.beq (1 + 0) 1 = true := rfl
    rw [this]
    by_cases h1 : 1 < len
    · rw [blt_t h1, if_pos h1]; rfl
    · rw [blt_f h1, if_neg h1]; rfl
  · rw [beq_f (by omega)]
    simp only [cond_false, Nat.zero_add]
    by_cases h1 : 1 + j < len
    · rw [blt_t h1, if_pos h1]; rfl
    · rw [blt_f h1, if_neg h1]; rfl
theorem IT.drop (h : IT n E band m p) (hm : m ≤ 8) (hi : p.i < n) {nw D v : Int} (h1 : p.now ≤ nw ∧ nw ≤ p.now + 40) (h2 : 0 ≤ D ∧ D ≤ nw + E) (hv : -19 ≤ v ∧ v ≤ 19) (hl : 0 < p.len)
    (hf : Far band p.li v) : IT n E band m (dr p nw D v) where
  i0 := by have := h.i0; show 0 ≤ p.i + 1; omega
  iN := by show p.i + 1 ≤ n; omega
  row := by show 1 + (p.len + 1 - 1) ≤ p.len + 1; omega
  nn := by have := h.lm; show p.len + 1 ≤ 100; omega
  lm := h.lm
  now0 := by have := h.now0; show 0 ≤ nw; omega
  now1 := by have := h.now1; show nw ≤ 40 * (p.i + 1); omega
  due0 := h2.1
  due1 := h2.2
  seq0 := h.seq0
  seq1 := by have := h.seq1; show p.seq ≤ p.S + 1 - (p.len : Int); omega
  S1 := by have := h.S1; show p.S + 1 ≤ p.i + 1; omega
  emp hl2 := by have : p.len = 0 := hl2; omega
  el j hj := by
    have hj : j < p.len := hj
    have hs := h.seq1
    have hd : decide ((dr p nw D v).S - ((dr p nw D v).len : Int) ≠ (dr p nw D v).seq) = true := decide_eq_true (by show p.S + 1 - ((p.len + 1 - 1 : Nat) : Int) ≠ p.seq; omega)
    rw [hd, Bool.and_true]
    simp only [dr]
    rw [dr_at p.qs p.i0 p.len j _ hj, dr_at p.qk p.i0 p.len j _ hj, dr_at p.qi p.i0 p.len j _ hj]
    have hql : (bif Nat.beq (1 + j) 1 then true else bif Nat.blt (1 + j) p.len then p.ql (p.i0 + (0 + (1 + j))) else false) = decide (j = 0) := by
      by_cases h0 : j = 0
      · subst h0; rfl
      · rw [beq_f (by omega), decide_eq_false h0]
        simp only [cond_false, Nat.zero_add]
        by_cases h3 : 1 + j < p.len
        · rw [blt_t h3]
          have := (h.el (1 + j) h3).2.2.2
          simp only [cond_true]
          rw [this, decide_eq_false (by omega : ¬ 1 + j = 0), Bool.false_and]
        · rw [blt_f h3]; rfl
    rw [hql]
    by_cases h3 : 1 + j < p.len
    · rw [if_pos h3, if_pos h3, if_pos h3]
      obtain ⟨a1, a2, a3, _⟩ := h.el (1 + j) h3
      exact ⟨by rw [a1]; omega, a2, a3, rfl⟩
    · rw [if_neg h3, if_neg h3, if_neg h3]
      exact ⟨by omega, rfl, hv, rfl⟩
  far j hj := by
    have hj : j + 1 < p.len := hj
    simp only [dr]
    rw [dr_at p.qi p.i0 p.len j _ (by omega), show 1 + (j + 1) = 1 + (j + 1) from rfl, dr_at p.qi p.i0 p.len (j + 1) _ hj]
    rw [if_pos (by omega : 1 + j < p.len)]
    by_cases h3 : 1 + (j + 1) < p.len
    · rw [if_pos h3]
      have := h.far (1 + j) (by omega)
      rw [show 1 + (j + 1) = 1 + j + 1 by omega]
      exact this
    · rw [if_neg h3]
      have e := h.li1 hl
      rw [show p.len - 1 = 1 + j by omega] at e
      rw [← e]; exact hf
  last := h.last
  first _ h3 _ := by
    have h3 : p.S + 1 - ((p.len + 1 - 1 : Nat) : Int) = p.seq := h3
    have hs := h.seq1
    omega
  pos := by have := h.pos; show 0 < p.S + 1; omega
  li := hv
  li1 _ := by
    simp only [dr]
    rw [dr_at p.qi p.i0 p.len (p.len + 1 - 1 - 1) _ (by omega), if_neg (by omega)]
  li2 hl2 := by have : p.len = 0 := hl2; omega
/-- the first one is taken -/
def tk (p : RP) (nw : Int) (c : Nat) (lost : Bool) : RP := ⟨p.i + 1, 1, p.len, p.len - 1, c, nw, p.qi (p.i0 + 0), p.qs (p.i0 + 0), lost, p.due, p.li, p.S, fun i => p.qs (p.i0 + i), fun i => p.qk (p.i0 + i), fun i => p.qi (p.i0 + i), fun i => p.qf (p.i0 + i), fun i => p.ql (p.i0 + i)⟩
theorem IT.take (h : IT n E band m p) (hm : m ≤ 8) (hi : p.i < n) {nw : Int} {c : Nat} {lost : Bool} (h1 : p.now ≤ nw ∧ nw ≤ p.now + 40) (hl : 0 < p.len) : IT n E band m (tk p nw c lost) := by
  obtain ⟨a1, a2, a3, a4⟩ := h.el 0 hl
  have hS := h.seq1
  have hS0 := h.seq0
  exact {
  i0 := by have := h.i0; show 0 ≤ p.i + 1; omega
  iN := by show p.i + 1 ≤ n; omega
  row := by show 1 + (p.len - 1) ≤ p.len; omega
  nn := by have := h.lm; show p.len ≤ 100; omega
  lm := by have := h.lm; show ((p.len - 1 : Nat) : Int) ≤ m; omega
  now0 := by have := h.now0; show 0 ≤ nw; omega
  now1 := by have := h.now1; show nw ≤ 40 * (p.i + 1); omega
  due0 := h.due0
  due1 := by have := h.due1; show p.due ≤ nw + E; omega
  seq0 := by show 0 ≤ p.qs (p.i0 + 0); rw [a1]; omega
  seq1 := by show p.qs (p.i0 + 0) ≤ p.S - ((p.len - 1 : Nat) : Int); rw [a1]; omega
  S1 := by have := h.S1; show p.S ≤ p.i + 1; omega
  emp := fun hl2 => by have : p.len - 1 = 0 := hl2; show p.S = p.qs (p.i0 + 0); rw [a1]; omega
  el := fun j hj => by
    have hj : j < p.len - 1 := hj
    obtain ⟨b1, b2, b3, b4⟩ := h.el (1 + j) (by omega)
    show p.qs (p.i0 + (1 + j)) = p.S - ((p.len - 1 : Nat) : Int) + 1 + j ∧ p.qk (p.i0 + (1 + j)) = 2 ∧ (-19 ≤ p.qi (p.i0 + (1 + j)) ∧ p.qi (p.i0 + (1 + j)) ≤ 19) ∧ p.ql (p.i0 + (1 + j)) = (decide (j = 0) && decide (p.S - ((p.len - 1 : Nat) : Int) ≠ p.qs (p.i0 + 0)))
    refine ⟨by rw [b1]; omega, b2, b3, ?_⟩
    have : decide (p.S - ((p.len - 1 : Nat) : Int) ≠ p.qs (p.i0 + 0)) = false := by rw [a1]; simp; omega
    rw [this, Bool.and_false, b4, decide_eq_false (by omega : ¬ 1 + j = 0), Bool.false_and]
  far := fun j hj => by
    have hj : j + 1 < p.len - 1 := hj
    have := h.far (1 + j) (by omega)
    show Far band (p.qi (p.i0 + (1 + j))) (p.qi (p.i0 + (1 + (j + 1))))
    rw [show 1 + (j + 1) = 1 + j + 1 by omega]
    exact this
  last := a3
  first := fun hl2 _ _ => by
    have hl2 : 0 < p.len - 1 := hl2
    have := h.far 0 (by omega)
    exact this
  pos := h.pos
  li := h.li
  li1 := fun hl2 => by
    have hl2 : 0 < p.len - 1 := hl2
    have := h.li1 hl
    show p.li = p.qi (p.i0 + (1 + (p.len - 1 - 1)))
    rw [this]; congr 2; omega
  li2 := fun hl2 => by
    have hl2 : p.len - 1 = 0 := hl2
    have := h.li1 hl
    show p.li = p.qi (p.i0 + 0)
    rw [this, hl2] }
end
end Go.Proofs.Ytlbccgoheiaheaa.Ev
