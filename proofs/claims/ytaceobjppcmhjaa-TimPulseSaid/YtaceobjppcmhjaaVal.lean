/-
  Values of the program (api.Val) and slices of them, as lists. No function of the program is spoken of.
-/
import Derived.Test.YtaceobjppcmhjaaBase
namespace Go.Proofs.Ytaceobjppcmhjaa
open Go.RowKit

@[go_sem] theorem run_store_float {P : Program} (w : World) (a : Addr) (m : Mode) (k : FloatKind) (n : Nat) : (store a (.float k n) m).run P w = stored P w a (.float k n) m := run_store P w a _ m rfl

/-- an api.Val -/
structure V where
  kind : Int
  i : Int
  f : Nat
def V.cells (v : V) : List Value := [.int .i64 v.kind, .int .i64 v.i, .float .f64 v.f]
def vcells (l : List V) : List Value := l.flatMap V.cells
def V0 : V := ⟨0, 0, 0⟩
/-- x is a slice of api.Val that reads l in w. -/
def Vals (w : World) (x : Value) (l : List V) : Prop := Reads w 3 x l.length (vcells l)

theorem vcells_len (l : List V) : (vcells l).length = l.length * 3 := by
  induction l with
  | nil => rfl
  | cons a l ih => simp only [vcells, List.flatMap_cons, List.length_append] at ih ⊢; simp [V.cells] at ih ⊢; omega
theorem vcells_append (a b : List V) : vcells (a ++ b) = vcells a ++ vcells b := by simp [vcells]
theorem vcells_get (l : List V) (i : Nat) (h : i < l.length) : (vcells l)[i * 3]? = some (.int .i64 (l.getD i V0).kind) ∧ (vcells l)[i * 3 + 1]? = some (.int .i64 (l.getD i V0).i) ∧ (vcells l)[i * 3 + 2]? = some (.float .f64 (l.getD i V0).f) := by
  induction l generalizing i with
  | nil => simp at h
  | cons a l ih =>
    have e : vcells (a :: l) = .int .i64 a.kind :: .int .i64 a.i :: .float .f64 a.f :: vcells l := rfl
    rw [e]
    cases i with
    | zero => exact ⟨rfl, rfl, rfl⟩
    | succ i =>
      have := ih i (by simpa using h)
      rw [show (i + 1) * 3 = i * 3 + 1 + 1 + 1 by omega]
      simpa using this
theorem vcells_one (l : List V) : ∀ u ∈ vcells l, u.oneCell' = true := by
  intro u hu
  simp only [vcells, List.mem_flatMap, V.cells] at hu
  obtain ⟨v, _, hv⟩ := hu
  simp at hv
  rcases hv with rfl | rfl | rfl <;> rfl

theorem Vals.parts {w : World} {x : Value} {l : List V} (h : Vals w x l) : ∃ a cap, x = .slice a l.length cap ∧ l.length ≤ maxLen ∧ (a = none → cap = 0) ∧
    (l ≠ [] → ∃ b off, a = some ⟨b, off, none⟩ ∧ b < w.heap.size ∧ ∀ i, i < l.length → w.cell? ⟨b, off + i * 3, none⟩ = some (.int .i64 (l.getD i V0).kind) ∧ w.cell? ⟨b, off + i * 3 + 1, none⟩ = some (.int .i64 (l.getD i V0).i) ∧ w.cell? ⟨b, off + i * 3 + 2, none⟩ = some (.float .f64 (l.getD i V0).f)) := by
  obtain ⟨a, cap, rfl, hl, hc, hm, hn, hcell⟩ := h
  refine ⟨a, cap, rfl, Nat.le_trans hc hm, hn, fun hne => ?_⟩
  have hpos : 0 < l.length := by
    rcases Nat.eq_zero_or_pos l.length with h0 | h0
    · exact absurd (List.eq_nil_of_length_eq_zero h0) hne
    · exact h0
  have hlen := vcells_len l
  obtain ⟨b, off, ha, hbl, hcl⟩ := hcell (by intro e; rw [e] at hlen; simp at hlen; omega)
  refine ⟨b, off, ha, hbl, fun i hi => ?_⟩
  obtain ⟨g1, g2, g3⟩ := vcells_get l i hi
  exact ⟨(hcl (i * 3) (by omega)).trans g1, (hcl (i * 3 + 1) (by omega)).trans g2, (hcl (i * 3 + 2) (by omega)).trans g3⟩
theorem Vals.kept {B : Nat} {w w' : World} {x : Value} {l : List V} (h : Vals w x l) (hb : Below B w w') (hB : w.heap.size ≤ B) : Vals w' x l := Reads.kept h hb hB
theorem Vals.nil (w : World) : Vals w (.slice none 0 0) [] := Reads.nil w 3
theorem Vals.made (w : World) (C : Array Value) (t : TypeId) (n c : Nat) (l : List V) (hC : C.toList = vcells l) (hn : n = l.length) (hc : n ≤ c) (hm : c ≤ maxLen) : Vals (w.alloc (.cells C t)) (.slice (some ⟨w.heap.size, 0, none⟩) n c) l := by
  subst hn
  have hs : C.size = l.length * 3 := by rw [← Array.length_toList, hC, vcells_len]
  have := Reads.made w C t (0, 0) 3 l.length c hs hc hm
  rw [hC] at this
  exact this
theorem Vals.own {w : World} {base e : Nat} {x : Value} {n : Nat} {l : List V} (h : w.ownsRow base e 3 x n (vcells l)) : Vals w x l := by
  have hn : n = l.length := by have := h.1; rw [vcells_len] at this; omega
  subst hn
  exact Reads.own h

/-- x is a slice of int that reads l in w. -/
def Ints (w : World) (x : Value) (l : List Int) : Prop := Reads w 1 x l.length (l.map (Value.int .i64))
theorem Ints.parts {w : World} {x : Value} {l : List Int} (h : Ints w x l) : ∃ a cap, x = .slice a l.length cap ∧ l.length ≤ maxLen ∧ (a = none → cap = 0) ∧
    (l ≠ [] → ∃ b off, a = some ⟨b, off, none⟩ ∧ b < w.heap.size ∧ ∀ i, i < l.length → w.cell? ⟨b, off + i, none⟩ = some (.int .i64 (l.getD i 0))) := by
  obtain ⟨a, cap, rfl, hl, hc, hm, hn, hcell⟩ := h
  refine ⟨a, cap, rfl, Nat.le_trans hc hm, hn, fun hne => ?_⟩
  obtain ⟨b, off, ha, hbl, hcl⟩ := hcell (by simpa using hne)
  refine ⟨b, off, ha, hbl, fun i hi => ?_⟩
  rw [hcl i (by simpa using hi)]
  simp [List.getD, List.getElem?_eq_getElem hi]
theorem Ints.kept {B : Nat} {w w' : World} {x : Value} {l : List Int} (h : Ints w x l) (hb : Below B w w') (hB : w.heap.size ≤ B) : Ints w' x l := Reads.kept h hb hB
theorem Ints.nil (w : World) : Ints w (.slice none 0 0) [] := Reads.nil w 1
theorem Ints.made (w : World) (C : Array Value) (t : TypeId) (n c : Nat) (l : List Int) (hC : C.toList = l.map (Value.int .i64)) (hn : n = l.length) (hc : n ≤ c) (hm : c ≤ maxLen) : Ints (w.alloc (.cells C t)) (.slice (some ⟨w.heap.size, 0, none⟩) n c) l := by
  subst hn
  have hs : C.size = l.length * 1 := by rw [← Array.length_toList, hC]; simp
  have := Reads.made w C t (0, 0) 1 l.length c hs hc hm
  rw [hC] at this
  exact this

end Go.Proofs.Ytaceobjppcmhjaa
