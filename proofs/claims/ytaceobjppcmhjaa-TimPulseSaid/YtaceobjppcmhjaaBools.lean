/-
  Words for a slice of bools that came in.
-/
import Derived.Test.YtaceobjppcmhjaaVal
import Derived.Deep.Slices
namespace Go.Proofs.Ytaceobjppcmhjaa
open Go.RowKit

/-- x is a slice of bools that reads l in w. -/
def Bools (w : World) (x : Value) (l : List Bool) : Prop := Reads w 1 x l.length (l.map Value.bool)
theorem Bools.parts {w : World} {x : Value} {l : List Bool} (h : Bools w x l) : ∃ a cap, x = .slice a l.length cap ∧ l.length ≤ maxLen ∧
    (l ≠ [] → ∃ b off, a = some ⟨b, off, none⟩ ∧ b < w.heap.size ∧ ∀ i, i < l.length → w.cell? ⟨b, off + i, none⟩ = some (.bool (l.getD i false))) := by
  obtain ⟨a, cap, rfl, hl, hc, hm, hn, hcell⟩ := h
  refine ⟨a, cap, rfl, Nat.le_trans hc hm, fun hne => ?_⟩
  obtain ⟨b, off, ha, hbl, hcl⟩ := hcell (by simpa using hne)
  refine ⟨b, off, ha, hbl, fun i hi => ?_⟩
  rw [hcl i (by simpa using hi)]
  simp [List.getD, List.getElem?_eq_getElem hi]
def boolOf : Value → Bool
  | .bool b => b
  | _ => false
theorem Bools.of_trod {H : Type} {enc : TypeId × Value → H} {P : Program} {w : World} {t e : TypeId} {v : Value} {d : DataW H} {ps : List MemPlace} {b0 : Nat} (ht : P.underlying t = some (.slice e)) (he : P.underlying e = some .bool) (hc : P.cellsOf e = 1)
    (hv : Value.okWide P w .any b0 t v) (h : DataW.Trod enc P w 0 (fun _ => true) true t v d ps) : ∃ l, Bools w v l := by
  obtain ⟨a, len, cap, rfl⟩ := WideShapes.okWide_slice ht hv
  obtain ⟨fuel, hf⟩ := h
  rcases Deep.open_slice1 ht hc hf with ⟨hcs, _⟩ | ⟨x, l, c, m, n, V, D, Pl, hcs, _, hl, hm, hmm, _, hcell⟩
  · simp [Value.cells] at hcs
    obtain ⟨rfl, rfl, rfl⟩ := hcs
    exact ⟨[], Reads.nil w 1⟩
  · simp [Value.cells] at hcs
    obtain ⟨rfl, rfl, rfl⟩ := hcs
    simp at hmm
    subst hmm
    have key : ∀ i, i < m → V i = .bool (boolOf (V i)) := by
      intro i hi
      obtain ⟨_, h2⟩ := hcell i hi
      obtain ⟨bb, hb, _⟩ := DataW.trod_bool he h2
      simp at hb
      rw [hb]; rfl
    refine ⟨(List.range len).map fun i => boolOf (V i), some x, m, by simp, by simp, by simpa using hl, hm, by simp, fun hne => ?_⟩
    have hpos : 0 < len := by
      rcases Nat.eq_zero_or_pos len with h0 | h0
      · subst h0; simp at hne
      · exact h0
    obtain ⟨b, off, spot⟩ := x
    have hc0 := (hcell 0 (by omega)).1
    have hspot : spot = none := by simpa [Addr.add] using World.cell?_spot hc0
    subst hspot
    refine ⟨b, off, rfl, by simpa [Addr.add] using block_of_cell hc0, fun i hi => ?_⟩
    have hi2 : i < len := by simpa using hi
    have h1 := (hcell i (by omega)).1
    rw [add_plain, key i (by omega)] at h1
    rw [h1]
    simp [hi2]
end Go.Proofs.Ytaceobjppcmhjaa
