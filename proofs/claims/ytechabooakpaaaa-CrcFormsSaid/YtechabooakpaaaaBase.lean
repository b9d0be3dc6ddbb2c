/-
  Small words and laws that the walks of this seat share: a slice of bytes that reads as a list of numbers; bit operations of uint32 on natural numbers. No function of the program is spoken of.
-/
import Derived.Test.YtechabooakpaaaaRows
import Derived.WalkKit
import Derived.WalkSpells
import Derived.WalkLawsBesides
import Derived.LoopN
import Derived.Laws.BitsAllLaws
import Derived.Lib.Hide
import Derived.Lib.SlBytesConst
import Derived.ProofKit
import Derived.Carry
import Derived.OpenShut
namespace Go.Proofs.Ytechabooakpaaaa
open Go.RowKit

/-- v is a slice of bytes that reads bs in w. -/
def Bytes (w : World) (v : Value) (bs : List Nat) : Prop :=
  ∃ a cap, v = .slice a bs.length cap ∧ bs.length ≤ maxLen ∧ (∀ i, i < bs.length → bs.getD i 0 < 256) ∧
    (bs ≠ [] → ∃ b off, a = some ⟨b, off, none⟩ ∧ b < w.heap.size ∧ ∀ i, i < bs.length → w.cell? ⟨b, off + i, none⟩ = some (.int .u8 (bs.getD i 0 : Nat)))

theorem ret_int {k : IntKind} {a b : Int} (h : a = b) : Ending.returned (.int k a) = .returned (.int k b) := by rw [h]

/-- What 'Below' gives of cells. -/
theorem bcell {W w1 : World} (hb : Below W.heap.size W w1) : (∀ b o, b < W.heap.size → w1.cell? ⟨b, o, none⟩ = W.cell? ⟨b, o, none⟩) ∧ (∀ b o, b < W.heap.size → w1.frozen? ⟨b, o, none⟩ = W.frozen? ⟨b, o, none⟩) :=
  ⟨fun b o h => hb.cell (p := ⟨b, o, none⟩) h, fun b o h => hb.frozen (p := ⟨b, o, none⟩) h⟩

theorem Bytes.kept {B : Nat} {w w' : World} {v : Value} {bs : List Nat} (h : Bytes w v bs) (hb : Below B w w') (hB : w.heap.size ≤ B) : Bytes w' v bs := by
  obtain ⟨a, cap, rfl, hm, hx, hc⟩ := h
  refine ⟨a, cap, rfl, hm, hx, fun hne => ?_⟩
  obtain ⟨b, off, ha, hbl, hcell⟩ := hc hne
  exact ⟨b, off, ha, Nat.lt_of_lt_of_le hbl hb.size, fun i hi => (hb.cell (p := ⟨b, off + i, none⟩) (show b < B by omega)).trans (hcell i hi)⟩

theorem Bytes.nil (w : World) (c : Nat) (a : Option Addr) : Bytes w (.slice a 0 c) [] := ⟨a, c, rfl, by simp, by simp, fun h => absurd rfl h⟩

/-- A row of bytes that has just been laid (a mark of the run-time's or none). -/
theorem Bytes.made (w : World) (C : Array Value) (t : TypeId) (fr : Nat × Nat) (n c : Nat) (bs : List Nat) (hC : C.toList = bs.map (fun n => Value.int .u8 (n : Nat))) (hn : n = bs.length) (hm : bs.length ≤ maxLen) (hb : ∀ i, i < bs.length → bs.getD i 0 < 256) :
    Bytes (w.alloc (.cells C t fr)) (.slice (some ⟨w.heap.size, 0, none⟩) n c) bs := by
  subst hn
  refine ⟨_, c, rfl, hm, hb, fun _ => ⟨_, _, rfl, by simp, fun i hi => ?_⟩⟩
  rw [World.cell?_alloc_mark, ← Array.getElem?_toList, hC]
  simp [List.getD, List.getElem?_eq_getElem hi]

/-- What the form tells of a slice of integers that came in: it is nil; or it leads to a row of 'cap' cells. -/
def IsRow (k : IntKind) (w : World) (a : Option Addr) (len cap : Nat) (zs : List Int) : Prop :=
  (a = none ∧ len = 0 ∧ cap = 0 ∧ zs = []) ∨
  ∃ x, a = some x ∧ len ≤ cap ∧ cap ≤ maxLen ∧ zs.length = cap ∧ (∀ i, i < zs.length → w.cell? (x.add i) = some (.int k (zs.getD i 0))) ∧ ∀ n ∈ zs, (Lit.int k n).wf = true

theorem block_of_cell {w : World} {a : Addr} {v : Value} (h : w.cell? a = some v) : a.block < w.heap.size := by
  rcases Nat.lt_or_ge a.block w.heap.size with h' | h'
  · exact h'
  · simp [World.cell?, Array.getElem?_eq_none h'] at h

theorem Bytes.of_row {w : World} {a : Option Addr} {len cap : Nat} {zs : List Int} (h : IsRow .u8 w a len cap zs) : ∃ bs, bs.length = len ∧ Bytes w (.slice a len cap) bs := by
  rcases h with ⟨rfl, rfl, rfl, rfl⟩ | ⟨x, rfl, hl, hm, hz, hcell, hwz⟩
  · exact ⟨[], rfl, Bytes.nil _ _ _⟩
  · have hlen : ((zs.take len).map Int.toNat).length = len := by simp; omega
    have hget : ∀ i, i < len → (zs.getD i 0) = (((zs.take len).map Int.toNat).getD i 0 : Nat) ∧ ((zs.take len).map Int.toNat).getD i 0 < 256 := by
      intro i hi
      have hi' : i < zs.length := by omega
      have hw := hwz _ (List.getElem_mem hi')
      have e1 : zs.getD i 0 = zs[i] := by simp [List.getD, List.getElem?_eq_getElem hi']
      have e2 : ((zs.take len).map Int.toNat).getD i 0 = zs[i].toNat := by
        simp [List.getD, hi, List.getElem?_eq_getElem hi']
      rw [e1, e2]
      have hb : 0 ≤ zs[i] ∧ zs[i] ≤ 255 := by
        simp [Lit.wf, IntKind.min, IntKind.max, IntKind.signed, IntKind.bits] at hw
        omega
      omega
    refine ⟨(zs.take len).map Int.toNat, hlen, some x, cap, by rw [hlen], by rw [hlen]; omega, fun i hi => (hget i (by rw [hlen] at hi; exact hi)).2, fun hne => ?_⟩
    have hpos : 0 < len := by
      rcases Nat.eq_zero_or_pos len with h0 | h0
      · subst h0; simp at hne
      · exact h0
    obtain ⟨b, off, spot⟩ := x
    have hc := hcell 0 (by omega)
    have hspot : spot = none := by simpa [Addr.add] using World.cell?_spot hc
    subst hspot
    refine ⟨b, off, rfl, by simpa [Addr.add] using block_of_cell hc, fun i hi => ?_⟩
    rw [hlen] at hi
    have := hcell i (by omega)
    rw [(hget i hi).1] at this
    rw [← this]
    congr 1
    by_cases h0 : i = 0
    · subst h0; simp [Addr.add]
    · simp [Addr.add, h0]

/-- A []byte that came in. -/
theorem Bytes.of_trod {H : Type} {enc : TypeId × Value → H} {P : Program} {w : World} {t e : TypeId} {v : Value} {d : DataW H} {ps : List MemPlace} {b0 : Nat} (ht : P.underlying t = some (.slice e)) (he : P.underlying e = some (.int .u8)) (hc : P.cellsOf e = 1)
    (hv : Value.okWide P w .any b0 t v) (h : DataW.Trod enc P w 0 (fun _ => true) true t v d ps) : ∃ bs, Bytes w v bs := by
  obtain ⟨a, len, cap, rfl⟩ := WideShapes.okWide_slice ht hv
  obtain ⟨fuel, hf⟩ := h
  rcases ChangeShapes.open_ints ht he hc hf with ⟨hcs, _⟩ | ⟨x, l, c, zs, hcs, _, hl, hm, hz, _, hcell, hwz⟩
  · simp [Value.cells] at hcs
    obtain ⟨rfl, rfl, rfl⟩ := hcs
    exact ⟨[], Bytes.nil _ _ _⟩
  · simp [Value.cells] at hcs
    obtain ⟨rfl, rfl, rfl⟩ := hcs
    obtain ⟨bs, _, h⟩ := Bytes.of_row (.inr ⟨_, rfl, hl, hm, by simpa using hz, hcell, hwz⟩)
    exact ⟨bs, h⟩

theorem open_nat {H : Type} {enc : TypeId × Value → H} {P : Program} {w : World} {t : TypeId} {v : Value} {d : DataW H} {ps : List MemPlace} {b0 : Nat} {k : IntKind} (hk : k.signed = false) (ht : P.underlying t = some (.int k))
    (hv : Value.okWide P w .any b0 t v) (h : DataW.Trod enc P w 0 (fun _ => true) true t v d ps) : ∃ n : Nat, n < 2 ^ k.bits ∧ v = .int k (n : Nat) := by
  obtain ⟨x, rfl, _, _, wx⟩ := ChangeShapes.open_int ht hv h
  have hb : 0 ≤ x ∧ x < 2 ^ k.bits := by
    cases k <;> simp [IntKind.signed] at hk <;> simp [Lit.wf, IntKind.min, IntKind.max, IntKind.signed, IntKind.bits] at wx ⊢ <;> omega
  refine ⟨x.toNat, ?_, by rw [Int.toNat_of_nonneg hb.1]⟩
  have h2 := hb.2
  rw [← Int.toNat_of_nonneg hb.1] at h2
  exact_mod_cast h2

end Go.Proofs.Ytechabooakpaaaa
