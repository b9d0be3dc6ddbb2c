/-
  A slice of truths that came in, as a row of the evaluator's; numbers within their width.
-/
import Derived.Test.YtaceobjppcmhjaaSyJ
import Derived.Test.YtaceobjppcmhjaaBools
set_option linter.unusedVariables false
set_option linter.unusedSimpArgs false
namespace Go.Proofs.Ytaceobjppcmhjaa.Ev
open Go Go.RowKit

def boolRow (n : Nat) (g : Nat → Bool) : AObj := .row 1 0 n fun i => [.bool (g i)]
def oneB (k h : Nat) (b : Bool) : AObj := .row 1 k h fun _ => [.bool b]
def exEnd (n : Nat) (l : List (Option AObj)) : Nat → Kt → Prop := fun b K => K (.exit b) (mkF n []) (mkS l)
def lvOf (l : List Nat) : AX → List Nat := fun x => match x with
  | .normal => l
  | _ => []
/-- where the truths lie -/
structure BoolsAt (w : World) (x : Value) (l : List Bool) (s : Spot) (c : Nat) : Prop where
  eq : x = .slice (some ⟨s.blk, s.base, none⟩) l.length c
  le : l.length ≤ c
  es : s.es = 1
  blk : s.blk < w.heap.size
  cell : ∀ i, i < l.length → w.cell? ⟨s.blk, s.base + i, none⟩ = some (.bool (l.getD i false))
theorem Bools.cases {w : World} {x : Value} {l : List Bool} (h : Bools w x l) : (l = [] ∧ x = .slice none 0 0) ∨ (l = [] ∧ ∃ a c, x = .slice (some a) 0 c) ∨ ∃ s c, BoolsAt w x l s c := by
  obtain ⟨a, cap, rfl, hl, hc, hm, hn, hcell⟩ := h
  cases l with
  | nil =>
    cases a with
    | none => have := hn rfl; subst this; exact .inl ⟨rfl, rfl⟩
    | some a => exact .inr (.inl ⟨rfl, a, cap, rfl⟩)
  | cons b l =>
    right; right
    obtain ⟨b0, off, ha, hbl, hcl⟩ := hcell (by simp)
    subst ha
    refine ⟨⟨b0, off, false, 1, 0⟩, cap, rfl, hc, rfl, hbl, fun i hi => ?_⟩
    rw [hcl i (by simpa using hi), List.getElem?_map, List.getElem?_eq_getElem hi]
    simp [List.getD, List.getElem?_eq_getElem hi]
theorem ext_bools {w : World} {x : Value} {l : List Bool} {s : Spot} {c : Nat} (h : BoolsAt w x l s c) (lo hi : Nat) (hh : hi ≤ l.length) (g : Nat → List Value) (hg : ∀ i, lo ≤ i → i < hi → g i = [.bool (l.getD i false)]) :
    ExtOk ⟨w.heap.size, w, [s]⟩ s (.row 1 lo hi g) := by
  refine ⟨rfl, fun ρ w' hb => ⟨h.es, fun i h1 h2 j v hv => ?_⟩⟩
  rw [hg i h1 h2] at hv
  cases j with
  | succ j => simp at hv
  | zero =>
    simp at hv
    subst hv
    refine ⟨.bool (l.getD i false), ?_, .bool _⟩
    rw [h.es, Nat.mul_one, Nat.add_zero]
    exact (hb.cell (p := ⟨s.blk, s.base + i, none⟩) h.blk).trans (h.cell i (by omega))
/-- a law of truths and of numbers: what has to hold -/
theorem law_bools {P : Program} {C : Told} {fuel n : Nat} (hm : P.follows .mixedOrders = true) (hC : ToldS P C) {un : Nat → Nat} {lvs : Nat → List Nat} {ex : Nat → Kt → Prop} {g : FuncId} {x : Value} {args : List Value} {l : List Bool} (ha : args.all refl1 = true) (w : World) {s : Spot} {c : Nat} (hb : BoolsAt w x l s c)
    (h : lawJ P C fuel n ⟨w.heap.size, w, [s]⟩ un (cnOf 1 lvs) ex g (.slice (some ⟨0, 0, some 0⟩) l.length l.length :: args) (mkS [some (boolRow l.length fun i => l.getD i false)]) trueV) :
    Calls P g (x :: args).toArray w fun e w' => e = .returned (.bool true) ∧ Below w.heap.size w w' := by
  let ρ : Rho := fun i => if i = 0 then some s else none
  have hext := ext_bools hb 0 l.length (Nat.le_refl _) (fun i => [.bool (l.getD i false)]) (fun i _ _ => rfl)
  have hget : ∀ k o, (mkS [some (boolRow l.length fun i => l.getD i false)]).h.get k = some o → k = 0 ∧ o = boolRow l.length fun i => l.getD i false := by
    intro k o e
    rw [mkS_get] at e
    cases k with
    | zero => simp at e; exact ⟨rfl, e.symm⟩
    | succ k => simp at e
  refine law_true (ρ := ρ) (X := [s]) hm hC rfl (fun i t e => ?_) ?_ ⟨fun a t e => ?_, fun a o e => ?_, fun a b oa ob sa sb ea eb eo ra rb heq => ?_⟩ (fun k o e => ?_) (fun a ha => ?_) (fun b hb' => ?_) h
  · cases i with
    | zero => simpa [ρ] using e
    | succ i => simp at e
  · have : (x :: args).toArray.toList = x :: args := rfl
    rw [this]
    refine VRL.cons ?_ ⟨rfl, fun i u v hu hv => ?_⟩
    · rw [hb.eq]
      exact .sliceI 0 0 s _ _ _ _ rfl (Nat.le_refl _) hb.le (.inl (by omega))
    · rw [hu] at hv; cases hv
      rw [List.all_eq_true] at ha
      exact refl1_VR (ha u (List.mem_of_getElem? hu))
  · simp only [ρ] at e
    split at e
    · cases e; exact hb.blk
    · cases e
  · obtain ⟨rfl, rfl⟩ := hget a o e
    exact ⟨s, rfl, hext.2 ρ w (Below.refl _ _)⟩
  · obtain ⟨rfl, rfl⟩ := hget a oa ea
    obtain ⟨rfl, rfl⟩ := hget b ob eb
    rfl
  · obtain ⟨rfl, rfl⟩ := hget k o e
    exact Nat.zero_lt_one
  · have : a ≠ 0 := by have : 1 ≤ a := ha; omega
    simp [ρ, this]
  · obtain ⟨a, o, t, e, e0, _⟩ := hb'
    obtain ⟨rfl, rfl⟩ := hget a o e
    cases e0
/-- where there are none -/
theorem law_none {P : Program} {C : Told} {fuel n : Nat} (hm : P.follows .mixedOrders = true) (hC : ToldS P C) {un : Nat → Nat} {lvs : Nat → List Nat} {ex : Nat → Kt → Prop} {g : FuncId} {x : Value} {args : List Value} (ha : args.all refl1 = true) (w : World) (hx : x = .slice none 0 0 ∨ ∃ a c, x = .slice (some a) 0 c)
    (h : ∀ β : Bs, β.X = [] → lawJ P C fuel n β un (cnOf 0 lvs) ex g (.slice none 0 0 :: args) st0 trueV) (h' : ∀ β : Bs, β.X = [] → lawJ P C fuel n β un (cnOf 0 lvs) ex g (.slice (some ⟨0, 0, some 0⟩) 0 0 :: args) st0 trueV) :
    Calls P g (x :: args).toArray w fun e w' => e = .returned (.bool true) ∧ Below w.heap.size w w' := by
  have hv : ∀ v, VR (fun _ => none) v x → VRL (fun _ => none) (v :: args) (x :: args).toArray.toList := fun v hvx =>
    VRL.cons hvx ⟨rfl, fun i u y hu hv => by rw [hu] at hv; cases hv; rw [List.all_eq_true] at ha; exact refl1_VR (ha u (List.mem_of_getElem? hu))⟩
  rcases hx with rfl | ⟨a, c, rfl⟩
  · exact law_true (ρ := fun _ => none) (X := []) hm hC rfl (fun i s e => by cases e) (hv _ .sliceNil) (WR.empty w) (fun x o e => by cases e) (fun _ _ => rfl) (fun b ⟨a, o, s, e, _⟩ => by cases e) (h _ rfl)
  · exact law_true (ρ := fun _ => none) (X := []) hm hC rfl (fun i s e => by cases e) (hv _ (.sliceE _ _ _ _)) (WR.empty w) (fun x o e => by cases e) (fun _ _ => rfl) (fun b ⟨a, o, s, e, _⟩ => by cases e) (h' _ rfl)
theorem w64 {x : Int} (h1 : -9223372036854775808 ≤ x) (h2 : x < 9223372036854775808) : IntKind.wrap .i64 x = x := by
  unfold IntKind.wrap
  simp [IntKind.signed, IntKind.bits]
  split <;> omega
theorem wu64 {x : Int} (h1 : 0 ≤ x) (h2 : x < 18446744073709551616) : IntKind.wrap .u64 x = x := by
  unfold IntKind.wrap
  simp [IntKind.signed, IntKind.bits]
  omega
end Go.Proofs.Ytaceobjppcmhjaa.Ev
