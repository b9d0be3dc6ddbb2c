/-
  Rows that come in, by what their cells are.
-/
import Derived.Test.YtokpobfimphhgaaSeen
set_option linter.unusedVariables false
set_option linter.unusedSimpArgs false
namespace Go.Proofs.Ytokpobfimphhgaa.Ev
open Go Go.RowKit

theorem RowAt.congr {w : World} {x : Value} {n es : Nat} {e e' : Nat → List Value} (h : RowAt w x n es e) (he : ∀ i, i < n → e i = e' i) : RowAt w x n es e' := by
  refine ⟨h.len, ?_⟩
  rcases h.at_ with h | h | ⟨b, o, c, h1, h2, h3, h4⟩
  · exact .inl h
  · exact .inr (.inl h)
  · exact .inr (.inr ⟨b, o, c, h1, h2, h3, fun i hi => by rw [← he i hi]; exact h4 i hi⟩)
def intC (l : List Value) (j : Nat) : Int := match l[j]? with
  | some (.int _ n) => n
  | _ => 0
def fltC (l : List Value) (j : Nat) : Nat := match l[j]? with
  | some (.float _ n) => n
  | _ => 0
def boolC (l : List Value) (j : Nat) : Bool := match l[j]? with
  | some (.bool b) => b
  | _ => false
theorem Sh.int_inv {k : IntKind} {v : Value} (h : (Sh.int k).ok v) : ∃ n, v = .int k n ∧ (Lit.int k n).wf = true := by
  cases v <;> first | exact h.elim | (obtain ⟨rfl, h⟩ := h; exact ⟨_, rfl, h⟩)
theorem Sh.flt_inv {k : FloatKind} {v : Value} (h : (Sh.flt k).ok v) : ∃ n, v = .float k n ∧ (Lit.float k n).wf = true := by
  cases v <;> first | exact h.elim | (obtain ⟨rfl, h⟩ := h; exact ⟨_, rfl, h⟩)
theorem Sh.bool_inv {v : Value} (h : Sh.bool.ok v) : ∃ n, v = .bool n := by
  cases v <;> first | exact h.elim | exact ⟨_, rfl⟩
/-- of one number each -/
theorem RowAt.ints {w : World} {x : Value} {n : Nat} {e : Nat → List Value} {k : IntKind} (h : RowAt w x n 1 e) (hs : ∀ i, i < n → ShL [.int k] (e i)) : ∃ g : Nat → Int, RowAt w x n 1 (fun i => [.int k (g i)]) ∧ ∀ i, i < n → (Lit.int k (g i)).wf = true := by
  have key : ∀ i, i < n → e i = [.int k (intC (e i) 0)] ∧ (Lit.int k (intC (e i) 0)).wf = true := by
    intro i hi
    have := hs i hi
    generalize e i = l at this
    cases l with
    | nil => exact this.elim
    | cons v l =>
      cases l with
      | cons => exact this.2.elim
      | nil => obtain ⟨m, rfl, hm⟩ := Sh.int_inv this.1; exact ⟨rfl, hm⟩
  exact ⟨fun i => intC (e i) 0, h.congr fun i hi => (key i hi).1, fun i hi => (key i hi).2⟩
theorem u8_wf {x : Int} (h : (Lit.int .u8 x).wf = true) : 0 ≤ x ∧ x ≤ 255 := by
  simp [Lit.wf, IntKind.min, IntKind.max, IntKind.signed, IntKind.bits] at h; omega
end Go.Proofs.Ytokpobfimphhgaa.Ev
