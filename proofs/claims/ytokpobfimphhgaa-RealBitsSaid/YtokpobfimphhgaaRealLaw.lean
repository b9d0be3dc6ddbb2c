/-
  RealTurn, RealOrder, RealBits: what has to hold of numbers holds.
-/
import Derived.Test.YtokpobfimphhgaaRealV
set_option linter.unusedVariables false
set_option linter.unusedSimpArgs false
namespace Go.Proofs.Ytokpobfimphhgaa.Ev
open Go Go.RowKit

theorem same_self (a : Nat) : sameN a a = true := by simp [sameN]
theorem turn_law (u v : Int) (w : World) : Calls Try.prog 7 #[.int .u64 u, .int .u64 v] w fun e w' => e = .returned (.bool true) ∧ Below w.heap.size w w' := by
  refine law_scal (args := [.int .u64 u, .int .u64 v]) (fuel := 100) (n := 20) (un := fun _ => 100) (lvs := fun _ => []) (ex := fun _ _ => False) follows toldSame_ok rfl w ?_
  rw [vc_turn]
  refine need_of ?_ (need_of ?_ (need_of ?_ (need_of ?_ trivial)))
  · rw [ari_add_comm]; exact same_self _
  · rw [ari_sub]; exact same_self _
  · simp only [sameN, bits_neg_neg, decide_true]
  · rw [ari_mul_comm]; exact same_self _

theorem order_swap (a b : Nat) : Ieee.double.order b a = (Ieee.double.order a b).map Ordering.swap := by
  unfold Ieee.Format.order
  cases Ieee.double.read a with
  | nan s p => cases Ieee.double.read b <;> rfl
  | infinity s => cases Ieee.double.read b with
    | nan t q => rfl
    | infinity t => cases s <;> cases t <;> rfl
    | number t n j => simp only [Ieee.Datum.order, Option.map_some]; cases s <;> simp [Ordering.swap]
  | number s m i => cases Ieee.double.read b with
    | nan t q => rfl
    | infinity t => simp only [Ieee.Datum.order, Option.map_some]; cases t <;> simp [Ordering.swap]
    | number t n j =>
      simp only [Ieee.Datum.order, Option.map_some]
      rw [Int.min_comm j i]
      generalize Ieee.signed s m (i - min i j).toNat = x
      generalize Ieee.signed t n (j - min i j).toNat = y
      congr 1
      simp only [compare, compareOfLessAndEq]
      rcases Int.lt_trichotomy x y with h | h | h
      · rw [if_neg (by omega), if_neg (by omega), if_pos h]; rfl
      · subst h; simp [Ordering.swap]
      · rw [if_pos h, if_neg (by omega), if_neg (by omega)]; rfl
theorem order_some {a b : Nat} (h1 : nanB .f64 a = false) (h2 : nanB .f64 b = false) : Ieee.double.order a b ≠ none := by
  have key : ∀ x, nanB .f64 x = false → ∀ s p, Ieee.double.read x ≠ .nan s p := fun x hx s p e => by
    have := nan_of_read (k := .f64) e
    rw [hx] at this; cases this
  unfold Ieee.Format.order
  cases ha : Ieee.double.read a with
  | nan s p => exact absurd ha (key a h1 s p)
  | infinity s => cases hb : Ieee.double.read b with
    | nan t q => exact absurd hb (key b h2 t q)
    | infinity t => simp [Ieee.Datum.order]
    | number t n j => simp [Ieee.Datum.order]
  | number s m i => cases hb : Ieee.double.read b with
    | nan t q => exact absurd hb (key b h2 t q)
    | infinity t => simp [Ieee.Datum.order]
    | number t n j => simp [Ieee.Datum.order]
theorem order_law (u v : Int) (w : World) : Calls Try.prog 8 #[.int .u64 u, .int .u64 v] w fun e w' => e = .returned (.bool true) ∧ Below w.heap.size w w' := by
  refine law_scal (args := [.int .u64 u, .int .u64 v]) (fuel := 100) (n := 20) (un := fun _ => 100) (lvs := fun _ => []) (ex := fun _ _ => False) follows toldSame_ok rfl w ?_
  rw [vc_order]
  have hf : FloatKind.format .f64 = Ieee.double := rfl
  rw [hf, order_self, order_self, order_swap u.toNat v.toNat]
  have hn : Ieee.double.order u.toNat v.toNat = none ↔ (nanB .f64 u.toNat = true ∨ nanB .f64 v.toNat = true) := by
    constructor
    · intro h
      cases h1 : nanB .f64 u.toNat with
      | true => exact .inl rfl
      | false =>
        cases h2 : nanB .f64 v.toNat with
        | true => exact .inr rfl
        | false => exact absurd h (order_some h1 h2)
    · intro h
      exact nan_order (k := .f64) (by rcases h with h | h <;> rw [h] <;> simp)
  generalize Ieee.double.order u.toNat v.toNat = o at hn
  generalize nanB .f64 u.toNat = p at hn
  generalize nanB .f64 v.toNat = q at hn
  revert hn
  cases o with
  | none => cases p <;> cases q <;> decide
  | some r => cases r <;> cases p <;> cases q <;> decide
end Go.Proofs.Ytokpobfimphhgaa.Ev
