/-
  begun answers true: told to the evaluator.
-/
import Derived.Test.YtlbccgoheiaheaaTo
set_option linter.unusedVariables false
namespace Go.Proofs.Ytlbccgoheiaheaa.Ev
open Go

set_option maxRecDepth 1000000
theorem follows : Try.prog.follows .mixedOrders = true := by kernel_rfl
def begunSpec : List Value → Option Value
  | [] => some (.bool true)
  | _ => none
def toldC : Told := noTold.also 7 begunSpec
theorem toldC_ok : ToldS Try.prog toldC := by
  refine Told.also_ok (noTold_ok _) ?_
  intro args v hv
  unfold begunSpec at hv
  split at hv
  · cases hv
    refine ⟨rfl, rfl, fun w args' ha => ?_⟩
    have : args' = #[] := by
      have := ha.1
      simp at this
      exact Array.eq_empty_of_size_eq_zero this.symm
    subst this
    exact (closed_true follows (by kernel_rfl) w).mono fun e w' ⟨h1, h2⟩ => ⟨⟨fun _ => none, _, h1, .bool true⟩, h2⟩
  · cases hv
theorem vc_clone (i0 n c : Nat) (f : Nat → List Value) (K : AE → ASt → Prop) : funK Try.prog noTold 100 20 17 [.slice (some ⟨0, 0, some i0⟩) n c] (rowS 5 i0 (i0 + n) f) K =
    br ((Nat.beq n 0 && Nat.beq c 1) == true) (K (.returned (.slice none 0 0)) (rowS 5 i0 (i0 + n) f)) (need (Nat.ble i0 i0 && Nat.ble (i0 + n) (i0 + n)) (need (Nat.ble (0 + n) 1000000)
      (K (.returned (.slice (some ⟨2, 0, some 0⟩) n 0)) (ASt.new (ASt.new (rowS 5 i0 (i0 + n) f) (.cells [] true 0)) (.row true 5 0 n fun j => f (i0 + j)))))) := by kernel_rfl
theorem clone_ok : ToldG Try.prog 17 (cloneC 5) :=
  clone_told follows fun i0 n c f hn => clone_of (vc_clone i0 n c f _) hn (fun h => .inl ⟨h, rfl⟩) (fun h => .inr ⟨h, rfl, clone_mem⟩)
def toldB : Told := toldC.with 17 (cloneC 5)
theorem toldB_ok : ToldS Try.prog toldB := Told.with_ok toldC_ok clone_ok
end Go.Proofs.Ytlbccgoheiaheaa.Ev
