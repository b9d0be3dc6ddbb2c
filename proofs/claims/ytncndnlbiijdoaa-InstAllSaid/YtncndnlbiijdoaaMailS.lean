/-
  begun answers true: told to the evaluator.
-/
import Derived.Test.YtncndnlbiijdoaaLaw
set_option linter.unusedVariables false
namespace Go.Proofs.Ytncndnlbiijdoaa.Ev
open Go

set_option maxRecDepth 1000000
theorem follows : Try.prog.follows .mixedOrders = true := by kernel_rfl
def begunSpec : List Value → Option Value
  | [] => some (.bool true)
  | _ => none
def toldB : Told := noTold.also 7 begunSpec
theorem toldB_ok : ToldS Try.prog toldB := by
  refine Told.also_ok (noTold_ok _) ?_
  intro args v hv
  unfold begunSpec at hv
  split at hv
  · cases hv
    refine ⟨rfl, rfl, fun w args' ha => ?_⟩
    have : args' = #[] := by
      have := ha.1
      simp at this
      exact Array.eq_empty_of_size_eq_zero this.symm
    subst this
    exact (closed_true follows (by kernel_rfl) w).mono fun e w' ⟨h1, h2⟩ => ⟨⟨fun _ => none, _, h1, .bool true⟩, h2⟩
  · cases hv
end Go.Proofs.Ytncndnlbiijdoaa.Ev
