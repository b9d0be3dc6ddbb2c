/-
  begun answers true, and sums are what they are: told to the evaluator.
-/
import Derived.Test.YtfghnjjmfcnhoaaCrcT
import Derived.Test.YtfghnjjmfcnhoaaRefSum
set_option linter.unusedVariables false
namespace Go.Proofs.Ytfghnjjmfcnhoaa.Ev
open Go Go.RowKit

set_option maxRecDepth 1000000
theorem follows : Try.prog.follows .mixedOrders = true := by kernel_rfl
def begunSpec : List Value → Option Value
  | [] => some (.bool true)
  | _ => none
def toldC : Told := noTold.also 4 begunSpec
theorem toldC_ok : ToldS Try.prog toldC := by
  refine Told.also_ok (noTold_ok _) ?_
  intro args v hv
  unfold begunSpec at hv
  split at hv
  · cases hv
    refine ⟨rfl, rfl, fun w args' ha => ?_⟩
    have : args' = #[] := by
      have := ha.1
      simp at this
      exact Array.eq_empty_of_size_eq_zero this.symm
    subst this
    exact (closed_true follows (by kernel_rfl) w).mono fun e w' ⟨h1, h2⟩ => ⟨⟨fun _ => none, _, h1, .bool true⟩, h2⟩
  · cases hv
def toldB : Told := (toldC.with 54 (sumC refSum)).with 18 (sumC refSum)
theorem toldB_ok : ToldS Try.prog toldB := by
  refine Told.with_ok (Told.with_ok toldC_ok (sum_told fun v bs w h => ?_)) (sum_told fun v bs w h => ?_)
  · rw [← crcSum_eq]; exact sum_anyW v bs w h
  · exact (refSum_anyW v bs w h).mono fun e w' ⟨he, hw⟩ => ⟨he, by subst hw; exact Below.refl _ _⟩
end Go.Proofs.Ytfghnjjmfcnhoaa.Ev
