/-
  Truths as values: told to the evaluator.
-/
import Derived.Test.YtcdbodpmcnebiaaCnFn
set_option linter.unusedVariables false
set_option linter.unusedSimpArgs false
set_option maxRecDepth 100000
namespace Go.Proofs.Ytcdbodpmcnebiaa.Ev
open Go Go.Proofs Go.RowKit

def one (q : Bool) : Int := cond q 1 0
def truV (q : Bool) : Value := .agg (Array.mk [.int .i64 1, .int .i64 (one q), .float .f64 0])
theorem tr_eq (q : Bool) (K : AE → Prop) : funK Try.prog toldV 100 20 22 [.bool q] st0 (fun r _ => K r) = K (.returned (truV q)) := by
  rw [vc_tr]; cases q <;> rfl
theorem tr1_eq (q : Bool) (K : AE → Prop) : funK Try.prog toldV 100 20 19 [.bool q] st0 (fun r _ => K r) = K (.returned (.int .i64 (one q))) := by
  rw [vc_tr1]; cases q <;> rfl
def trSpec : List Value → Option Value
  | [.bool q] => some (truV q)
  | _ => none
def tr1Spec : List Value → Option Value
  | [.bool q] => some (.int .i64 (one q))
  | _ => none
def toldN : Told := (toldV.also 22 trSpec).also 19 tr1Spec
theorem toldN_ok : ToldS Try.prog toldN := by
  refine Told.also_ok (Told.also_ok toldV_ok ?_) ?_
  · intro args v hv
    unfold trSpec at hv
    split at hv
    · rename_i q
      cases hv
      exact ⟨rfl, rfl, fun w args' ha => sym_is (fuel := 100) (n := 20) follows toldV_ok (Eq.mpr (tr_eq q fun r => r = .returned (truV q)) rfl) w args' ha⟩
    · cases hv
  · intro args v hv
    unfold tr1Spec at hv
    split at hv
    · rename_i q
      cases hv
      exact ⟨rfl, rfl, fun w args' ha => sym_is (fuel := 100) (n := 20) follows toldV_ok (Eq.mpr (tr1_eq q fun r => r = .returned (.int .i64 (one q))) rfl) w args' ha⟩
    · cases hv
end Go.Proofs.Ytcdbodpmcnebiaa.Ev
