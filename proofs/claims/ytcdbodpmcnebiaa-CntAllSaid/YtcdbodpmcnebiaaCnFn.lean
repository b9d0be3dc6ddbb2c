/-
  What has to hold: printed by the evaluator.
-/
import Derived.Test.YtcdbodpmcnebiaaClV
set_option linter.unusedVariables false
set_option maxRecDepth 1000000
namespace Go.Proofs.Ytcdbodpmcnebiaa.Ev
open Go Go.Proofs
theorem vc_tr (q : Bool) (K : AE → Prop) : funK Try.prog toldV 100 20 22 [.bool q] st0 (fun r _ => K r) =
(  br q
  (K
  (AE.returned
  (Value.agg
  (Array.mk
  [Value.int IntKind.i64 (1 : Int), Value.int IntKind.i64 (1 : Int), Value.float FloatKind.f64 0]))))
  (K
  (AE.returned
  (Value.agg
  (Array.mk
  [Value.int IntKind.i64 (1 : Int), Value.int IntKind.i64 (0 : Int), Value.float FloatKind.f64 0]))))) := by kernel_rfl
theorem vc_tr1 (q : Bool) (K : AE → Prop) : funK Try.prog toldV 100 20 19 [.bool q] st0 (fun r _ => K r) =
(  br q (K (AE.returned (Value.int IntKind.i64 (1 : Int)))) (K (AE.returned (Value.int IntKind.i64 (0 : Int))))) := by kernel_rfl
end Go.Proofs.Ytcdbodpmcnebiaa.Ev
