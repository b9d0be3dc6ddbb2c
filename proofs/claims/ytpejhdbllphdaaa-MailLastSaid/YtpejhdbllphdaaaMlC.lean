/-
  slices.Clone of values, of numbers: told to the evaluator. And nothing seen as a row of none.
-/
import Derived.Test.YtpejhdbllphdaaaMlSC
set_option linter.unusedVariables false
set_option linter.unusedSimpArgs false
set_option maxRecDepth 1000000
namespace Go.Proofs.Ytpejhdbllphdaaa.Ev
open Go Go.Proofs Go.RowKit

def toldS : Told := toldA.tree 12 (ok2 Vl Vl fun _ _ _ _ => true) (ans2 Vl Vl fun l _ m _ => bAns (sameVs l m))
theorem toldS_ok : ToldS Try.prog toldS := Told.tree_ok toldA_ok same_told
theorem cloneI_told : ToldW Try.prog 18 (okC 1) (ansC 1) := clone_told follows (fun n c f β K => by kernel_rfl) (fun es' f β K => by kernel_rfl)
theorem cloneV_told : ToldW Try.prog 14 (okC 3) (ansC 3) := clone_told follows (fun n c f β K => by kernel_rfl) (fun es' f β K => by kernel_rfl)
def toldC : Told := (toldS.tree 18 (okC 1) (ansC 1)).tree 14 (okC 3) (ansC 3)
theorem toldC_ok : ToldS Try.prog toldC := Told.tree_ok (Told.tree_ok toldS_ok cloneI_told) cloneV_told
end Go.Proofs.Ytpejhdbllphdaaa.Ev
