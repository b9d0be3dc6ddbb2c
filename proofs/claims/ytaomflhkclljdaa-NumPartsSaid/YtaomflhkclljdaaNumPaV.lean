/-
  What has to hold: printed by the evaluator.
-/
import Derived.Test.YtaomflhkclljdaaNumS
set_option linter.unusedVariables false
set_option maxRecDepth 1000000
namespace Go.Proofs.Ytaomflhkclljdaa.Ev
open Go Go.Proofs
def exN : Nat → Kt → Prop := fun b K => K (.exit b) (mkF 140 []) (mkS [])
def lvN : AX → List Nat := fun x => match x with
  | .normal => [0, 1, 5]
  | _ => []
def FN (a b k : Int) : AFr := mkF 140 [(0, .int .i64 a), (1, .int .i64 b), (5, .int .i64 k)]
theorem vc_np (a b : Int) (β : Bs) : lawJ Try.prog toldB 100 20 β (fun _ => 0) (cnOf 0 fun _ => [0, 1, 5]) exN 4 [.int .i64 a, .int .i64 b] st0 trueV =
  (LoopJ Try.prog β exN (0 : Nat) (loopOf Try.prog (4 : FuncId) (0 : Nat))
      (mkF (140 : Nat)
        [((0 : Nat), Value.int IntKind.i64 a), ((1 : Nat), Value.int IntKind.i64 b),
          ((5 : Nat), Value.int IntKind.i64 (2 : Int))])
      (mkS []) ∧
    True) := by kernel_rfl
theorem vc_np_5 (a b : Int) (β : Bs) (N : Kt) (ex : Nat → Kt → Prop) : roundJ Try.prog toldB 100 20 β (fun _ => 20) (cnOf 0 fun _ => []) ex 4 0 0 lvN (FN a b 5) (mkS []) N =
  N (AX.exit (0 : Nat)) (mkF (140 : Nat) []) (mkS []) := by kernel_rfl
end Go.Proofs.Ytaomflhkclljdaa.Ev
