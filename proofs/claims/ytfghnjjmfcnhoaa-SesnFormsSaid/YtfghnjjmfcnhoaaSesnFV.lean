/-
  What has to hold: printed by the evaluator.
-/
import Derived.Test.YtfghnjjmfcnhoaaSesnFS
set_option linter.unusedVariables false
set_option maxRecDepth 1000000
namespace Go.Proofs.Ytfghnjjmfcnhoaa.Ev
open Go Go.Proofs
theorem vc_sf (β : Bs) : lawJ Try.prog toldB 100 60 β (fun _ => 0) (cnOf 0 fun _ => [2, 3, 4]) exS 3 [] st0 trueV =
(  LoopJ Try.prog β exS 0 (loopOf Try.prog 3 0)
  (mkF 118
  [(2, Value.slice (some (Addr.mk 0 0 none)) 26 26),
  (3, Value.pointer (some (Addr.mk 1 0 none))),
  (4, Value.int IntKind.i64 (0 : Int))])
  (mkS
  [some
  (AObj.cells
  [Value.int IntKind.u8 (0 : Int), Value.int IntKind.u8 (20 : Int), Value.int IntKind.u8 (5 : Int),
  Value.int IntKind.u8 (0 : Int), Value.int IntKind.u8 (1 : Int), Value.int IntKind.u8 (0 : Int),
  Value.int IntKind.u8 (2 : Int), Value.int IntKind.u8 (0 : Int), Value.int IntKind.u8 (0 : Int),
  Value.int IntKind.u8 (0 : Int), Value.int IntKind.u8 (0 : Int), Value.int IntKind.u8 (0 : Int),
  Value.int IntKind.u8 (0 : Int), Value.int IntKind.u8 (0 : Int), Value.int IntKind.u8 (0 : Int),
  Value.int IntKind.u8 (0 : Int), Value.int IntKind.u8 (0 : Int), Value.int IntKind.u8 (0 : Int),
  Value.int IntKind.u8 (0 : Int), Value.int IntKind.u8 (0 : Int), Value.int IntKind.u8 (0 : Int),
  Value.int IntKind.u8 (0 : Int), Value.int IntKind.u8 (178 : Int), Value.int IntKind.u8 (76 : Int),
  Value.int IntKind.u8 (228 : Int), Value.int IntKind.u8 (42 : Int)]
  false 1),
  some
  (AObj.cells
  [Value.bool true, Value.int IntKind.i64 (7 : Int), Value.slice none 0 0, Value.bool false,
  Value.slice none 0 0, Value.slice none 0 0,
  Value.slice none 0 0, Value.int IntKind.i64 (0 : Int)]
  true 0)]) ∧
  True) := by kernel_rfl
end Go.Proofs.Ytfghnjjmfcnhoaa.Ev
