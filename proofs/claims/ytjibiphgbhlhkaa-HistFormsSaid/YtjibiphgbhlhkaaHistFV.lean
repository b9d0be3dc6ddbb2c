/-
  What has to hold: printed by the evaluator.
-/
import Derived.Test.YtjibiphgbhlhkaaHistS
set_option linter.unusedVariables false
set_option maxRecDepth 1000000
namespace Go.Proofs.Ytjibiphgbhlhkaa.Ev
open Go Go.Proofs
def exH : Nat → Kt → Prop := fun b K => K (.exit b) (mkF 167 []) (mkS [])
theorem vc_hf (β : Bs) : lawJ Try.prog toldB 100 60 β (fun _ => 0) (cnOf 0 fun _ => [9, 10, 11]) exH 5 [] st0 trueV =
(  LoopJ Try.prog β exH 0 (loopOf Try.prog 5 0)
  (mkF 167
  [(9, Value.slice (some (Addr.mk 0 0 none)) 22 22),
  (10, Value.slice (some (Addr.mk 45 0 none)) 22 22),
  (11, Value.int IntKind.i64 (0 : Int))])
  (mkS
  [some
  (AObj.cells
  [Value.slice (some (Addr.mk 1 0 none)) 0 0,
  Value.slice (some (Addr.mk 2 0 none)) 5 5,
  Value.slice (some (Addr.mk 8 0 none)) 5 5,
  Value.slice (some (Addr.mk 10 0 none)) 5 5,
  Value.slice (some (Addr.mk 12 0 none)) 5 5,
  Value.slice (some (Addr.mk 14 0 none)) 5 5,
  Value.slice (some (Addr.mk 16 0 none)) 4 4,
  Value.slice (some (Addr.mk 18 0 none)) 5 5,
  Value.slice (some (Addr.mk 20 0 none)) 5 5,
  Value.slice (some (Addr.mk 22 0 none)) 3 3,
  Value.slice (some (Addr.mk 24 0 none)) 4 4,
  Value.slice (some (Addr.mk 27 0 none)) 4 4,
  Value.slice (some (Addr.mk 29 0 none)) 4 4,
  Value.slice (some (Addr.mk 31 0 none)) 6 6,
  Value.slice (some (Addr.mk 33 0 none)) 4 4,
  Value.slice (some (Addr.mk 36 0 none)) 2 2,
  Value.slice (some (Addr.mk 37 0 none)) 2 2,
  Value.slice (some (Addr.mk 39 0 none)) 3 3,
  Value.slice (some (Addr.mk 40 0 none)) 3 3,
  Value.slice (some (Addr.mk 41 0 none)) 3 3,
  Value.slice (some (Addr.mk 42 0 none)) 3 3,
  Value.slice (some (Addr.mk 44 0 none)) 1 1]
  true 0),
  some (AObj.cells [] true 0),
  some
  (AObj.cells
  [Value.int IntKind.i64 (3 : Int), Value.int IntKind.i64 (0 : Int), Value.int IntKind.i64 (0 : Int),
  Value.bool false, Value.int IntKind.i64 (0 : Int), Value.slice none 0 0,
  Value.slice none 0 0,
  Value.slice (some (Addr.mk 3 0 none)) 2 2,
  Value.int IntKind.i64 (1 : Int), Value.int IntKind.i64 (0 : Int), Value.int IntKind.i64 (1 : Int),
  Value.bool true, Value.int IntKind.i64 (0 : Int),
  Value.slice (some (Addr.mk 4 0 none)) 2 2,
  Value.slice (some (Addr.mk 5 0 none)) 2 2,
  Value.slice none 0 0, Value.int IntKind.i64 (2 : Int), Value.int IntKind.i64 (0 : Int),
  Value.int IntKind.i64 (1 : Int), Value.bool false, Value.int IntKind.i64 (0 : Int),
  Value.slice none 0 0, Value.slice none 0 0,
  Value.slice none 0 0, Value.int IntKind.i64 (1 : Int), Value.int IntKind.i64 (0 : Int),
  Value.int IntKind.i64 (2 : Int), Value.bool false, Value.int IntKind.i64 (0 : Int),
  Value.slice (some (Addr.mk 6 0 none)) 2 2,
  Value.slice none 0 0, Value.slice none 0 0,
  Value.int IntKind.i64 (2 : Int), Value.int IntKind.i64 (0 : Int), Value.int IntKind.i64 (2 : Int),
  Value.bool false, Value.int IntKind.i64 (0 : Int), Value.slice none 0 0,
  Value.slice (some (Addr.mk 7 0 none)) 2 2,
  Value.slice none 0 0]
  true 0),
  some
  (AObj.cells
  [Value.int IntKind.i64 (2 : Int), Value.int IntKind.i64 (0 : Int), Value.float FloatKind.f64 0,
  Value.int IntKind.i64 (2 : Int), Value.int IntKind.i64 (0 : Int), Value.float FloatKind.f64 0]
  true 0),
  some (AObj.cells [Value.int IntKind.i64 (0 : Int), Value.int IntKind.i64 (1 : Int)] true 0),
  some
  (AObj.cells
  [Value.int IntKind.i64 (2 : Int), Value.int IntKind.i64 (5 : Int), Value.float FloatKind.f64 0,
  Value.int IntKind.i64 (2 : Int), Value.int IntKind.i64 (6 : Int), Value.float FloatKind.f64 0]
  true 0),
  some (AObj.cells [Value.int IntKind.i64 (0 : Int), Value.int IntKind.i64 (1 : Int)] true 0),
  some
  (AObj.cells
  [Value.int IntKind.i64 (2 : Int), Value.int IntKind.i64 (5 : Int), Value.float FloatKind.f64 0,
  Value.int IntKind.i64 (2 : Int), Value.int IntKind.i64 (6 : Int), Value.float FloatKind.f64 0]
  true 0),
  some
  (AObj.cells
  [Value.int IntKind.i64 (3 : Int), Value.int IntKind.i64 (0 : Int), Value.int IntKind.i64 (0 : Int),
  Value.bool false, Value.int IntKind.i64 (0 : Int), Value.slice none 0 0,
  Value.slice none 0 0,
  Value.slice (some (Addr.mk 3 0 none)) 2 2,
  Value.int IntKind.i64 (1 : Int), Value.int IntKind.i64 (0 : Int), Value.int IntKind.i64 (1 : Int),
  Value.bool true, Value.int IntKind.i64 (0 : Int),
  Value.slice (some (Addr.mk 4 0 none)) 2 2,
  Value.slice (some (Addr.mk 5 0 none)) 2 2,
  Value.slice none 0 0, Value.int IntKind.i64 (2 : Int), Value.int IntKind.i64 (0 : Int),
  Value.int IntKind.i64 (1 : Int), Value.bool false, Value.int IntKind.i64 (0 : Int),
  Value.slice none 0 0, Value.slice none 0 0,
  Value.slice none 0 0, Value.int IntKind.i64 (1 : Int), Value.int IntKind.i64 (0 : Int),
  Value.int IntKind.i64 (2 : Int), Value.bool false, Value.int IntKind.i64 (0 : Int),
  Value.slice (some (Addr.mk 6 0 none)) 2 2,
  Value.slice none 0 0, Value.slice none 0 0,
  Value.int IntKind.i64 (2 : Int), Value.int IntKind.i64 (0 : Int), Value.int IntKind.i64 (2 : Int),
  Value.bool false, Value.int IntKind.i64 (0 : Int), Value.slice none 0 0,
  Value.slice (some (Addr.mk 9 0 none)) 2 2,
  Value.slice none 0 0]
  true 0),
  some
  (AObj.cells
  [Value.int IntKind.i64 (2 : Int), Value.int IntKind.i64 (0 : Int), Value.float FloatKind.f64 0,
  Value.int IntKind.i64 (2 : Int), Value.int IntKind.i64 (0 : Int), Value.float FloatKind.f64 0]
  true 0),
  some
  (AObj.cells
  [Value.int IntKind.i64 (3 : Int), Value.int IntKind.i64 (0 : Int), Value.int IntKind.i64 (0 : Int),
  Value.bool false, Value.int IntKind.i64 (0 : Int), Value.slice none 0 0,
  Value.slice none 0 0,
  Value.slice (some (Addr.mk 3 0 none)) 2 2,
  Value.int IntKind.i64 (1 : Int), Value.int IntKind.i64 (0 : Int), Value.int IntKind.i64 (1 : Int),
  Value.bool true, Value.int IntKind.i64 (0 : Int),
  Value.slice (some (Addr.mk 4 0 none)) 2 2,
  Value.slice (some (Addr.mk 5 0 none)) 2 2,
  Value.slice none 0 0, Value.int IntKind.i64 (1 : Int), Value.int IntKind.i64 (0 : Int),
  Value.int IntKind.i64 (2 : Int), Value.bool false, Value.int IntKind.i64 (0 : Int),
  Value.slice (some (Addr.mk 6 0 none)) 2 2,
  Value.slice none 0 0, Value.slice none 0 0,
  Value.int IntKind.i64 (2 : Int), Value.int IntKind.i64 (0 : Int), Value.int IntKind.i64 (2 : Int),
  Value.bool false, Value.int IntKind.i64 (0 : Int), Value.slice none 0 0,
  Value.slice (some (Addr.mk 11 0 none)) 2 2,
  Value.slice none 0 0, Value.int IntKind.i64 (2 : Int), Value.int IntKind.i64 (0 : Int),
  Value.int IntKind.i64 (1 : Int), Value.bool false, Value.int IntKind.i64 (0 : Int),
  Value.slice none 0 0, Value.slice none 0 0,
  Value.slice none 0 0]
  true 0),
  some
  (AObj.cells
  [Value.int IntKind.i64 (2 : Int), Value.int IntKind.i64 (0 : Int), Value.float FloatKind.f64 0,
  Value.int IntKind.i64 (2 : Int), Value.int IntKind.i64 (0 : Int), Value.float FloatKind.f64 0]
  true 0),
  some
  (AObj.cells
  [Value.int IntKind.i64 (3 : Int), Value.int IntKind.i64 (0 : Int), Value.int IntKind.i64 (0 : Int),
  Value.bool false, Value.int IntKind.i64 (0 : Int), Value.slice none 0 0,
  Value.slice none 0 0,
  Value.slice (some (Addr.mk 3 0 none)) 2 2,
  Value.int IntKind.i64 (1 : Int), Value.int IntKind.i64 (0 : Int), Value.int IntKind.i64 (1 : Int),
  Value.bool true, Value.int IntKind.i64 (0 : Int),
  Value.slice (some (Addr.mk 4 0 none)) 2 2,
  Value.slice (some (Addr.mk 5 0 none)) 2 2,
  Value.slice none 0 0, Value.int IntKind.i64 (1 : Int), Value.int IntKind.i64 (0 : Int),
  Value.int IntKind.i64 (2 : Int), Value.bool false, Value.int IntKind.i64 (0 : Int),
  Value.slice (some (Addr.mk 6 0 none)) 2 2,
  Value.slice none 0 0, Value.slice none 0 0,
  Value.int IntKind.i64 (2 : Int), Value.int IntKind.i64 (0 : Int), Value.int IntKind.i64 (2 : Int),
  Value.bool false, Value.int IntKind.i64 (0 : Int), Value.slice none 0 0,
  Value.slice (some (Addr.mk 13 0 none)) 2 2,
  Value.slice none 0 0, Value.int IntKind.i64 (2 : Int), Value.int IntKind.i64 (0 : Int),
  Value.int IntKind.i64 (1 : Int), Value.bool false, Value.int IntKind.i64 (0 : Int),
  Value.slice none 0 0, Value.slice none 0 0,
  Value.slice none 0 0]
  true 0),
  some
  (AObj.cells
  [Value.int IntKind.i64 (2 : Int), Value.int IntKind.i64 (5 : Int), Value.float FloatKind.f64 0,
  Value.int IntKind.i64 (2 : Int), Value.int IntKind.i64 (6 : Int), Value.float FloatKind.f64 0]
  true 0),
  some
  (AObj.cells
  [Value.int IntKind.i64 (3 : Int), Value.int IntKind.i64 (0 : Int), Value.int IntKind.i64 (0 : Int),
  Value.bool false, Value.int IntKind.i64 (0 : Int), Value.slice none 0 0,
  Value.slice none 0 0,
  Value.slice (some (Addr.mk 3 0 none)) 2 2,
  Value.int IntKind.i64 (1 : Int), Value.int IntKind.i64 (0 : Int), Value.int IntKind.i64 (1 : Int),
  Value.bool true, Value.int IntKind.i64 (0 : Int),
  Value.slice (some (Addr.mk 4 0 none)) 2 2,
  Value.slice (some (Addr.mk 5 0 none)) 2 2,
  Value.slice none 0 0, Value.int IntKind.i64 (1 : Int), Value.int IntKind.i64 (0 : Int),
  Value.int IntKind.i64 (2 : Int), Value.bool false, Value.int IntKind.i64 (0 : Int),
  Value.slice (some (Addr.mk 6 0 none)) 2 2,
  Value.slice none 0 0, Value.slice none 0 0,
  Value.int IntKind.i64 (2 : Int), Value.int IntKind.i64 (0 : Int), Value.int IntKind.i64 (2 : Int),
  Value.bool false, Value.int IntKind.i64 (0 : Int), Value.slice none 0 0,
  Value.slice (some (Addr.mk 15 0 none)) 2 2,
  Value.slice none 0 0, Value.int IntKind.i64 (2 : Int), Value.int IntKind.i64 (0 : Int),
  Value.int IntKind.i64 (1 : Int), Value.bool false, Value.int IntKind.i64 (0 : Int),
  Value.slice none 0 0, Value.slice none 0 0,
  Value.slice none 0 0]
  true 0),
  some
  (AObj.cells
  [Value.int IntKind.i64 (2 : Int), Value.int IntKind.i64 (5 : Int), Value.float FloatKind.f64 0,
  Value.int IntKind.i64 (2 : Int), Value.int IntKind.i64 (0 : Int), Value.float FloatKind.f64 0]
  true 0),
  some
  (AObj.cells
  [Value.int IntKind.i64 (3 : Int), Value.int IntKind.i64 (0 : Int), Value.int IntKind.i64 (0 : Int),
  Value.bool false, Value.int IntKind.i64 (0 : Int), Value.slice none 0 0,
  Value.slice none 0 0,
  Value.slice (some (Addr.mk 3 0 none)) 2 2,
  Value.int IntKind.i64 (1 : Int), Value.int IntKind.i64 (0 : Int), Value.int IntKind.i64 (1 : Int),
  Value.bool true, Value.int IntKind.i64 (0 : Int),
  Value.slice (some (Addr.mk 4 0 none)) 2 2,
  Value.slice (some (Addr.mk 5 0 none)) 2 2,
  Value.slice none 0 0, Value.int IntKind.i64 (1 : Int), Value.int IntKind.i64 (0 : Int),
  Value.int IntKind.i64 (2 : Int), Value.bool false, Value.int IntKind.i64 (0 : Int),
  Value.slice (some (Addr.mk 6 0 none)) 2 2,
  Value.slice none 0 0, Value.slice none 0 0,
  Value.int IntKind.i64 (2 : Int), Value.int IntKind.i64 (0 : Int), Value.int IntKind.i64 (2 : Int),
  Value.bool false, Value.int IntKind.i64 (0 : Int), Value.slice none 0 0,
  Value.slice (some (Addr.mk 17 0 none)) 2 2,
  Value.slice none 0 0]
  true 0),
  some
  (AObj.cells
  [Value.int IntKind.i64 (2 : Int), Value.int IntKind.i64 (5 : Int), Value.float FloatKind.f64 0,
  Value.int IntKind.i64 (2 : Int), Value.int IntKind.i64 (6 : Int), Value.float FloatKind.f64 0]
  true 0),
  some
  (AObj.cells
  [Value.int IntKind.i64 (3 : Int), Value.int IntKind.i64 (0 : Int), Value.int IntKind.i64 (0 : Int),
  Value.bool false, Value.int IntKind.i64 (0 : Int), Value.slice none 0 0,
  Value.slice none 0 0,
  Value.slice (some (Addr.mk 3 0 none)) 2 2,
  Value.int IntKind.i64 (1 : Int), Value.int IntKind.i64 (0 : Int), Value.int IntKind.i64 (1 : Int),
  Value.bool true, Value.int IntKind.i64 (0 : Int),
  Value.slice (some (Addr.mk 4 0 none)) 2 2,
  Value.slice (some (Addr.mk 5 0 none)) 2 2,
  Value.slice none 0 0, Value.int IntKind.i64 (2 : Int), Value.int IntKind.i64 (0 : Int),
  Value.int IntKind.i64 (1 : Int), Value.bool false, Value.int IntKind.i64 (10 : Int),
  Value.slice none 0 0, Value.slice none 0 0,
  Value.slice none 0 0, Value.int IntKind.i64 (1 : Int), Value.int IntKind.i64 (0 : Int),
  Value.int IntKind.i64 (2 : Int), Value.bool false, Value.int IntKind.i64 (0 : Int),
  Value.slice (some (Addr.mk 6 0 none)) 2 2,
  Value.slice none 0 0, Value.slice none 0 0,
  Value.int IntKind.i64 (2 : Int), Value.int IntKind.i64 (0 : Int), Value.int IntKind.i64 (2 : Int),
  Value.bool false, Value.int IntKind.i64 (0 : Int), Value.slice none 0 0,
  Value.slice (some (Addr.mk 19 0 none)) 2 2,
  Value.slice none 0 0]
  true 0),
  some
  (AObj.cells
  [Value.int IntKind.i64 (2 : Int), Value.int IntKind.i64 (5 : Int), Value.float FloatKind.f64 0,
  Value.int IntKind.i64 (2 : Int), Value.int IntKind.i64 (6 : Int), Value.float FloatKind.f64 0]
  true 0),
  some
  (AObj.cells
  [Value.int IntKind.i64 (3 : Int), Value.int IntKind.i64 (0 : Int), Value.int IntKind.i64 (0 : Int),
  Value.bool false, Value.int IntKind.i64 (0 : Int), Value.slice none 0 0,
  Value.slice none 0 0,
  Value.slice (some (Addr.mk 3 0 none)) 2 2,
  Value.int IntKind.i64 (1 : Int), Value.int IntKind.i64 (0 : Int), Value.int IntKind.i64 (1 : Int),
  Value.bool true, Value.int IntKind.i64 (0 : Int),
  Value.slice (some (Addr.mk 4 0 none)) 2 2,
  Value.slice (some (Addr.mk 5 0 none)) 2 2,
  Value.slice none 0 0, Value.int IntKind.i64 (2 : Int), Value.int IntKind.i64 (0 : Int),
  Value.int IntKind.i64 (1 : Int), Value.bool false, Value.int IntKind.i64 (10 : Int),
  Value.slice none 0 0, Value.slice none 0 0,
  Value.slice none 0 0, Value.int IntKind.i64 (1 : Int), Value.int IntKind.i64 (0 : Int),
  Value.int IntKind.i64 (2 : Int), Value.bool false, Value.int IntKind.i64 (0 : Int),
  Value.slice (some (Addr.mk 6 0 none)) 2 2,
  Value.slice none 0 0, Value.slice none 0 0,
  Value.int IntKind.i64 (2 : Int), Value.int IntKind.i64 (0 : Int), Value.int IntKind.i64 (2 : Int),
  Value.bool false, Value.int IntKind.i64 (0 : Int), Value.slice none 0 0,
  Value.slice (some (Addr.mk 21 0 none)) 2 2,
  Value.slice none 0 0]
  true 0),
  some
  (AObj.cells
  [Value.int IntKind.i64 (2 : Int), Value.int IntKind.i64 (0 : Int), Value.float FloatKind.f64 0,
  Value.int IntKind.i64 (2 : Int), Value.int IntKind.i64 (0 : Int), Value.float FloatKind.f64 0]
  true 0),
  some
  (AObj.cells
  [Value.int IntKind.i64 (1 : Int), Value.int IntKind.i64 (0 : Int), Value.int IntKind.i64 (2 : Int),
  Value.bool false, Value.int IntKind.i64 (0 : Int),
  Value.slice (some (Addr.mk 6 0 none)) 2 2,
  Value.slice none 0 0, Value.slice none 0 0,
  Value.int IntKind.i64 (3 : Int), Value.int IntKind.i64 (0 : Int), Value.int IntKind.i64 (0 : Int),
  Value.bool false, Value.int IntKind.i64 (0 : Int), Value.slice none 0 0,
  Value.slice none 0 0,
  Value.slice (some (Addr.mk 3 0 none)) 2 2,
  Value.int IntKind.i64 (2 : Int), Value.int IntKind.i64 (0 : Int), Value.int IntKind.i64 (2 : Int),
  Value.bool false, Value.int IntKind.i64 (0 : Int), Value.slice none 0 0,
  Value.slice (some (Addr.mk 23 0 none)) 2 2,
  Value.slice none 0 0]
  true 0),
  some
  (AObj.cells
  [Value.int IntKind.i64 (2 : Int), Value.int IntKind.i64 (0 : Int), Value.float FloatKind.f64 0,
  Value.int IntKind.i64 (2 : Int), Value.int IntKind.i64 (0 : Int), Value.float FloatKind.f64 0]
  true 0),
  some
  (AObj.cells
  [Value.int IntKind.i64 (3 : Int), Value.int IntKind.i64 (0 : Int), Value.int IntKind.i64 (0 : Int),
  Value.bool false, Value.int IntKind.i64 (0 : Int), Value.slice none 0 0,
  Value.slice none 0 0,
  Value.slice (some (Addr.mk 3 0 none)) 2 2,
  Value.int IntKind.i64 (1 : Int), Value.int IntKind.i64 (0 : Int), Value.int IntKind.i64 (2 : Int),
  Value.bool false, Value.int IntKind.i64 (0 : Int),
  Value.slice (some (Addr.mk 6 0 none)) 2 2,
  Value.slice none 0 0, Value.slice none 0 0,
  Value.int IntKind.i64 (3 : Int), Value.int IntKind.i64 (0 : Int), Value.int IntKind.i64 (0 : Int),
  Value.bool false, Value.int IntKind.i64 (0 : Int), Value.slice none 0 0,
  Value.slice none 0 0,
  Value.slice (some (Addr.mk 25 0 none)) 2 2,
  Value.int IntKind.i64 (2 : Int), Value.int IntKind.i64 (0 : Int), Value.int IntKind.i64 (2 : Int),
  Value.bool false, Value.int IntKind.i64 (0 : Int), Value.slice none 0 0,
  Value.slice (some (Addr.mk 26 0 none)) 2 2,
  Value.slice none 0 0]
  true 0),
  some
  (AObj.cells
  [Value.int IntKind.i64 (2 : Int), Value.int IntKind.i64 (1 : Int), Value.float FloatKind.f64 0,
  Value.int IntKind.i64 (2 : Int), Value.int IntKind.i64 (1 : Int), Value.float FloatKind.f64 0]
  true 0),
  some
  (AObj.cells
  [Value.int IntKind.i64 (2 : Int), Value.int IntKind.i64 (0 : Int), Value.float FloatKind.f64 0,
  Value.int IntKind.i64 (2 : Int), Value.int IntKind.i64 (0 : Int), Value.float FloatKind.f64 0]
  true 0),
  some
  (AObj.cells
  [Value.int IntKind.i64 (3 : Int), Value.int IntKind.i64 (0 : Int), Value.int IntKind.i64 (0 : Int),
  Value.bool false, Value.int IntKind.i64 (0 : Int), Value.slice none 0 0,
  Value.slice none 0 0,
  Value.slice (some (Addr.mk 3 0 none)) 2 2,
  Value.int IntKind.i64 (1 : Int), Value.int IntKind.i64 (0 : Int), Value.int IntKind.i64 (2 : Int),
  Value.bool false, Value.int IntKind.i64 (0 : Int),
  Value.slice (some (Addr.mk 6 0 none)) 2 2,
  Value.slice none 0 0, Value.slice none 0 0,
  Value.int IntKind.i64 (3 : Int), Value.int IntKind.i64 (0 : Int), Value.int IntKind.i64 (0 : Int),
  Value.bool false, Value.int IntKind.i64 (0 : Int), Value.slice none 0 0,
  Value.slice none 0 0,
  Value.slice (some (Addr.mk 25 0 none)) 2 2,
  Value.int IntKind.i64 (2 : Int), Value.int IntKind.i64 (0 : Int), Value.int IntKind.i64 (2 : Int),
  Value.bool false, Value.int IntKind.i64 (0 : Int), Value.slice none 0 0,
  Value.slice (some (Addr.mk 28 0 none)) 2 2,
  Value.slice none 0 0]
  true 0),
  some
  (AObj.cells
  [Value.int IntKind.i64 (2 : Int), Value.int IntKind.i64 (1 : Int), Value.float FloatKind.f64 0,
  Value.int IntKind.i64 (2 : Int), Value.int IntKind.i64 (1 : Int), Value.float FloatKind.f64 0]
  true 0),
  some
  (AObj.cells
  [Value.int IntKind.i64 (3 : Int), Value.int IntKind.i64 (0 : Int), Value.int IntKind.i64 (0 : Int),
  Value.bool false, Value.int IntKind.i64 (0 : Int), Value.slice none 0 0,
  Value.slice none 0 0,
  Value.slice (some (Addr.mk 3 0 none)) 2 2,
  Value.int IntKind.i64 (1 : Int), Value.int IntKind.i64 (0 : Int), Value.int IntKind.i64 (2 : Int),
  Value.bool false, Value.int IntKind.i64 (0 : Int),
  Value.slice (some (Addr.mk 6 0 none)) 2 2,
  Value.slice none 0 0, Value.slice none 0 0,
  Value.int IntKind.i64 (3 : Int), Value.int IntKind.i64 (0 : Int), Value.int IntKind.i64 (0 : Int),
  Value.bool false, Value.int IntKind.i64 (0 : Int), Value.slice none 0 0,
  Value.slice none 0 0,
  Value.slice (some (Addr.mk 25 0 none)) 2 2,
  Value.int IntKind.i64 (2 : Int), Value.int IntKind.i64 (0 : Int), Value.int IntKind.i64 (2 : Int),
  Value.bool false, Value.int IntKind.i64 (0 : Int), Value.slice none 0 0,
  Value.slice (some (Addr.mk 30 0 none)) 2 2,
  Value.slice none 0 0]
  true 0),
  some
  (AObj.cells
  [Value.int IntKind.i64 (2 : Int), Value.int IntKind.i64 (0 : Int), Value.float FloatKind.f64 0,
  Value.int IntKind.i64 (2 : Int), Value.int IntKind.i64 (1 : Int), Value.float FloatKind.f64 0]
  true 0),
  some
  (AObj.cells
  [Value.int IntKind.i64 (3 : Int), Value.int IntKind.i64 (0 : Int), Value.int IntKind.i64 (0 : Int),
  Value.bool false, Value.int IntKind.i64 (0 : Int), Value.slice none 0 0,
  Value.slice none 0 0,
  Value.slice (some (Addr.mk 3 0 none)) 2 2,
  Value.int IntKind.i64 (1 : Int), Value.int IntKind.i64 (0 : Int), Value.int IntKind.i64 (1 : Int),
  Value.bool true, Value.int IntKind.i64 (0 : Int),
  Value.slice (some (Addr.mk 4 0 none)) 2 2,
  Value.slice (some (Addr.mk 5 0 none)) 2 2,
  Value.slice none 0 0, Value.int IntKind.i64 (2 : Int), Value.int IntKind.i64 (0 : Int),
  Value.int IntKind.i64 (1 : Int), Value.bool false, Value.int IntKind.i64 (0 : Int),
  Value.slice none 0 0, Value.slice none 0 0,
  Value.slice none 0 0, Value.int IntKind.i64 (3 : Int), Value.int IntKind.i64 (0 : Int),
  Value.int IntKind.i64 (0 : Int), Value.bool false, Value.int IntKind.i64 (0 : Int),
  Value.slice none 0 0, Value.slice none 0 0,
  Value.slice (some (Addr.mk 25 0 none)) 2 2,
  Value.int IntKind.i64 (1 : Int), Value.int IntKind.i64 (0 : Int), Value.int IntKind.i64 (2 : Int),
  Value.bool false, Value.int IntKind.i64 (0 : Int),
  Value.slice (some (Addr.mk 6 0 none)) 2 2,
  Value.slice none 0 0, Value.slice none 0 0,
  Value.int IntKind.i64 (2 : Int), Value.int IntKind.i64 (0 : Int), Value.int IntKind.i64 (2 : Int),
  Value.bool false, Value.int IntKind.i64 (0 : Int), Value.slice none 0 0,
  Value.slice (some (Addr.mk 32 0 none)) 2 2,
  Value.slice none 0 0]
  true 0),
  some
  (AObj.cells
  [Value.int IntKind.i64 (2 : Int), Value.int IntKind.i64 (5 : Int), Value.float FloatKind.f64 0,
  Value.int IntKind.i64 (2 : Int), Value.int IntKind.i64 (6 : Int), Value.float FloatKind.f64 0]
  true 0),
  some
  (AObj.cells
  [Value.int IntKind.i64 (3 : Int), Value.int IntKind.i64 (0 : Int), Value.int IntKind.i64 (0 : Int),
  Value.bool false, Value.int IntKind.i64 (0 : Int), Value.slice none 0 0,
  Value.slice none 0 0,
  Value.slice (some (Addr.mk 3 0 none)) 2 2,
  Value.int IntKind.i64 (1 : Int), Value.int IntKind.i64 (0 : Int), Value.int IntKind.i64 (2 : Int),
  Value.bool false, Value.int IntKind.i64 (0 : Int),
  Value.slice (some (Addr.mk 6 0 none)) 2 2,
  Value.slice none 0 0, Value.slice none 0 0,
  Value.int IntKind.i64 (2 : Int), Value.int IntKind.i64 (0 : Int), Value.int IntKind.i64 (2 : Int),
  Value.bool false, Value.int IntKind.i64 (0 : Int), Value.slice none 0 0,
  Value.slice (some (Addr.mk 34 0 none)) 2 2,
  Value.slice none 0 0, Value.int IntKind.i64 (2 : Int), Value.int IntKind.i64 (0 : Int),
  Value.int IntKind.i64 (2 : Int), Value.bool false, Value.int IntKind.i64 (0 : Int),
  Value.slice none 0 0,
  Value.slice (some (Addr.mk 35 0 none)) 2 2,
  Value.slice none 0 0]
  true 0),
  some
  (AObj.cells
  [Value.int IntKind.i64 (2 : Int), Value.int IntKind.i64 (0 : Int), Value.float FloatKind.f64 0,
  Value.int IntKind.i64 (2 : Int), Value.int IntKind.i64 (0 : Int), Value.float FloatKind.f64 0]
  true 0),
  some
  (AObj.cells
  [Value.int IntKind.i64 (2 : Int), Value.int IntKind.i64 (0 : Int), Value.float FloatKind.f64 0,
  Value.int IntKind.i64 (2 : Int), Value.int IntKind.i64 (0 : Int), Value.float FloatKind.f64 0]
  true 0),
  some
  (AObj.cells
  [Value.int IntKind.i64 (3 : Int), Value.int IntKind.i64 (0 : Int), Value.int IntKind.i64 (0 : Int),
  Value.bool false, Value.int IntKind.i64 (0 : Int), Value.slice none 0 0,
  Value.slice none 0 0,
  Value.slice (some (Addr.mk 3 0 none)) 2 2,
  Value.int IntKind.i64 (2 : Int), Value.int IntKind.i64 (0 : Int), Value.int IntKind.i64 (1 : Int),
  Value.bool false, Value.int IntKind.i64 (0 : Int), Value.slice none 0 0,
  Value.slice none 0 0, Value.slice none 0 0]
  true 0),
  some
  (AObj.cells
  [Value.int IntKind.i64 (1 : Int), Value.int IntKind.i64 (0 : Int), Value.int IntKind.i64 (2 : Int),
  Value.bool false, Value.int IntKind.i64 (0 : Int),
  Value.slice (some (Addr.mk 6 0 none)) 2 2,
  Value.slice none 0 0, Value.slice none 0 0,
  Value.int IntKind.i64 (2 : Int), Value.int IntKind.i64 (0 : Int), Value.int IntKind.i64 (2 : Int),
  Value.bool false, Value.int IntKind.i64 (0 : Int), Value.slice none 0 0,
  Value.slice (some (Addr.mk 38 0 none)) 2 2,
  Value.slice none 0 0]
  true 0),
  some
  (AObj.cells
  [Value.int IntKind.i64 (2 : Int), Value.int IntKind.i64 (0 : Int), Value.float FloatKind.f64 0,
  Value.int IntKind.i64 (2 : Int), Value.int IntKind.i64 (0 : Int), Value.float FloatKind.f64 0]
  true 0),
  some
  (AObj.cells
  [Value.int IntKind.i64 (3 : Int), Value.int IntKind.i64 (0 : Int), Value.int IntKind.i64 (0 : Int),
  Value.bool false, Value.int IntKind.i64 (0 : Int), Value.slice none 0 0,
  Value.slice none 0 0,
  Value.slice (some (Addr.mk 3 0 none)) 2 2,
  Value.int IntKind.i64 (1 : Int), Value.int IntKind.i64 (0 : Int), Value.int IntKind.i64 (1 : Int),
  Value.bool true, Value.int IntKind.i64 (0 : Int),
  Value.slice (some (Addr.mk 4 0 none)) 2 2,
  Value.slice (some (Addr.mk 5 0 none)) 2 2,
  Value.slice none 0 0, Value.int IntKind.i64 (1 : Int), Value.int IntKind.i64 (0 : Int),
  Value.int IntKind.i64 (1 : Int), Value.bool true, Value.int IntKind.i64 (0 : Int),
  Value.slice (some (Addr.mk 4 0 none)) 2 2,
  Value.slice (some (Addr.mk 5 0 none)) 2 2,
  Value.slice none 0 0]
  true 0),
  some
  (AObj.cells
  [Value.int IntKind.i64 (3 : Int), Value.int IntKind.i64 (0 : Int), Value.int IntKind.i64 (0 : Int),
  Value.bool false, Value.int IntKind.i64 (0 : Int), Value.slice none 0 0,
  Value.slice none 0 0,
  Value.slice (some (Addr.mk 3 0 none)) 2 2,
  Value.int IntKind.i64 (3 : Int), Value.int IntKind.i64 (0 : Int), Value.int IntKind.i64 (0 : Int),
  Value.bool false, Value.int IntKind.i64 (0 : Int), Value.slice none 0 0,
  Value.slice none 0 0,
  Value.slice (some (Addr.mk 25 0 none)) 2 2,
  Value.int IntKind.i64 (3 : Int), Value.int IntKind.i64 (0 : Int), Value.int IntKind.i64 (0 : Int),
  Value.bool false, Value.int IntKind.i64 (0 : Int), Value.slice none 0 0,
  Value.slice none 0 0,
  Value.slice (some (Addr.mk 3 0 none)) 1 2]
  true 0),
  some
  (AObj.cells
  [Value.int IntKind.i64 (3 : Int), Value.int IntKind.i64 (0 : Int), Value.int IntKind.i64 (0 : Int),
  Value.bool false, Value.int IntKind.i64 (0 : Int), Value.slice none 0 0,
  Value.slice none 0 0,
  Value.slice (some (Addr.mk 3 0 none)) 2 2,
  Value.int IntKind.i64 (1 : Int), Value.int IntKind.i64 (0 : Int), Value.int IntKind.i64 (2 : Int),
  Value.bool false, Value.int IntKind.i64 (0 : Int),
  Value.slice (some (Addr.mk 6 0 none)) 2 2,
  Value.slice none 0 0, Value.slice none 0 0,
  Value.int IntKind.i64 (2 : Int), Value.int IntKind.i64 (0 : Int), Value.int IntKind.i64 (2 : Int),
  Value.bool false, Value.int IntKind.i64 (0 : Int), Value.slice none 0 0,
  Value.slice (some (Addr.mk 3 0 none)) 1 2,
  Value.slice none 0 0]
  true 0),
  some
  (AObj.cells
  [Value.int IntKind.i64 (3 : Int), Value.int IntKind.i64 (0 : Int), Value.int IntKind.i64 (0 : Int),
  Value.bool false, Value.int IntKind.i64 (0 : Int), Value.slice none 0 0,
  Value.slice none 0 0,
  Value.slice (some (Addr.mk 3 0 none)) 2 2,
  Value.int IntKind.i64 (1 : Int), Value.int IntKind.i64 (0 : Int), Value.int IntKind.i64 (2 : Int),
  Value.bool false, Value.int IntKind.i64 (0 : Int),
  Value.slice (some (Addr.mk 43 0 none)) 1 1,
  Value.slice none 0 0, Value.slice none 0 0,
  Value.int IntKind.i64 (2 : Int), Value.int IntKind.i64 (0 : Int), Value.int IntKind.i64 (2 : Int),
  Value.bool false, Value.int IntKind.i64 (0 : Int), Value.slice none 0 0,
  Value.slice (some (Addr.mk 3 0 none)) 1 2,
  Value.slice none 0 0]
  true 0),
  some (AObj.cells [Value.int IntKind.i64 (7 : Int)] true 0),
  some
  (AObj.cells
  [Value.int IntKind.i64 (9 : Int), Value.int IntKind.i64 (0 : Int), Value.int IntKind.i64 (0 : Int),
  Value.bool false, Value.int IntKind.i64 (0 : Int), Value.slice none 0 0,
  Value.slice none 0 0, Value.slice none 0 0]
  true 0),
  some
  (AObj.cells
  [Value.bool true, Value.bool true, Value.bool false, Value.bool true, Value.bool true, Value.bool false,
  Value.bool true, Value.bool false, Value.bool true, Value.bool true, Value.bool true, Value.bool true,
  Value.bool false, Value.bool false, Value.bool false, Value.bool false, Value.bool false,
  Value.bool false, Value.bool false, Value.bool false, Value.bool false, Value.bool false]
  true 0)]) ∧
  True) := by kernel_rfl
end Go.Proofs.Ytjibiphgbhlhkaa.Ev
