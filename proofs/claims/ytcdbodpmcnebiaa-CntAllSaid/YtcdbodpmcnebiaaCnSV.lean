/-
  What has to hold: printed by the evaluator.
-/
import Derived.Test.YtcdbodpmcnebiaaCnT
set_option linter.unusedVariables false
set_option maxRecDepth 1000000
namespace Go.Proofs.Ytcdbodpmcnebiaa.Ev
open Go Go.Proofs
def l3 (x y z : Int) : List Vl := [⟨1, x, 0⟩, ⟨2, y, 0⟩, ⟨1, z, 0⟩]
def l2 (x z : Int) : List Vl := [⟨1, x, 0⟩, ⟨1, z, 0⟩]
theorem vc_csA (kind x y z pv : Int) (inn : Bool) (c : Nat) (β : Bs) (K : AE → List (Option AObj) → Prop) : lawE Try.prog toldN 100 20 β (fun _ => 0) (cnOf 1 fun _ => []) (fun _ _ => False) 10 [.int .i64 kind, .slice (some ⟨0, 0, some 0⟩) 3 c, .bool inn, .int .i64 pv] (mkS [some (rowO .look (l3 x y z))]) (outK K) =
(  br (kind == (9 : Int))
  (br inn
  (br (z == (0 : Int))
  (K (AE.returned (Value.slice (some (Addr.mk 9 0 none)) 3 3))
  [some (AObj.row Rk.look 3 0 3 (encL (l3 x y z))),
  some (AObj.cells [Value.slice (some (Addr.mk 9 0 none)) 3 3] true 0),
  some
  (AObj.cells
  [Value.int IntKind.i64 (1 : Int), Value.int IntKind.i64 (2 : Int), Value.int IntKind.i64 (1 : Int)] true
  1),
  some
  (AObj.cells [Value.int IntKind.i64 (1 : Int), Value.int IntKind.i64 x, Value.float FloatKind.f64 0]
  true 0),
  some
  (AObj.cells [Value.int IntKind.i64 (1 : Int), Value.int IntKind.i64 x, Value.float FloatKind.f64 0]
  true 0),
  some
  (AObj.cells [Value.int IntKind.i64 (2 : Int), Value.int IntKind.i64 y, Value.float FloatKind.f64 0]
  true 0),
  some
  (AObj.cells [Value.int IntKind.i64 (2 : Int), Value.int IntKind.i64 y, Value.float FloatKind.f64 0]
  true 0),
  some
  (AObj.cells [Value.int IntKind.i64 (1 : Int), Value.int IntKind.i64 z, Value.float FloatKind.f64 0]
  true 0),
  some
  (AObj.cells [Value.int IntKind.i64 (1 : Int), Value.int IntKind.i64 z, Value.float FloatKind.f64 0]
  true 0),
  some
  (AObj.cells
  [Value.int IntKind.i64 (1 : Int),
  Value.int IntKind.i64
  (one
  (decide
  ((if (32767 : Int) < IntKind.wrap IntKind.i64 (y + (1 : Int)) then (32767 : Int)
  else IntKind.wrap IntKind.i64 (y + (1 : Int))) ≥
  pv))),
  Value.float FloatKind.f64 0, Value.int IntKind.i64 (2 : Int),
  Value.int IntKind.i64
  (if (32767 : Int) < IntKind.wrap IntKind.i64 (y + (1 : Int)) then (32767 : Int)
  else IntKind.wrap IntKind.i64 (y + (1 : Int))),
  Value.float FloatKind.f64 0, Value.int IntKind.i64 (1 : Int), Value.int IntKind.i64 (one inn),
  Value.float FloatKind.f64 0]
  true 3),
  some (AObj.cells [] true 0)])
  (K (AE.returned (Value.slice (some (Addr.mk 9 0 none)) 3 3))
  [some (AObj.row Rk.look 3 0 3 (encL (l3 x y z))),
  some (AObj.cells [Value.slice (some (Addr.mk 9 0 none)) 3 3] true 0),
  some
  (AObj.cells
  [Value.int IntKind.i64 (1 : Int), Value.int IntKind.i64 (2 : Int), Value.int IntKind.i64 (1 : Int)] true
  1),
  some
  (AObj.cells [Value.int IntKind.i64 (1 : Int), Value.int IntKind.i64 x, Value.float FloatKind.f64 0]
  true 0),
  some
  (AObj.cells [Value.int IntKind.i64 (1 : Int), Value.int IntKind.i64 x, Value.float FloatKind.f64 0]
  true 0),
  some
  (AObj.cells [Value.int IntKind.i64 (2 : Int), Value.int IntKind.i64 y, Value.float FloatKind.f64 0]
  true 0),
  some
  (AObj.cells [Value.int IntKind.i64 (2 : Int), Value.int IntKind.i64 y, Value.float FloatKind.f64 0]
  true 0),
  some
  (AObj.cells [Value.int IntKind.i64 (1 : Int), Value.int IntKind.i64 z, Value.float FloatKind.f64 0]
  true 0),
  some
  (AObj.cells [Value.int IntKind.i64 (1 : Int), Value.int IntKind.i64 z, Value.float FloatKind.f64 0]
  true 0),
  some
  (AObj.cells
  [Value.int IntKind.i64 (1 : Int), Value.int IntKind.i64 (one (decide (y ≥ pv))),
  Value.float FloatKind.f64 0, Value.int IntKind.i64 (2 : Int), Value.int IntKind.i64 y,
  Value.float FloatKind.f64 0, Value.int IntKind.i64 (1 : Int), Value.int IntKind.i64 (one inn),
  Value.float FloatKind.f64 0]
  true 3),
  some (AObj.cells [] true 0)]))
  (K (AE.returned (Value.slice (some (Addr.mk 9 0 none)) 3 3))
  [some (AObj.row Rk.look 3 0 3 (encL (l3 x y z))),
  some (AObj.cells [Value.slice (some (Addr.mk 9 0 none)) 3 3] true 0),
  some
  (AObj.cells
  [Value.int IntKind.i64 (1 : Int), Value.int IntKind.i64 (2 : Int), Value.int IntKind.i64 (1 : Int)] true
  1),
  some
  (AObj.cells [Value.int IntKind.i64 (1 : Int), Value.int IntKind.i64 x, Value.float FloatKind.f64 0]
  true 0),
  some
  (AObj.cells [Value.int IntKind.i64 (1 : Int), Value.int IntKind.i64 x, Value.float FloatKind.f64 0]
  true 0),
  some
  (AObj.cells [Value.int IntKind.i64 (2 : Int), Value.int IntKind.i64 y, Value.float FloatKind.f64 0]
  true 0),
  some
  (AObj.cells [Value.int IntKind.i64 (2 : Int), Value.int IntKind.i64 y, Value.float FloatKind.f64 0]
  true 0),
  some
  (AObj.cells [Value.int IntKind.i64 (1 : Int), Value.int IntKind.i64 z, Value.float FloatKind.f64 0]
  true 0),
  some
  (AObj.cells [Value.int IntKind.i64 (1 : Int), Value.int IntKind.i64 z, Value.float FloatKind.f64 0]
  true 0),
  some
  (AObj.cells
  [Value.int IntKind.i64 (1 : Int), Value.int IntKind.i64 (one (decide (y ≥ pv))),
  Value.float FloatKind.f64 0, Value.int IntKind.i64 (2 : Int), Value.int IntKind.i64 y,
  Value.float FloatKind.f64 0, Value.int IntKind.i64 (1 : Int), Value.int IntKind.i64 (one inn),
  Value.float FloatKind.f64 0]
  true 3),
  some (AObj.cells [] true 0)]))
  (br (kind == (10 : Int))
  (br inn
  (br (z == (0 : Int))
  (br (decide (y ≤ (0 : Int)))
  (K (AE.returned (Value.slice (some (Addr.mk 9 0 none)) 3 3))
  [some (AObj.row Rk.look 3 0 3 (encL (l3 x y z))),
  some
  (AObj.cells [Value.slice (some (Addr.mk 9 0 none)) 3 3] true 0),
  some
  (AObj.cells
  [Value.int IntKind.i64 (1 : Int), Value.int IntKind.i64 (2 : Int), Value.int IntKind.i64 (1 : Int)]
  true 1),
  some
  (AObj.cells
  [Value.int IntKind.i64 (1 : Int), Value.int IntKind.i64 x, Value.float FloatKind.f64 0] true
  0),
  some
  (AObj.cells
  [Value.int IntKind.i64 (1 : Int), Value.int IntKind.i64 x, Value.float FloatKind.f64 0] true
  0),
  some
  (AObj.cells
  [Value.int IntKind.i64 (2 : Int), Value.int IntKind.i64 y, Value.float FloatKind.f64 0] true
  0),
  some
  (AObj.cells
  [Value.int IntKind.i64 (2 : Int), Value.int IntKind.i64 y, Value.float FloatKind.f64 0] true
  0),
  some
  (AObj.cells
  [Value.int IntKind.i64 (1 : Int), Value.int IntKind.i64 z, Value.float FloatKind.f64 0] true
  0),
  some
  (AObj.cells
  [Value.int IntKind.i64 (1 : Int), Value.int IntKind.i64 z, Value.float FloatKind.f64 0] true
  0),
  some
  (AObj.cells
  [Value.int IntKind.i64 (1 : Int), Value.int IntKind.i64 (one (decide (pv ≤ (0 : Int)))),
  Value.float FloatKind.f64 0, Value.int IntKind.i64 (2 : Int), Value.int IntKind.i64 pv,
  Value.float FloatKind.f64 0, Value.int IntKind.i64 (1 : Int),
  Value.int IntKind.i64 (one inn), Value.float FloatKind.f64 0]
  true 3),
  some (AObj.cells [] true 0)])
  (K (AE.returned (Value.slice (some (Addr.mk 9 0 none)) 3 3))
  [some (AObj.row Rk.look 3 0 3 (encL (l3 x y z))),
  some
  (AObj.cells [Value.slice (some (Addr.mk 9 0 none)) 3 3] true 0),
  some
  (AObj.cells
  [Value.int IntKind.i64 (1 : Int), Value.int IntKind.i64 (2 : Int), Value.int IntKind.i64 (1 : Int)]
  true 1),
  some
  (AObj.cells
  [Value.int IntKind.i64 (1 : Int), Value.int IntKind.i64 x, Value.float FloatKind.f64 0] true
  0),
  some
  (AObj.cells
  [Value.int IntKind.i64 (1 : Int), Value.int IntKind.i64 x, Value.float FloatKind.f64 0] true
  0),
  some
  (AObj.cells
  [Value.int IntKind.i64 (2 : Int), Value.int IntKind.i64 y, Value.float FloatKind.f64 0] true
  0),
  some
  (AObj.cells
  [Value.int IntKind.i64 (2 : Int), Value.int IntKind.i64 y, Value.float FloatKind.f64 0] true
  0),
  some
  (AObj.cells
  [Value.int IntKind.i64 (1 : Int), Value.int IntKind.i64 z, Value.float FloatKind.f64 0] true
  0),
  some
  (AObj.cells
  [Value.int IntKind.i64 (1 : Int), Value.int IntKind.i64 z, Value.float FloatKind.f64 0] true
  0),
  some
  (AObj.cells
  [Value.int IntKind.i64 (1 : Int),
  Value.int IntKind.i64 (one (decide (IntKind.wrap IntKind.i64 (y - (1 : Int)) ≤ (0 : Int)))),
  Value.float FloatKind.f64 0, Value.int IntKind.i64 (2 : Int),
  Value.int IntKind.i64 (IntKind.wrap IntKind.i64 (y - (1 : Int))),
  Value.float FloatKind.f64 0, Value.int IntKind.i64 (1 : Int),
  Value.int IntKind.i64 (one inn), Value.float FloatKind.f64 0]
  true 3),
  some (AObj.cells [] true 0)]))
  (K (AE.returned (Value.slice (some (Addr.mk 9 0 none)) 3 3))
  [some (AObj.row Rk.look 3 0 3 (encL (l3 x y z))),
  some
  (AObj.cells [Value.slice (some (Addr.mk 9 0 none)) 3 3] true 0),
  some
  (AObj.cells
  [Value.int IntKind.i64 (1 : Int), Value.int IntKind.i64 (2 : Int), Value.int IntKind.i64 (1 : Int)] true
  1),
  some
  (AObj.cells
  [Value.int IntKind.i64 (1 : Int), Value.int IntKind.i64 x, Value.float FloatKind.f64 0] true
  0),
  some
  (AObj.cells
  [Value.int IntKind.i64 (1 : Int), Value.int IntKind.i64 x, Value.float FloatKind.f64 0] true
  0),
  some
  (AObj.cells
  [Value.int IntKind.i64 (2 : Int), Value.int IntKind.i64 y, Value.float FloatKind.f64 0] true
  0),
  some
  (AObj.cells
  [Value.int IntKind.i64 (2 : Int), Value.int IntKind.i64 y, Value.float FloatKind.f64 0] true
  0),
  some
  (AObj.cells
  [Value.int IntKind.i64 (1 : Int), Value.int IntKind.i64 z, Value.float FloatKind.f64 0] true
  0),
  some
  (AObj.cells
  [Value.int IntKind.i64 (1 : Int), Value.int IntKind.i64 z, Value.float FloatKind.f64 0] true
  0),
  some
  (AObj.cells
  [Value.int IntKind.i64 (1 : Int), Value.int IntKind.i64 (one (decide (y ≤ (0 : Int)))),
  Value.float FloatKind.f64 0, Value.int IntKind.i64 (2 : Int), Value.int IntKind.i64 y,
  Value.float FloatKind.f64 0, Value.int IntKind.i64 (1 : Int), Value.int IntKind.i64 (one inn),
  Value.float FloatKind.f64 0]
  true 3),
  some (AObj.cells [] true 0)]))
  (K (AE.returned (Value.slice (some (Addr.mk 9 0 none)) 3 3))
  [some (AObj.row Rk.look 3 0 3 (encL (l3 x y z))),
  some (AObj.cells [Value.slice (some (Addr.mk 9 0 none)) 3 3] true 0),
  some
  (AObj.cells
  [Value.int IntKind.i64 (1 : Int), Value.int IntKind.i64 (2 : Int), Value.int IntKind.i64 (1 : Int)] true
  1),
  some
  (AObj.cells [Value.int IntKind.i64 (1 : Int), Value.int IntKind.i64 x, Value.float FloatKind.f64 0]
  true 0),
  some
  (AObj.cells [Value.int IntKind.i64 (1 : Int), Value.int IntKind.i64 x, Value.float FloatKind.f64 0]
  true 0),
  some
  (AObj.cells [Value.int IntKind.i64 (2 : Int), Value.int IntKind.i64 y, Value.float FloatKind.f64 0]
  true 0),
  some
  (AObj.cells [Value.int IntKind.i64 (2 : Int), Value.int IntKind.i64 y, Value.float FloatKind.f64 0]
  true 0),
  some
  (AObj.cells [Value.int IntKind.i64 (1 : Int), Value.int IntKind.i64 z, Value.float FloatKind.f64 0]
  true 0),
  some
  (AObj.cells [Value.int IntKind.i64 (1 : Int), Value.int IntKind.i64 z, Value.float FloatKind.f64 0]
  true 0),
  some
  (AObj.cells
  [Value.int IntKind.i64 (1 : Int), Value.int IntKind.i64 (one (decide (y ≤ (0 : Int)))),
  Value.float FloatKind.f64 0, Value.int IntKind.i64 (2 : Int), Value.int IntKind.i64 y,
  Value.float FloatKind.f64 0, Value.int IntKind.i64 (1 : Int), Value.int IntKind.i64 (one inn),
  Value.float FloatKind.f64 0]
  true 3),
  some (AObj.cells [] true 0)]))
  (br (kind == (11 : Int))
  (need (okC 3 [Ta.cell (Td.fr 3 3 c fun i => encL (l3 x y z) (0 + i))])
  (K (AE.returned (Value.slice (some (Addr.mk 5 0 (some 0))) 3 c))
  [some (AObj.row Rk.look 3 0 3 (encL (l3 x y z))),
  some
  (AObj.cells [Value.slice (some (Addr.mk 5 0 (some 0))) 3 c] true
  0),
  some (AObj.cells [Value.int IntKind.i64 (1 : Int), Value.int IntKind.i64 (1 : Int)] true 1),
  some (AObj.cells [] true 0), none,
  some (AObj.row Rk.mine 3 0 3 fun i => encL (l3 x y z) (0 + i))]))
  (br (kind == (12 : Int))
  (need (okC 3 [Ta.cell (Td.fr 3 3 c fun i => encL (l3 x y z) (0 + i))])
  (K (AE.returned (Value.slice (some (Addr.mk 5 0 (some 0))) 3 c))
  [some (AObj.row Rk.look 3 0 3 (encL (l3 x y z))),
  some
  (AObj.cells [Value.slice (some (Addr.mk 5 0 (some 0))) 3 c] true
  0),
  some (AObj.cells [Value.int IntKind.i64 (1 : Int), Value.int IntKind.i64 (1 : Int)] true 1),
  some (AObj.cells [] true 0), none,
  some (AObj.row Rk.mine 3 0 3 fun i => encL (l3 x y z) (0 + i))]))
  (need (okC 3 [Ta.cell (Td.fr 3 3 c fun i => encL (l3 x y z) (0 + i))])
  (K (AE.returned (Value.slice (some (Addr.mk 4 0 (some 0))) 3 c))
  [some (AObj.row Rk.look 3 0 3 (encL (l3 x y z))),
  some
  (AObj.cells [Value.slice (some (Addr.mk 4 0 (some 0))) 3 c] true
  0),
  some (AObj.cells [] true 0), none,
  some (AObj.row Rk.mine 3 0 3 fun i => encL (l3 x y z) (0 + i))])))))) := by kernel_rfl
theorem vc_csB (kind x z pv : Int) (inn : Bool) (c : Nat) (β : Bs) (K : AE → List (Option AObj) → Prop) : lawE Try.prog toldN 100 20 β (fun _ => 0) (cnOf 1 fun _ => []) (fun _ _ => False) 10 [.int .i64 kind, .slice (some ⟨0, 0, some 0⟩) 2 c, .bool inn, .int .i64 pv] (mkS [some (rowO .look (l2 x z))]) (outK K) =
(  br (kind == (9 : Int))
  (need (okC 3 [Ta.cell (Td.fr 3 2 c fun i => encL (l2 x z) (0 + i))])
  (K (AE.returned (Value.slice (some (Addr.mk 5 0 (some 0))) 2 c))
  [some (AObj.row Rk.look 3 0 2 (encL (l2 x z))),
  some
  (AObj.cells [Value.slice (some (Addr.mk 5 0 (some 0))) 2 c] true 0),
  some
  (AObj.cells
  [Value.int IntKind.i64 (1 : Int), Value.int IntKind.i64 (2 : Int), Value.int IntKind.i64 (1 : Int)] true
  1),
  some (AObj.cells [] true 0), none,
  some (AObj.row Rk.mine 3 0 2 fun i => encL (l2 x z) (0 + i))]))
  (br (kind == (10 : Int))
  (need (okC 3 [Ta.cell (Td.fr 3 2 c fun i => encL (l2 x z) (0 + i))])
  (K (AE.returned (Value.slice (some (Addr.mk 5 0 (some 0))) 2 c))
  [some (AObj.row Rk.look 3 0 2 (encL (l2 x z))),
  some
  (AObj.cells [Value.slice (some (Addr.mk 5 0 (some 0))) 2 c] true 0),
  some
  (AObj.cells
  [Value.int IntKind.i64 (1 : Int), Value.int IntKind.i64 (2 : Int), Value.int IntKind.i64 (1 : Int)] true
  1),
  some (AObj.cells [] true 0), none,
  some (AObj.row Rk.mine 3 0 2 fun i => encL (l2 x z) (0 + i))]))
  (br (kind == (11 : Int))
  (br (!inn == (z != (0 : Int)))
  (K (AE.returned (Value.slice (some (Addr.mk 7 0 none)) 2 2))
  [some (AObj.row Rk.look 3 0 2 (encL (l2 x z))),
  some
  (AObj.cells [Value.slice (some (Addr.mk 7 0 none)) 2 2] true 0),
  some (AObj.cells [Value.int IntKind.i64 (1 : Int), Value.int IntKind.i64 (1 : Int)] true 1),
  some
  (AObj.cells
  [Value.int IntKind.i64 (1 : Int), Value.int IntKind.i64 x, Value.float FloatKind.f64 0] true
  0),
  some
  (AObj.cells
  [Value.int IntKind.i64 (1 : Int), Value.int IntKind.i64 x, Value.float FloatKind.f64 0] true
  0),
  some
  (AObj.cells
  [Value.int IntKind.i64 (1 : Int), Value.int IntKind.i64 z, Value.float FloatKind.f64 0] true
  0),
  some
  (AObj.cells
  [Value.int IntKind.i64 (1 : Int), Value.int IntKind.i64 z, Value.float FloatKind.f64 0] true
  0),
  some
  (AObj.cells
  [Value.int IntKind.i64 (1 : Int), Value.int IntKind.i64 (one (inn == (kind == (11 : Int)))),
  Value.float FloatKind.f64 0, Value.int IntKind.i64 (1 : Int), Value.int IntKind.i64 (one inn),
  Value.float FloatKind.f64 0]
  true 3),
  some (AObj.cells [] true 0)])
  (K (AE.returned (Value.slice (some (Addr.mk 7 0 none)) 2 2))
  [some (AObj.row Rk.look 3 0 2 (encL (l2 x z))),
  some
  (AObj.cells [Value.slice (some (Addr.mk 7 0 none)) 2 2] true 0),
  some (AObj.cells [Value.int IntKind.i64 (1 : Int), Value.int IntKind.i64 (1 : Int)] true 1),
  some
  (AObj.cells
  [Value.int IntKind.i64 (1 : Int), Value.int IntKind.i64 x, Value.float FloatKind.f64 0] true
  0),
  some
  (AObj.cells
  [Value.int IntKind.i64 (1 : Int), Value.int IntKind.i64 x, Value.float FloatKind.f64 0] true
  0),
  some
  (AObj.cells
  [Value.int IntKind.i64 (1 : Int), Value.int IntKind.i64 z, Value.float FloatKind.f64 0] true
  0),
  some
  (AObj.cells
  [Value.int IntKind.i64 (1 : Int), Value.int IntKind.i64 z, Value.float FloatKind.f64 0] true
  0),
  some
  (AObj.cells
  [Value.int IntKind.i64 (1 : Int), Value.int IntKind.i64 (0 : Int), Value.float FloatKind.f64 0,
  Value.int IntKind.i64 (1 : Int), Value.int IntKind.i64 (one inn), Value.float FloatKind.f64 0]
  true 3),
  some (AObj.cells [] true 0)]))
  (br (kind == (12 : Int))
  (br (!inn == (z != (0 : Int)))
  (K (AE.returned (Value.slice (some (Addr.mk 7 0 none)) 2 2))
  [some (AObj.row Rk.look 3 0 2 (encL (l2 x z))),
  some
  (AObj.cells [Value.slice (some (Addr.mk 7 0 none)) 2 2] true 0),
  some (AObj.cells [Value.int IntKind.i64 (1 : Int), Value.int IntKind.i64 (1 : Int)] true 1),
  some
  (AObj.cells
  [Value.int IntKind.i64 (1 : Int), Value.int IntKind.i64 x, Value.float FloatKind.f64 0] true
  0),
  some
  (AObj.cells
  [Value.int IntKind.i64 (1 : Int), Value.int IntKind.i64 x, Value.float FloatKind.f64 0] true
  0),
  some
  (AObj.cells
  [Value.int IntKind.i64 (1 : Int), Value.int IntKind.i64 z, Value.float FloatKind.f64 0] true
  0),
  some
  (AObj.cells
  [Value.int IntKind.i64 (1 : Int), Value.int IntKind.i64 z, Value.float FloatKind.f64 0] true
  0),
  some
  (AObj.cells
  [Value.int IntKind.i64 (1 : Int), Value.int IntKind.i64 (one (inn == (kind == (11 : Int)))),
  Value.float FloatKind.f64 0, Value.int IntKind.i64 (1 : Int),
  Value.int IntKind.i64 (one inn), Value.float FloatKind.f64 0]
  true 3),
  some (AObj.cells [] true 0)])
  (K (AE.returned (Value.slice (some (Addr.mk 7 0 none)) 2 2))
  [some (AObj.row Rk.look 3 0 2 (encL (l2 x z))),
  some
  (AObj.cells [Value.slice (some (Addr.mk 7 0 none)) 2 2] true 0),
  some (AObj.cells [Value.int IntKind.i64 (1 : Int), Value.int IntKind.i64 (1 : Int)] true 1),
  some
  (AObj.cells
  [Value.int IntKind.i64 (1 : Int), Value.int IntKind.i64 x, Value.float FloatKind.f64 0] true
  0),
  some
  (AObj.cells
  [Value.int IntKind.i64 (1 : Int), Value.int IntKind.i64 x, Value.float FloatKind.f64 0] true
  0),
  some
  (AObj.cells
  [Value.int IntKind.i64 (1 : Int), Value.int IntKind.i64 z, Value.float FloatKind.f64 0] true
  0),
  some
  (AObj.cells
  [Value.int IntKind.i64 (1 : Int), Value.int IntKind.i64 z, Value.float FloatKind.f64 0] true
  0),
  some
  (AObj.cells
  [Value.int IntKind.i64 (1 : Int), Value.int IntKind.i64 (0 : Int),
  Value.float FloatKind.f64 0, Value.int IntKind.i64 (1 : Int),
  Value.int IntKind.i64 (one inn), Value.float FloatKind.f64 0]
  true 3),
  some (AObj.cells [] true 0)]))
  (need (okC 3 [Ta.cell (Td.fr 3 2 c fun i => encL (l2 x z) (0 + i))])
  (K (AE.returned (Value.slice (some (Addr.mk 4 0 (some 0))) 2 c))
  [some (AObj.row Rk.look 3 0 2 (encL (l2 x z))),
  some
  (AObj.cells [Value.slice (some (Addr.mk 4 0 (some 0))) 2 c] true
  0),
  some (AObj.cells [] true 0), none,
  some (AObj.row Rk.mine 3 0 2 fun i => encL (l2 x z) (0 + i))])))))) := by kernel_rfl
end Go.Proofs.Ytcdbodpmcnebiaa.Ev
