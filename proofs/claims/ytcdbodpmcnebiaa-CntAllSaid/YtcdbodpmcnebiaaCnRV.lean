/-
  What has to hold: printed by the evaluator.
-/
import Derived.Test.YtcdbodpmcnebiaaCnF
set_option linter.unusedVariables false
set_option maxRecDepth 1000000
namespace Go.Proofs.Ytcdbodpmcnebiaa.Ev
open Go Go.Proofs
theorem vc_crA (kind x y z pv : Int) (inn : Bool) (c : Nat) (β : Bs) (K : AE → List (Option AObj) → Prop) : lawE Try.prog toldF 100 20 β (fun _ => 0) (cnOf 1 fun _ => []) (fun _ _ => False) 12 [.int .i64 kind, .slice (some ⟨0, 0, some 0⟩) 3 c, .bool inn, .int .i64 pv] (mkS [some (rowO .look (l3 x y z))]) (outK K) =
(  br (decide (kind < (9 : Int)))
  (K (AE.returned (Value.slice (some (Addr.mk 2 0 (some 0))) 3 0))
  [some (AObj.row Rk.look 3 0 3 (encL (l3 x y z))), some (AObj.cells [] true 3),
  some (AObj.row Rk.mine 3 0 3 fun j => encL (l3 x y z) (0 + j))])
  (br (decide (kind > (12 : Int)))
  (K (AE.returned (Value.slice (some (Addr.mk 2 0 (some 0))) 3 0))
  [some (AObj.row Rk.look 3 0 3 (encL (l3 x y z))), some (AObj.cells [] true 3),
  some (AObj.row Rk.mine 3 0 3 fun j => encL (l3 x y z) (0 + j))])
  (need
  (okFit
  [Ta.cell (Td.sc (Value.int IntKind.i64 kind)),
  Ta.cell (Td.fr 3 3 c fun i => encL (l3 x y z) (0 + i))])
  (br (!fitF kind (listT Vl (Td.fr 3 3 c fun i => encL (l3 x y z) (0 + i))))
  (K (AE.returned (Value.slice (some (Addr.mk 2 0 (some 0))) 3 0))
  [some (AObj.row Rk.look 3 0 3 (encL (l3 x y z))), some (AObj.cells [] true 3),
  some (AObj.row Rk.mine 3 0 3 fun j => encL (l3 x y z) (0 + j)), none])
  (br (kind == (11 : Int))
  (br inn
  (K (AE.returned (Value.slice (some (Addr.mk 2 0 (some 0))) 3 0))
  [some (AObj.row Rk.look 3 0 3 (encL (l3 x y z))),
  some (AObj.cells [] true 3),
  some
  (AObj.row Rk.mine 3 0 3
  (putT 0 1 [Td.sc (Value.int IntKind.i64 (one !z != (0 : Int)))]
  (putT 2 1 [Td.sc (Value.int IntKind.i64 (one inn))] fun j =>
  encL (l3 x y z) (0 + j)))),
  none])
  (K (AE.returned (Value.slice (some (Addr.mk 2 0 (some 0))) 3 0))
  [some (AObj.row Rk.look 3 0 3 (encL (l3 x y z))),
  some (AObj.cells [] true 3),
  some
  (AObj.row Rk.mine 3 0 3
  (putT 0 1 [Td.sc (Value.int IntKind.i64 (0 : Int))]
  (putT 2 1 [Td.sc (Value.int IntKind.i64 (one inn))] fun j =>
  encL (l3 x y z) (0 + j)))),
  none]))
  (br (kind == (12 : Int))
  (br (!inn)
  (K (AE.returned (Value.slice (some (Addr.mk 2 0 (some 0))) 3 0))
  [some (AObj.row Rk.look 3 0 3 (encL (l3 x y z))),
  some (AObj.cells [] true 3),
  some
  (AObj.row Rk.mine 3 0 3
  (putT 0 1 [Td.sc (Value.int IntKind.i64 (one (z != (0 : Int))))]
  (putT 2 1 [Td.sc (Value.int IntKind.i64 (one inn))] fun j =>
  encL (l3 x y z) (0 + j)))),
  none])
  (K (AE.returned (Value.slice (some (Addr.mk 2 0 (some 0))) 3 0))
  [some (AObj.row Rk.look 3 0 3 (encL (l3 x y z))),
  some (AObj.cells [] true 3),
  some
  (AObj.row Rk.mine 3 0 3
  (putT 0 1 [Td.sc (Value.int IntKind.i64 (0 : Int))]
  (putT 2 1 [Td.sc (Value.int IntKind.i64 (one inn))] fun j =>
  encL (l3 x y z) (0 + j)))),
  none]))
  (br (kind == (9 : Int))
  (br inn
  (br (!z != (0 : Int))
  (K
  (AE.returned
  (Value.slice (some (Addr.mk 2 0 (some 0))) 3 0))
  [some (AObj.row Rk.look 3 0 3 (encL (l3 x y z))),
  some (AObj.cells [] true 3),
  some
  (AObj.row Rk.mine 3 0 3
  (putT 0 1
  [Td.sc
  (Value.int IntKind.i64
  (one
  (decide
  ((bif true then
  if
  (32767 : Int) <
  IntKind.wrap IntKind.i64
  ((bif false then one inn else y) + (1 : Int)) then
  (32767 : Int)
  else IntKind.wrap IntKind.i64 ((bif false then one inn else y) + (1 : Int))
  else bif false then one inn else y) ≥
  pv))))]
  (putT 1 1
  [Td.sc
  (Value.int IntKind.i64
  (if
  (32767 : Int) <
  IntKind.wrap IntKind.i64 ((bif false then one inn else y) + (1 : Int)) then
  (32767 : Int)
  else IntKind.wrap IntKind.i64 ((bif false then one inn else y) + (1 : Int))))]
  (putT 2 1 [Td.sc (Value.int IntKind.i64 (one inn))] fun j =>
  encL (l3 x y z) (0 + j))))),
  none])
  (K
  (AE.returned
  (Value.slice (some (Addr.mk 2 0 (some 0))) 3 0))
  [some (AObj.row Rk.look 3 0 3 (encL (l3 x y z))),
  some (AObj.cells [] true 3),
  some
  (AObj.row Rk.mine 3 0 3
  (putT 0 1
  [Td.sc (Value.int IntKind.i64 (one (decide ((bif false then one inn else y) ≥ pv))))]
  (putT 2 1 [Td.sc (Value.int IntKind.i64 (one inn))] fun j =>
  encL (l3 x y z) (0 + j)))),
  none]))
  (K (AE.returned (Value.slice (some (Addr.mk 2 0 (some 0))) 3 0))
  [some (AObj.row Rk.look 3 0 3 (encL (l3 x y z))),
  some (AObj.cells [] true 3),
  some
  (AObj.row Rk.mine 3 0 3
  (putT 0 1
  [Td.sc (Value.int IntKind.i64 (one (decide ((bif false then one inn else y) ≥ pv))))]
  (putT 2 1 [Td.sc (Value.int IntKind.i64 (one inn))] fun j =>
  encL (l3 x y z) (0 + j)))),
  none]))
  (br (kind == (10 : Int))
  (br inn
  (br (!z != (0 : Int))
  (br (decide ((bif false then one inn else y) ≤ (0 : Int)))
  (K
  (AE.returned
  (Value.slice (some (Addr.mk 2 0 (some 0))) 3 0))
  [some (AObj.row Rk.look 3 0 3 (encL (l3 x y z))),
  some (AObj.cells [] true 3),
  some
  (AObj.row Rk.mine 3 0 3
  (putT 0 1
  [Td.sc
  (Value.int IntKind.i64
  (one
  (decide ((bif true then pv else bif false then one inn else y) ≤ (0 : Int)))))]
  (putT 1 1 [Td.sc (Value.int IntKind.i64 pv)]
  (putT 2 1 [Td.sc (Value.int IntKind.i64 (one inn))] fun j =>
  encL (l3 x y z) (0 + j))))),
  none])
  (K
  (AE.returned
  (Value.slice (some (Addr.mk 2 0 (some 0))) 3 0))
  [some (AObj.row Rk.look 3 0 3 (encL (l3 x y z))),
  some (AObj.cells [] true 3),
  some
  (AObj.row Rk.mine 3 0 3
  (putT 0 1
  [Td.sc
  (Value.int IntKind.i64
  (one
  (decide
  ((bif true then
  IntKind.wrap IntKind.i64 ((bif false then one inn else y) - (1 : Int))
  else bif false then one inn else y) ≤
  (0 : Int)))))]
  (putT 1 1
  [Td.sc
  (Value.int IntKind.i64
  (IntKind.wrap IntKind.i64 ((bif false then one inn else y) - (1 : Int))))]
  (putT 2 1 [Td.sc (Value.int IntKind.i64 (one inn))] fun j =>
  encL (l3 x y z) (0 + j))))),
  none]))
  (K
  (AE.returned
  (Value.slice (some (Addr.mk 2 0 (some 0))) 3 0))
  [some (AObj.row Rk.look 3 0 3 (encL (l3 x y z))),
  some (AObj.cells [] true 3),
  some
  (AObj.row Rk.mine 3 0 3
  (putT 0 1
  [Td.sc
  (Value.int IntKind.i64 (one (decide ((bif false then one inn else y) ≤ (0 : Int)))))]
  (putT 2 1 [Td.sc (Value.int IntKind.i64 (one inn))] fun j =>
  encL (l3 x y z) (0 + j)))),
  none]))
  (K
  (AE.returned
  (Value.slice (some (Addr.mk 2 0 (some 0))) 3 0))
  [some (AObj.row Rk.look 3 0 3 (encL (l3 x y z))),
  some (AObj.cells [] true 3),
  some
  (AObj.row Rk.mine 3 0 3
  (putT 0 1
  [Td.sc (Value.int IntKind.i64 (one (decide ((bif false then one inn else y) ≤ (0 : Int)))))]
  (putT 2 1 [Td.sc (Value.int IntKind.i64 (one inn))] fun j =>
  encL (l3 x y z) (0 + j)))),
  none]))
  (K (AE.returned (Value.slice (some (Addr.mk 2 0 (some 0))) 3 0))
  [some (AObj.row Rk.look 3 0 3 (encL (l3 x y z))),
  some (AObj.cells [] true 3),
  some
  (AObj.row Rk.mine 3 0 3
  (putT 2 1 [Td.sc (Value.int IntKind.i64 (one inn))] fun j =>
  encL (l3 x y z) (0 + j))),
  none]))))))))) := by kernel_rfl
theorem vc_crB (kind x z pv : Int) (inn : Bool) (c : Nat) (β : Bs) (K : AE → List (Option AObj) → Prop) : lawE Try.prog toldF 100 20 β (fun _ => 0) (cnOf 1 fun _ => []) (fun _ _ => False) 12 [.int .i64 kind, .slice (some ⟨0, 0, some 0⟩) 2 c, .bool inn, .int .i64 pv] (mkS [some (rowO .look (l2 x z))]) (outK K) =
(  br (decide (kind < (9 : Int)))
  (K (AE.returned (Value.slice (some (Addr.mk 2 0 (some 0))) 2 0))
  [some (AObj.row Rk.look 3 0 2 (encL (l2 x z))), some (AObj.cells [] true 3),
  some (AObj.row Rk.mine 3 0 2 fun j => encL (l2 x z) (0 + j))])
  (br (decide (kind > (12 : Int)))
  (K (AE.returned (Value.slice (some (Addr.mk 2 0 (some 0))) 2 0))
  [some (AObj.row Rk.look 3 0 2 (encL (l2 x z))), some (AObj.cells [] true 3),
  some (AObj.row Rk.mine 3 0 2 fun j => encL (l2 x z) (0 + j))])
  (need
  (okFit
  [Ta.cell (Td.sc (Value.int IntKind.i64 kind)),
  Ta.cell (Td.fr 3 2 c fun i => encL (l2 x z) (0 + i))])
  (br (!fitF kind (listT Vl (Td.fr 3 2 c fun i => encL (l2 x z) (0 + i))))
  (K (AE.returned (Value.slice (some (Addr.mk 2 0 (some 0))) 2 0))
  [some (AObj.row Rk.look 3 0 2 (encL (l2 x z))), some (AObj.cells [] true 3),
  some (AObj.row Rk.mine 3 0 2 fun j => encL (l2 x z) (0 + j)), none])
  (br (kind == (11 : Int))
  (br inn
  (K (AE.returned (Value.slice (some (Addr.mk 2 0 (some 0))) 2 0))
  [some (AObj.row Rk.look 3 0 2 (encL (l2 x z))),
  some (AObj.cells [] true 3),
  some
  (AObj.row Rk.mine 3 0 2
  (putT 0 1 [Td.sc (Value.int IntKind.i64 (one !z != (0 : Int)))]
  (putT 1 1 [Td.sc (Value.int IntKind.i64 (one inn))] fun j =>
  encL (l2 x z) (0 + j)))),
  none])
  (K (AE.returned (Value.slice (some (Addr.mk 2 0 (some 0))) 2 0))
  [some (AObj.row Rk.look 3 0 2 (encL (l2 x z))),
  some (AObj.cells [] true 3),
  some
  (AObj.row Rk.mine 3 0 2
  (putT 0 1 [Td.sc (Value.int IntKind.i64 (0 : Int))]
  (putT 1 1 [Td.sc (Value.int IntKind.i64 (one inn))] fun j =>
  encL (l2 x z) (0 + j)))),
  none]))
  (br (kind == (12 : Int))
  (br (!inn)
  (K (AE.returned (Value.slice (some (Addr.mk 2 0 (some 0))) 2 0))
  [some (AObj.row Rk.look 3 0 2 (encL (l2 x z))),
  some (AObj.cells [] true 3),
  some
  (AObj.row Rk.mine 3 0 2
  (putT 0 1 [Td.sc (Value.int IntKind.i64 (one (z != (0 : Int))))]
  (putT 1 1 [Td.sc (Value.int IntKind.i64 (one inn))] fun j =>
  encL (l2 x z) (0 + j)))),
  none])
  (K (AE.returned (Value.slice (some (Addr.mk 2 0 (some 0))) 2 0))
  [some (AObj.row Rk.look 3 0 2 (encL (l2 x z))),
  some (AObj.cells [] true 3),
  some
  (AObj.row Rk.mine 3 0 2
  (putT 0 1 [Td.sc (Value.int IntKind.i64 (0 : Int))]
  (putT 1 1 [Td.sc (Value.int IntKind.i64 (one inn))] fun j =>
  encL (l2 x z) (0 + j)))),
  none]))
  (br (kind == (9 : Int))
  (br inn
  (br (!z != (0 : Int))
  (K
  (AE.returned
  (Value.slice (some (Addr.mk 2 0 (some 0))) 2 0))
  [some (AObj.row Rk.look 3 0 2 (encL (l2 x z))),
  some (AObj.cells [] true 3),
  some
  (AObj.row Rk.mine 3 0 2
  (putT 0 1
  [Td.sc
  (Value.int IntKind.i64
  (one
  (decide
  ((bif true then
  if
  (32767 : Int) <
  IntKind.wrap IntKind.i64
  ((bif true then one inn else z) + (1 : Int)) then
  (32767 : Int)
  else IntKind.wrap IntKind.i64 ((bif true then one inn else z) + (1 : Int))
  else bif true then one inn else z) ≥
  pv))))]
  (putT 1 1
  [Td.sc
  (Value.int IntKind.i64
  (if
  (32767 : Int) <
  IntKind.wrap IntKind.i64 ((bif true then one inn else z) + (1 : Int)) then
  (32767 : Int)
  else IntKind.wrap IntKind.i64 ((bif true then one inn else z) + (1 : Int))))]
  (putT 1 1 [Td.sc (Value.int IntKind.i64 (one inn))] fun j =>
  encL (l2 x z) (0 + j))))),
  none])
  (K
  (AE.returned
  (Value.slice (some (Addr.mk 2 0 (some 0))) 2 0))
  [some (AObj.row Rk.look 3 0 2 (encL (l2 x z))),
  some (AObj.cells [] true 3),
  some
  (AObj.row Rk.mine 3 0 2
  (putT 0 1
  [Td.sc (Value.int IntKind.i64 (one (decide ((bif true then one inn else z) ≥ pv))))]
  (putT 1 1 [Td.sc (Value.int IntKind.i64 (one inn))] fun j =>
  encL (l2 x z) (0 + j)))),
  none]))
  (K (AE.returned (Value.slice (some (Addr.mk 2 0 (some 0))) 2 0))
  [some (AObj.row Rk.look 3 0 2 (encL (l2 x z))),
  some (AObj.cells [] true 3),
  some
  (AObj.row Rk.mine 3 0 2
  (putT 0 1
  [Td.sc (Value.int IntKind.i64 (one (decide ((bif true then one inn else z) ≥ pv))))]
  (putT 1 1 [Td.sc (Value.int IntKind.i64 (one inn))] fun j =>
  encL (l2 x z) (0 + j)))),
  none]))
  (br (kind == (10 : Int))
  (br inn
  (br (!z != (0 : Int))
  (br (decide ((bif true then one inn else z) ≤ (0 : Int)))
  (K
  (AE.returned
  (Value.slice (some (Addr.mk 2 0 (some 0))) 2 0))
  [some (AObj.row Rk.look 3 0 2 (encL (l2 x z))),
  some (AObj.cells [] true 3),
  some
  (AObj.row Rk.mine 3 0 2
  (putT 0 1
  [Td.sc
  (Value.int IntKind.i64
  (one
  (decide ((bif true then pv else bif true then one inn else z) ≤ (0 : Int)))))]
  (putT 1 1 [Td.sc (Value.int IntKind.i64 pv)]
  (putT 1 1 [Td.sc (Value.int IntKind.i64 (one inn))] fun j =>
  encL (l2 x z) (0 + j))))),
  none])
  (K
  (AE.returned
  (Value.slice (some (Addr.mk 2 0 (some 0))) 2 0))
  [some (AObj.row Rk.look 3 0 2 (encL (l2 x z))),
  some (AObj.cells [] true 3),
  some
  (AObj.row Rk.mine 3 0 2
  (putT 0 1
  [Td.sc
  (Value.int IntKind.i64
  (one
  (decide
  ((bif true then
  IntKind.wrap IntKind.i64 ((bif true then one inn else z) - (1 : Int))
  else bif true then one inn else z) ≤
  (0 : Int)))))]
  (putT 1 1
  [Td.sc
  (Value.int IntKind.i64
  (IntKind.wrap IntKind.i64 ((bif true then one inn else z) - (1 : Int))))]
  (putT 1 1 [Td.sc (Value.int IntKind.i64 (one inn))] fun j =>
  encL (l2 x z) (0 + j))))),
  none]))
  (K
  (AE.returned
  (Value.slice (some (Addr.mk 2 0 (some 0))) 2 0))
  [some (AObj.row Rk.look 3 0 2 (encL (l2 x z))),
  some (AObj.cells [] true 3),
  some
  (AObj.row Rk.mine 3 0 2
  (putT 0 1
  [Td.sc
  (Value.int IntKind.i64 (one (decide ((bif true then one inn else z) ≤ (0 : Int)))))]
  (putT 1 1 [Td.sc (Value.int IntKind.i64 (one inn))] fun j =>
  encL (l2 x z) (0 + j)))),
  none]))
  (K
  (AE.returned
  (Value.slice (some (Addr.mk 2 0 (some 0))) 2 0))
  [some (AObj.row Rk.look 3 0 2 (encL (l2 x z))),
  some (AObj.cells [] true 3),
  some
  (AObj.row Rk.mine 3 0 2
  (putT 0 1
  [Td.sc (Value.int IntKind.i64 (one (decide ((bif true then one inn else z) ≤ (0 : Int)))))]
  (putT 1 1 [Td.sc (Value.int IntKind.i64 (one inn))] fun j =>
  encL (l2 x z) (0 + j)))),
  none]))
  (K (AE.returned (Value.slice (some (Addr.mk 2 0 (some 0))) 2 0))
  [some (AObj.row Rk.look 3 0 2 (encL (l2 x z))),
  some (AObj.cells [] true 3),
  some
  (AObj.row Rk.mine 3 0 2
  (putT 1 1 [Td.sc (Value.int IntKind.i64 (one inn))] fun j =>
  encL (l2 x z) (0 + j))),
  none]))))))))) := by kernel_rfl
end Go.Proofs.Ytcdbodpmcnebiaa.Ev
