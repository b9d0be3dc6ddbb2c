/-
  What has to hold: printed by the evaluator.
-/
import Derived.Test.YtaceobjppcmhjaaTmF
set_option linter.unusedVariables false
set_option maxRecDepth 1000000
namespace Go.Proofs.Ytaceobjppcmhjaa.Ev
open Go Go.Proofs
theorem vc_trA (kind q et on a pt now : Int) (inn : Bool) (c : Nat) (β : Bs) (K : AE → List (Option AObj) → Prop) : lawE Try.prog toldF 100 20 β (fun _ => 0) (cnOf 1 fun _ => []) (fun _ _ => False) 12 [.int .i64 kind, .slice (some ⟨0, 0, some 0⟩) 4 c, .bool inn, .int .i64 pt, .int .i64 now] (mkS [some (rowO .look (l4 q et on a))]) (outK K) =
(  br (decide (kind < (6 : Int)))
  (K (AE.returned (Value.slice (some (Addr.mk 2 0 (some 0))) 4 0))
  [some (AObj.row Rk.look 3 0 4 (encL (l4 q et on a))), some (AObj.cells [] true 3),
  some (AObj.row Rk.mine 3 0 4 fun j => encL (l4 q et on a) (0 + j))])
  (br (decide (kind > (8 : Int)))
  (K (AE.returned (Value.slice (some (Addr.mk 2 0 (some 0))) 4 0))
  [some (AObj.row Rk.look 3 0 4 (encL (l4 q et on a))), some (AObj.cells [] true 3),
  some (AObj.row Rk.mine 3 0 4 fun j => encL (l4 q et on a) (0 + j))])
  (need
  (okFit
  [Ta.cell (Td.sc (Value.int IntKind.i64 kind)),
  Ta.cell (Td.fr 3 4 c fun i => encL (l4 q et on a) (0 + i))])
  (br
  (!fitF kind
  [Vl.mk (1 : Int) q 0, Vl.mk (4 : Int) et 0, Vl.mk (1 : Int) on 0,
  Vl.mk (4 : Int) a 0])
  (K (AE.returned (Value.slice (some (Addr.mk 2 0 (some 0))) 4 0))
  [some (AObj.row Rk.look 3 0 4 (encL (l4 q et on a))),
  some (AObj.cells [] true 3),
  some (AObj.row Rk.mine 3 0 4 fun j => encL (l4 q et on a) (0 + j)), none])
  (br (kind == (6 : Int))
  (br (!inn)
  (K (AE.returned (Value.slice (some (Addr.mk 2 0 (some 0))) 4 0))
  [some (AObj.row Rk.look 3 0 4 (encL (l4 q et on a))),
  some (AObj.cells [] true 3),
  some
  (AObj.row Rk.mine 3 0 4
  (putT 3 1 [Td.sc (Value.int IntKind.i64 (0 : Int))]
  (putT 2 1 [Td.sc (Value.int IntKind.i64 (0 : Int))]
  (putT 1 1 [Td.sc (Value.int IntKind.i64 (0 : Int))]
  (putT 0 1 [Td.sc (Value.int IntKind.i64 (0 : Int))] fun j =>
  encL (l4 q et on a) (0 + j)))))),
  none])
  (br (!on != (0 : Int))
  (K (AE.returned (Value.slice (some (Addr.mk 2 0 (some 0))) 4 0))
  [some (AObj.row Rk.look 3 0 4 (encL (l4 q et on a))),
  some (AObj.cells [] true 3),
  some
  (AObj.row Rk.mine 3 0 4
  (putT 3 1 [Td.sc (Value.int IntKind.i64 now)]
  (putT 2 1 [Td.sc (Value.int IntKind.i64 (1 : Int))]
  (putT 1 1
  [Td.sc (Value.int IntKind.i64 (pastN now now (if (0 : Int) > pt then (0 : Int) else pt)))]
  (putT 0 1
  [Td.sc
  (Value.int IntKind.i64
  (one
  (pastN now now (if (0 : Int) > pt then (0 : Int) else pt) ==
  if (0 : Int) > pt then (0 : Int) else pt)))]
  fun j => encL (l4 q et on a) (0 + j)))))),
  none])
  (K (AE.returned (Value.slice (some (Addr.mk 2 0 (some 0))) 4 0))
  [some (AObj.row Rk.look 3 0 4 (encL (l4 q et on a))),
  some (AObj.cells [] true 3),
  some
  (AObj.row Rk.mine 3 0 4
  (putT 3 1 [Td.sc (Value.int IntKind.i64 a)]
  (putT 2 1 [Td.sc (Value.int IntKind.i64 (one (on != (0 : Int))))]
  (putT 1 1
  [Td.sc (Value.int IntKind.i64 (pastN now a (if (0 : Int) > pt then (0 : Int) else pt)))]
  (putT 0 1
  [Td.sc
  (Value.int IntKind.i64
  (one
  (pastN now a (if (0 : Int) > pt then (0 : Int) else pt) ==
  if (0 : Int) > pt then (0 : Int) else pt)))]
  fun j => encL (l4 q et on a) (0 + j)))))),
  none])))
  (br (kind == (7 : Int))
  (br inn
  (K (AE.returned (Value.slice (some (Addr.mk 2 0 (some 0))) 4 0))
  [some (AObj.row Rk.look 3 0 4 (encL (l4 q et on a))),
  some (AObj.cells [] true 3),
  some
  (AObj.row Rk.mine 3 0 4
  (putT 3 1 [Td.sc (Value.int IntKind.i64 (0 : Int))]
  (putT 2 1 [Td.sc (Value.int IntKind.i64 (0 : Int))]
  (putT 1 1 [Td.sc (Value.int IntKind.i64 (0 : Int))]
  (putT 0 1 [Td.sc (Value.int IntKind.i64 (1 : Int))] fun j =>
  encL (l4 q et on a) (0 + j)))))),
  none])
  (br (!q != (0 : Int))
  (K (AE.returned (Value.slice (some (Addr.mk 2 0 (some 0))) 4 0))
  [some (AObj.row Rk.look 3 0 4 (encL (l4 q et on a))),
  some (AObj.cells [] true 3),
  some
  (AObj.row Rk.mine 3 0 4
  (putT 3 1 [Td.sc (Value.int IntKind.i64 a)]
  (putT 2 1 [Td.sc (Value.int IntKind.i64 (one (on != (0 : Int))))]
  (putT 1 1 [Td.sc (Value.int IntKind.i64 et)]
  (putT 0 1 [Td.sc (Value.int IntKind.i64 (one (q != (0 : Int))))] fun j =>
  encL (l4 q et on a) (0 + j)))))),
  none])
  (br (!on != (0 : Int))
  (K
  (AE.returned
  (Value.slice (some (Addr.mk 2 0 (some 0))) 4 0))
  [some (AObj.row Rk.look 3 0 4 (encL (l4 q et on a))),
  some (AObj.cells [] true 3),
  some
  (AObj.row Rk.mine 3 0 4
  (putT 3 1 [Td.sc (Value.int IntKind.i64 now)]
  (putT 2 1 [Td.sc (Value.int IntKind.i64 (1 : Int))]
  (putT 1 1
  [Td.sc
  (Value.int IntKind.i64 (pastN now now (if (0 : Int) > pt then (0 : Int) else pt)))]
  (putT 0 1
  [Td.sc
  (Value.int IntKind.i64
  (one
  (decide
  (pastN now now (if (0 : Int) > pt then (0 : Int) else pt) <
  if (0 : Int) > pt then (0 : Int) else pt))))]
  fun j => encL (l4 q et on a) (0 + j)))))),
  none])
  (K
  (AE.returned
  (Value.slice (some (Addr.mk 2 0 (some 0))) 4 0))
  [some (AObj.row Rk.look 3 0 4 (encL (l4 q et on a))),
  some (AObj.cells [] true 3),
  some
  (AObj.row Rk.mine 3 0 4
  (putT 3 1 [Td.sc (Value.int IntKind.i64 a)]
  (putT 2 1 [Td.sc (Value.int IntKind.i64 (one (on != (0 : Int))))]
  (putT 1 1
  [Td.sc (Value.int IntKind.i64 (pastN now a (if (0 : Int) > pt then (0 : Int) else pt)))]
  (putT 0 1
  [Td.sc
  (Value.int IntKind.i64
  (one
  (decide
  (pastN now a (if (0 : Int) > pt then (0 : Int) else pt) <
  if (0 : Int) > pt then (0 : Int) else pt))))]
  fun j => encL (l4 q et on a) (0 + j)))))),
  none]))))
  (br (!on != (0 : Int))
  (br inn
  (br
  (!decide
  (pastN now now (if (0 : Int) > pt then (0 : Int) else pt) <
  if (0 : Int) > pt then (0 : Int) else pt))
  (br (!inn)
  (K
  (AE.returned
  (Value.slice (some (Addr.mk 2 0 (some 0))) 4 0))
  [some (AObj.row Rk.look 3 0 4 (encL (l4 q et on a))),
  some (AObj.cells [] true 3),
  some
  (AObj.row Rk.mine 3 0 4
  (putT 3 1 [Td.sc (Value.int IntKind.i64 (0 : Int))]
  (putT 2 1 [Td.sc (Value.int IntKind.i64 (0 : Int))]
  (putT 1 1 [Td.sc (Value.int IntKind.i64 (0 : Int))]
  (putT 0 1 [Td.sc (Value.int IntKind.i64 (0 : Int))] fun j =>
  encL (l4 q et on a) (0 + j)))))),
  none])
  (K
  (AE.returned
  (Value.slice (some (Addr.mk 2 0 (some 0))) 4 0))
  [some (AObj.row Rk.look 3 0 4 (encL (l4 q et on a))),
  some (AObj.cells [] true 3),
  some
  (AObj.row Rk.mine 3 0 4
  (putT 3 1 [Td.sc (Value.int IntKind.i64 now)]
  (putT 2 1 [Td.sc (Value.int IntKind.i64 (1 : Int))]
  (putT 1 1
  [Td.sc
  (Value.int IntKind.i64
  (pastN now now (if (0 : Int) > pt then (0 : Int) else pt)))]
  (putT 0 1
  [Td.sc
  (Value.int IntKind.i64
  (one
  (decide
  (pastN now now (if (0 : Int) > pt then (0 : Int) else pt) <
  if (0 : Int) > pt then (0 : Int) else pt))))]
  fun j => encL (l4 q et on a) (0 + j)))))),
  none]))
  (K
  (AE.returned
  (Value.slice (some (Addr.mk 2 0 (some 0))) 4 0))
  [some (AObj.row Rk.look 3 0 4 (encL (l4 q et on a))),
  some (AObj.cells [] true 3),
  some
  (AObj.row Rk.mine 3 0 4
  (putT 3 1 [Td.sc (Value.int IntKind.i64 now)]
  (putT 2 1 [Td.sc (Value.int IntKind.i64 (1 : Int))]
  (putT 1 1
  [Td.sc
  (Value.int IntKind.i64 (pastN now now (if (0 : Int) > pt then (0 : Int) else pt)))]
  (putT 0 1
  [Td.sc
  (Value.int IntKind.i64
  (one
  (decide
  (pastN now now (if (0 : Int) > pt then (0 : Int) else pt) <
  if (0 : Int) > pt then (0 : Int) else pt))))]
  fun j => encL (l4 q et on a) (0 + j)))))),
  none]))
  (br (!on != (0 : Int))
  (K
  (AE.returned
  (Value.slice (some (Addr.mk 2 0 (some 0))) 4 0))
  [some (AObj.row Rk.look 3 0 4 (encL (l4 q et on a))),
  some (AObj.cells [] true 3),
  some
  (AObj.row Rk.mine 3 0 4
  (putT 3 1 [Td.sc (Value.int IntKind.i64 (0 : Int))]
  (putT 2 1 [Td.sc (Value.int IntKind.i64 (one (on != (0 : Int))))]
  (putT 1 1 [Td.sc (Value.int IntKind.i64 (0 : Int))]
  (putT 0 1 [Td.sc (Value.int IntKind.i64 (0 : Int))] fun j =>
  encL (l4 q et on a) (0 + j)))))),
  none])
  (br
  (!decide
  (pastN now a (if (0 : Int) > pt then (0 : Int) else pt) <
  if (0 : Int) > pt then (0 : Int) else pt))
  (br (!inn)
  (K
  (AE.returned
  (Value.slice (some (Addr.mk 2 0 (some 0))) 4 0))
  [some (AObj.row Rk.look 3 0 4 (encL (l4 q et on a))),
  some (AObj.cells [] true 3),
  some
  (AObj.row Rk.mine 3 0 4
  (putT 3 1 [Td.sc (Value.int IntKind.i64 (0 : Int))]
  (putT 2 1 [Td.sc (Value.int IntKind.i64 (0 : Int))]
  (putT 1 1 [Td.sc (Value.int IntKind.i64 (0 : Int))]
  (putT 0 1 [Td.sc (Value.int IntKind.i64 (0 : Int))] fun j =>
  encL (l4 q et on a) (0 + j)))))),
  none])
  (K
  (AE.returned
  (Value.slice (some (Addr.mk 2 0 (some 0))) 4 0))
  [some (AObj.row Rk.look 3 0 4 (encL (l4 q et on a))),
  some (AObj.cells [] true 3),
  some
  (AObj.row Rk.mine 3 0 4
  (putT 3 1 [Td.sc (Value.int IntKind.i64 a)]
  (putT 2 1 [Td.sc (Value.int IntKind.i64 (one (on != (0 : Int))))]
  (putT 1 1
  [Td.sc
  (Value.int IntKind.i64
  (pastN now a (if (0 : Int) > pt then (0 : Int) else pt)))]
  (putT 0 1
  [Td.sc
  (Value.int IntKind.i64
  (one
  (decide
  (pastN now a (if (0 : Int) > pt then (0 : Int) else pt) <
  if (0 : Int) > pt then (0 : Int) else pt))))]
  fun j => encL (l4 q et on a) (0 + j)))))),
  none]))
  (K
  (AE.returned
  (Value.slice (some (Addr.mk 2 0 (some 0))) 4 0))
  [some (AObj.row Rk.look 3 0 4 (encL (l4 q et on a))),
  some (AObj.cells [] true 3),
  some
  (AObj.row Rk.mine 3 0 4
  (putT 3 1 [Td.sc (Value.int IntKind.i64 a)]
  (putT 2 1 [Td.sc (Value.int IntKind.i64 (one (on != (0 : Int))))]
  (putT 1 1
  [Td.sc
  (Value.int IntKind.i64 (pastN now a (if (0 : Int) > pt then (0 : Int) else pt)))]
  (putT 0 1
  [Td.sc
  (Value.int IntKind.i64
  (one
  (decide
  (pastN now a (if (0 : Int) > pt then (0 : Int) else pt) <
  if (0 : Int) > pt then (0 : Int) else pt))))]
  fun j => encL (l4 q et on a) (0 + j)))))),
  none]))))
  (br (!on != (0 : Int))
  (K (AE.returned (Value.slice (some (Addr.mk 2 0 (some 0))) 4 0))
  [some (AObj.row Rk.look 3 0 4 (encL (l4 q et on a))),
  some (AObj.cells [] true 3),
  some
  (AObj.row Rk.mine 3 0 4
  (putT 3 1 [Td.sc (Value.int IntKind.i64 (0 : Int))]
  (putT 2 1 [Td.sc (Value.int IntKind.i64 (one (on != (0 : Int))))]
  (putT 1 1 [Td.sc (Value.int IntKind.i64 (0 : Int))]
  (putT 0 1 [Td.sc (Value.int IntKind.i64 (0 : Int))] fun j =>
  encL (l4 q et on a) (0 + j)))))),
  none])
  (br
  (!decide
  (pastN now a (if (0 : Int) > pt then (0 : Int) else pt) <
  if (0 : Int) > pt then (0 : Int) else pt))
  (br (!inn)
  (K
  (AE.returned
  (Value.slice (some (Addr.mk 2 0 (some 0))) 4 0))
  [some (AObj.row Rk.look 3 0 4 (encL (l4 q et on a))),
  some (AObj.cells [] true 3),
  some
  (AObj.row Rk.mine 3 0 4
  (putT 3 1 [Td.sc (Value.int IntKind.i64 (0 : Int))]
  (putT 2 1 [Td.sc (Value.int IntKind.i64 (0 : Int))]
  (putT 1 1 [Td.sc (Value.int IntKind.i64 (0 : Int))]
  (putT 0 1 [Td.sc (Value.int IntKind.i64 (0 : Int))] fun j =>
  encL (l4 q et on a) (0 + j)))))),
  none])
  (K
  (AE.returned
  (Value.slice (some (Addr.mk 2 0 (some 0))) 4 0))
  [some (AObj.row Rk.look 3 0 4 (encL (l4 q et on a))),
  some (AObj.cells [] true 3),
  some
  (AObj.row Rk.mine 3 0 4
  (putT 3 1 [Td.sc (Value.int IntKind.i64 a)]
  (putT 2 1 [Td.sc (Value.int IntKind.i64 (one (on != (0 : Int))))]
  (putT 1 1
  [Td.sc
  (Value.int IntKind.i64 (pastN now a (if (0 : Int) > pt then (0 : Int) else pt)))]
  (putT 0 1
  [Td.sc
  (Value.int IntKind.i64
  (one
  (decide
  (pastN now a (if (0 : Int) > pt then (0 : Int) else pt) <
  if (0 : Int) > pt then (0 : Int) else pt))))]
  fun j => encL (l4 q et on a) (0 + j)))))),
  none]))
  (K
  (AE.returned
  (Value.slice (some (Addr.mk 2 0 (some 0))) 4 0))
  [some (AObj.row Rk.look 3 0 4 (encL (l4 q et on a))),
  some (AObj.cells [] true 3),
  some
  (AObj.row Rk.mine 3 0 4
  (putT 3 1 [Td.sc (Value.int IntKind.i64 a)]
  (putT 2 1 [Td.sc (Value.int IntKind.i64 (one (on != (0 : Int))))]
  (putT 1 1
  [Td.sc (Value.int IntKind.i64 (pastN now a (if (0 : Int) > pt then (0 : Int) else pt)))]
  (putT 0 1
  [Td.sc
  (Value.int IntKind.i64
  (one
  (decide
  (pastN now a (if (0 : Int) > pt then (0 : Int) else pt) <
  if (0 : Int) > pt then (0 : Int) else pt))))]
  fun j => encL (l4 q et on a) (0 + j)))))),
  none])))))))))) := by kernel_rfl
end Go.Proofs.Ytaceobjppcmhjaa.Ev
