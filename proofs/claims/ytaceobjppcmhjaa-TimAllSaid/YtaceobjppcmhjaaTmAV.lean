/-
  What has to hold: printed by the evaluator.
-/
import Derived.Test.YtaceobjppcmhjaaTmR
set_option linter.unusedVariables false
set_option maxRecDepth 1000000
namespace Go.Proofs.Ytaceobjppcmhjaa.Ev
open Go Go.Proofs
theorem vc_ta (kind et a pt now : Int) (q on inn : Bool) (l : List Vl) (c : Nat) (β : Bs) : lawE Try.prog toldG 100 20 β (fun _ => 7) (cnOf 1 fun _ => []) (fun _ _ => False) 7 [.int .i64 kind, .bool q, .int .u16 et, .bool on, .int .i32 a, .bool inn, .int .i32 pt, .int .i32 now, .slice (some ⟨0, 0, some 0⟩) l.length c] (mkS [some (rowO .still l)]) trueE =
(  br (decide (Int.ofNat (List.length l) > (6 : Int))) True
  (br q
  (br on
  (need
  (okStepR
  [Ta.cell (Td.sc (Value.int IntKind.i64 kind)),
  Ta.cell
  (Td.fr 3 4 0
  (selT 3 4
  [Td.sc (Value.int IntKind.i64 (1 : Int)), Td.sc (Value.int IntKind.i64 (1 : Int)),
  Td.sc (Value.float FloatKind.f64 0), Td.sc (Value.int IntKind.i64 (4 : Int)),
  Td.sc (Value.int IntKind.i64 (IntKind.wrap IntKind.i64 et)),
  Td.sc (Value.float FloatKind.f64 0), Td.sc (Value.int IntKind.i64 (1 : Int)),
  Td.sc (Value.int IntKind.i64 (1 : Int)), Td.sc (Value.float FloatKind.f64 0),
  Td.sc (Value.int IntKind.i64 (4 : Int)), Td.sc (Value.int IntKind.i64 (IntKind.wrap IntKind.i64 a)),
  Td.sc (Value.float FloatKind.f64 0)])),
  Ta.cell (Td.sc (Value.bool inn)), Ta.cell (Td.sc (Value.int IntKind.i64 (IntKind.wrap IntKind.i64 pt))),
  Ta.cell (Td.sc (Value.int IntKind.i64 (IntKind.wrap IntKind.i64 now)))])
  (need
  (true &&
  Nat.ble
  (0 +
  List.length
  (timL kind
  [Vl.mk (1 : Int)
  (bif true then (1 : Int)
  else
  bif true then IntKind.wrap IntKind.i64 et
  else bif true then (1 : Int) else IntKind.wrap IntKind.i64 a)
  0,
  Vl.mk (4 : Int)
  (bif false then (1 : Int)
  else
  bif true then IntKind.wrap IntKind.i64 et
  else bif true then (1 : Int) else IntKind.wrap IntKind.i64 a)
  0,
  Vl.mk (1 : Int)
  (bif false then (1 : Int)
  else
  bif false then IntKind.wrap IntKind.i64 et
  else bif true then (1 : Int) else IntKind.wrap IntKind.i64 a)
  0,
  Vl.mk (4 : Int)
  (bif false then (1 : Int)
  else
  bif false then IntKind.wrap IntKind.i64 et
  else bif false then (1 : Int) else IntKind.wrap IntKind.i64 a)
  0]
  inn (IntKind.wrap IntKind.i64 pt) (IntKind.wrap IntKind.i64 now)))
  (List.length
  (timL kind
  [Vl.mk (1 : Int)
  (bif true then (1 : Int)
  else
  bif true then IntKind.wrap IntKind.i64 et
  else bif true then (1 : Int) else IntKind.wrap IntKind.i64 a)
  0,
  Vl.mk (4 : Int)
  (bif false then (1 : Int)
  else
  bif true then IntKind.wrap IntKind.i64 et
  else bif true then (1 : Int) else IntKind.wrap IntKind.i64 a)
  0,
  Vl.mk (1 : Int)
  (bif false then (1 : Int)
  else
  bif false then IntKind.wrap IntKind.i64 et
  else bif true then (1 : Int) else IntKind.wrap IntKind.i64 a)
  0,
  Vl.mk (4 : Int)
  (bif false then (1 : Int)
  else
  bif false then IntKind.wrap IntKind.i64 et
  else bif false then (1 : Int) else IntKind.wrap IntKind.i64 a)
  0]
  inn (IntKind.wrap IntKind.i64 pt) (IntKind.wrap IntKind.i64 now))))
  (need
  (true &&
  Nat.ble
  (0 +
  List.length
  (timL kind
  [Vl.mk (1 : Int)
  (bif true then (1 : Int)
  else
  bif true then IntKind.wrap IntKind.i64 et
  else bif true then (1 : Int) else IntKind.wrap IntKind.i64 a)
  0,
  Vl.mk (4 : Int)
  (bif false then (1 : Int)
  else
  bif true then IntKind.wrap IntKind.i64 et
  else bif true then (1 : Int) else IntKind.wrap IntKind.i64 a)
  0,
  Vl.mk (1 : Int)
  (bif false then (1 : Int)
  else
  bif false then IntKind.wrap IntKind.i64 et
  else bif true then (1 : Int) else IntKind.wrap IntKind.i64 a)
  0,
  Vl.mk (4 : Int)
  (bif false then (1 : Int)
  else
  bif false then IntKind.wrap IntKind.i64 et
  else bif false then (1 : Int) else IntKind.wrap IntKind.i64 a)
  0]
  inn (IntKind.wrap IntKind.i64 pt) (IntKind.wrap IntKind.i64 now)))
  (List.length
  (timL kind
  [Vl.mk (1 : Int)
  (bif true then (1 : Int)
  else
  bif true then IntKind.wrap IntKind.i64 et
  else bif true then (1 : Int) else IntKind.wrap IntKind.i64 a)
  0,
  Vl.mk (4 : Int)
  (bif false then (1 : Int)
  else
  bif true then IntKind.wrap IntKind.i64 et
  else bif true then (1 : Int) else IntKind.wrap IntKind.i64 a)
  0,
  Vl.mk (1 : Int)
  (bif false then (1 : Int)
  else
  bif false then IntKind.wrap IntKind.i64 et
  else bif true then (1 : Int) else IntKind.wrap IntKind.i64 a)
  0,
  Vl.mk (4 : Int)
  (bif false then (1 : Int)
  else
  bif false then IntKind.wrap IntKind.i64 et
  else bif false then (1 : Int) else IntKind.wrap IntKind.i64 a)
  0]
  inn (IntKind.wrap IntKind.i64 pt) (IntKind.wrap IntKind.i64 now))))
  (need
  (ok2 Vl Vl (fun x x_1 x_2 x_3 => true)
  [Ta.cell
  (Td.fr 3
  (List.length
  (timL kind
  [Vl.mk (1 : Int)
  (bif true then (1 : Int)
  else
  bif true then IntKind.wrap IntKind.i64 et
  else bif true then (1 : Int) else IntKind.wrap IntKind.i64 a)
  0,
  Vl.mk (4 : Int)
  (bif false then (1 : Int)
  else
  bif true then IntKind.wrap IntKind.i64 et
  else bif true then (1 : Int) else IntKind.wrap IntKind.i64 a)
  0,
  Vl.mk (1 : Int)
  (bif false then (1 : Int)
  else
  bif false then IntKind.wrap IntKind.i64 et
  else bif true then (1 : Int) else IntKind.wrap IntKind.i64 a)
  0,
  Vl.mk (4 : Int)
  (bif false then (1 : Int)
  else
  bif false then IntKind.wrap IntKind.i64 et
  else bif false then (1 : Int) else IntKind.wrap IntKind.i64 a)
  0]
  inn (IntKind.wrap IntKind.i64 pt) (IntKind.wrap IntKind.i64 now)))
  (timC
  [Vl.mk (1 : Int)
  (bif true then (1 : Int)
  else
  bif true then IntKind.wrap IntKind.i64 et
  else bif true then (1 : Int) else IntKind.wrap IntKind.i64 a)
  0,
  Vl.mk (4 : Int)
  (bif false then (1 : Int)
  else
  bif true then IntKind.wrap IntKind.i64 et
  else bif true then (1 : Int) else IntKind.wrap IntKind.i64 a)
  0,
  Vl.mk (1 : Int)
  (bif false then (1 : Int)
  else
  bif false then IntKind.wrap IntKind.i64 et
  else bif true then (1 : Int) else IntKind.wrap IntKind.i64 a)
  0,
  Vl.mk (4 : Int)
  (bif false then (1 : Int)
  else
  bif false then IntKind.wrap IntKind.i64 et
  else bif false then (1 : Int) else IntKind.wrap IntKind.i64 a)
  0]
  (nilT
  (Td.fr 3 4 0
  (selT 3 4
  [Td.sc (Value.int IntKind.i64 (1 : Int)), Td.sc (Value.int IntKind.i64 (1 : Int)),
  Td.sc (Value.float FloatKind.f64 0), Td.sc (Value.int IntKind.i64 (4 : Int)),
  Td.sc (Value.int IntKind.i64 (IntKind.wrap IntKind.i64 et)),
  Td.sc (Value.float FloatKind.f64 0), Td.sc (Value.int IntKind.i64 (1 : Int)),
  Td.sc (Value.int IntKind.i64 (1 : Int)), Td.sc (Value.float FloatKind.f64 0),
  Td.sc (Value.int IntKind.i64 (4 : Int)),
  Td.sc (Value.int IntKind.i64 (IntKind.wrap IntKind.i64 a)),
  Td.sc (Value.float FloatKind.f64 0)]))))
  fun i =>
  encL
  (timL kind
  [Vl.mk (1 : Int)
  (bif true then (1 : Int)
  else
  bif true then IntKind.wrap IntKind.i64 et
  else bif true then (1 : Int) else IntKind.wrap IntKind.i64 a)
  0,
  Vl.mk (4 : Int)
  (bif false then (1 : Int)
  else
  bif true then IntKind.wrap IntKind.i64 et
  else bif true then (1 : Int) else IntKind.wrap IntKind.i64 a)
  0,
  Vl.mk (1 : Int)
  (bif false then (1 : Int)
  else
  bif false then IntKind.wrap IntKind.i64 et
  else bif true then (1 : Int) else IntKind.wrap IntKind.i64 a)
  0,
  Vl.mk (4 : Int)
  (bif false then (1 : Int)
  else
  bif false then IntKind.wrap IntKind.i64 et
  else bif false then (1 : Int) else IntKind.wrap IntKind.i64 a)
  0]
  inn (IntKind.wrap IntKind.i64 pt) (IntKind.wrap IntKind.i64 now))
  (0 + i)),
  Ta.cell
  (Td.fr 3
  (List.length
  (timL kind
  [Vl.mk (1 : Int)
  (bif true then (1 : Int)
  else
  bif true then IntKind.wrap IntKind.i64 et
  else bif true then (1 : Int) else IntKind.wrap IntKind.i64 a)
  0,
  Vl.mk (4 : Int)
  (bif false then (1 : Int)
  else
  bif true then IntKind.wrap IntKind.i64 et
  else bif true then (1 : Int) else IntKind.wrap IntKind.i64 a)
  0,
  Vl.mk (1 : Int)
  (bif false then (1 : Int)
  else
  bif false then IntKind.wrap IntKind.i64 et
  else bif true then (1 : Int) else IntKind.wrap IntKind.i64 a)
  0,
  Vl.mk (4 : Int)
  (bif false then (1 : Int)
  else
  bif false then IntKind.wrap IntKind.i64 et
  else bif false then (1 : Int) else IntKind.wrap IntKind.i64 a)
  0]
  inn (IntKind.wrap IntKind.i64 pt) (IntKind.wrap IntKind.i64 now)))
  (timC
  [Vl.mk (1 : Int)
  (bif true then (1 : Int)
  else
  bif true then IntKind.wrap IntKind.i64 et
  else bif true then (1 : Int) else IntKind.wrap IntKind.i64 a)
  0,
  Vl.mk (4 : Int)
  (bif false then (1 : Int)
  else
  bif true then IntKind.wrap IntKind.i64 et
  else bif true then (1 : Int) else IntKind.wrap IntKind.i64 a)
  0,
  Vl.mk (1 : Int)
  (bif false then (1 : Int)
  else
  bif false then IntKind.wrap IntKind.i64 et
  else bif true then (1 : Int) else IntKind.wrap IntKind.i64 a)
  0,
  Vl.mk (4 : Int)
  (bif false then (1 : Int)
  else
  bif false then IntKind.wrap IntKind.i64 et
  else bif false then (1 : Int) else IntKind.wrap IntKind.i64 a)
  0]
  (nilT
  (Td.fr 3 4 0
  (selT 3 4
  [Td.sc (Value.int IntKind.i64 (1 : Int)), Td.sc (Value.int IntKind.i64 (1 : Int)),
  Td.sc (Value.float FloatKind.f64 0), Td.sc (Value.int IntKind.i64 (4 : Int)),
  Td.sc (Value.int IntKind.i64 (IntKind.wrap IntKind.i64 et)),
  Td.sc (Value.float FloatKind.f64 0), Td.sc (Value.int IntKind.i64 (1 : Int)),
  Td.sc (Value.int IntKind.i64 (1 : Int)), Td.sc (Value.float FloatKind.f64 0),
  Td.sc (Value.int IntKind.i64 (4 : Int)),
  Td.sc (Value.int IntKind.i64 (IntKind.wrap IntKind.i64 a)),
  Td.sc (Value.float FloatKind.f64 0)]))))
  fun i =>
  encL
  (timL kind
  [Vl.mk (1 : Int)
  (bif true then (1 : Int)
  else
  bif true then IntKind.wrap IntKind.i64 et
  else bif true then (1 : Int) else IntKind.wrap IntKind.i64 a)
  0,
  Vl.mk (4 : Int)
  (bif false then (1 : Int)
  else
  bif true then IntKind.wrap IntKind.i64 et
  else bif true then (1 : Int) else IntKind.wrap IntKind.i64 a)
  0,
  Vl.mk (1 : Int)
  (bif false then (1 : Int)
  else
  bif false then IntKind.wrap IntKind.i64 et
  else bif true then (1 : Int) else IntKind.wrap IntKind.i64 a)
  0,
  Vl.mk (4 : Int)
  (bif false then (1 : Int)
  else
  bif false then IntKind.wrap IntKind.i64 et
  else bif false then (1 : Int) else IntKind.wrap IntKind.i64 a)
  0]
  inn (IntKind.wrap IntKind.i64 pt) (IntKind.wrap IntKind.i64 now))
  (0 + i))])
  (br
  (!sameVs
  (listT Vl
  (Td.fr 3
  (List.length
  (timL kind
  [Vl.mk (1 : Int)
  (bif true then (1 : Int)
  else
  bif true then IntKind.wrap IntKind.i64 et
  else bif true then (1 : Int) else IntKind.wrap IntKind.i64 a)
  0,
  Vl.mk (4 : Int)
  (bif false then (1 : Int)
  else
  bif true then IntKind.wrap IntKind.i64 et
  else bif true then (1 : Int) else IntKind.wrap IntKind.i64 a)
  0,
  Vl.mk (1 : Int)
  (bif false then (1 : Int)
  else
  bif false then IntKind.wrap IntKind.i64 et
  else bif true then (1 : Int) else IntKind.wrap IntKind.i64 a)
  0,
  Vl.mk (4 : Int)
  (bif false then (1 : Int)
  else
  bif false then IntKind.wrap IntKind.i64 et
  else bif false then (1 : Int) else IntKind.wrap IntKind.i64 a)
  0]
  inn (IntKind.wrap IntKind.i64 pt) (IntKind.wrap IntKind.i64 now)))
  (timC
  [Vl.mk (1 : Int)
  (bif true then (1 : Int)
  else
  bif true then IntKind.wrap IntKind.i64 et
  else bif true then (1 : Int) else IntKind.wrap IntKind.i64 a)
  0,
  Vl.mk (4 : Int)
  (bif false then (1 : Int)
  else
  bif true then IntKind.wrap IntKind.i64 et
  else bif true then (1 : Int) else IntKind.wrap IntKind.i64 a)
  0,
  Vl.mk (1 : Int)
  (bif false then (1 : Int)
  else
  bif false then IntKind.wrap IntKind.i64 et
  else bif true then (1 : Int) else IntKind.wrap IntKind.i64 a)
  0,
  Vl.mk (4 : Int)
  (bif false then (1 : Int)
  else
  bif false then IntKind.wrap IntKind.i64 et
  else bif false then (1 : Int) else IntKind.wrap IntKind.i64 a)
  0]
  (nilT
  (Td.fr 3 4 0
  (selT 3 4
  [Td.sc (Value.int IntKind.i64 (1 : Int)), Td.sc (Value.int IntKind.i64 (1 : Int)),
  Td.sc (Value.float FloatKind.f64 0), Td.sc (Value.int IntKind.i64 (4 : Int)),
  Td.sc (Value.int IntKind.i64 (IntKind.wrap IntKind.i64 et)),
  Td.sc (Value.float FloatKind.f64 0), Td.sc (Value.int IntKind.i64 (1 : Int)),
  Td.sc (Value.int IntKind.i64 (1 : Int)), Td.sc (Value.float FloatKind.f64 0),
  Td.sc (Value.int IntKind.i64 (4 : Int)),
  Td.sc (Value.int IntKind.i64 (IntKind.wrap IntKind.i64 a)),
  Td.sc (Value.float FloatKind.f64 0)]))))
  fun i =>
  encL
  (timL kind
  [Vl.mk (1 : Int)
  (bif true then (1 : Int)
  else
  bif true then IntKind.wrap IntKind.i64 et
  else bif true then (1 : Int) else IntKind.wrap IntKind.i64 a)
  0,
  Vl.mk (4 : Int)
  (bif false then (1 : Int)
  else
  bif true then IntKind.wrap IntKind.i64 et
  else bif true then (1 : Int) else IntKind.wrap IntKind.i64 a)
  0,
  Vl.mk (1 : Int)
  (bif false then (1 : Int)
  else
  bif false then IntKind.wrap IntKind.i64 et
  else bif true then (1 : Int) else IntKind.wrap IntKind.i64 a)
  0,
  Vl.mk (4 : Int)
  (bif false then (1 : Int)
  else
  bif false then IntKind.wrap IntKind.i64 et
  else bif false then (1 : Int) else IntKind.wrap IntKind.i64 a)
  0]
  inn (IntKind.wrap IntKind.i64 pt) (IntKind.wrap IntKind.i64 now))
  (0 + i)))
  (listT Vl
  (Td.fr 3
  (List.length
  (timL kind
  [Vl.mk (1 : Int)
  (bif true then (1 : Int)
  else
  bif true then IntKind.wrap IntKind.i64 et
  else bif true then (1 : Int) else IntKind.wrap IntKind.i64 a)
  0,
  Vl.mk (4 : Int)
  (bif false then (1 : Int)
  else
  bif true then IntKind.wrap IntKind.i64 et
  else bif true then (1 : Int) else IntKind.wrap IntKind.i64 a)
  0,
  Vl.mk (1 : Int)
  (bif false then (1 : Int)
  else
  bif false then IntKind.wrap IntKind.i64 et
  else bif true then (1 : Int) else IntKind.wrap IntKind.i64 a)
  0,
  Vl.mk (4 : Int)
  (bif false then (1 : Int)
  else
  bif false then IntKind.wrap IntKind.i64 et
  else bif false then (1 : Int) else IntKind.wrap IntKind.i64 a)
  0]
  inn (IntKind.wrap IntKind.i64 pt) (IntKind.wrap IntKind.i64 now)))
  (timC
  [Vl.mk (1 : Int)
  (bif true then (1 : Int)
  else
  bif true then IntKind.wrap IntKind.i64 et
  else bif true then (1 : Int) else IntKind.wrap IntKind.i64 a)
  0,
  Vl.mk (4 : Int)
  (bif false then (1 : Int)
  else
  bif true then IntKind.wrap IntKind.i64 et
  else bif true then (1 : Int) else IntKind.wrap IntKind.i64 a)
  0,
  Vl.mk (1 : Int)
  (bif false then (1 : Int)
  else
  bif false then IntKind.wrap IntKind.i64 et
  else bif true then (1 : Int) else IntKind.wrap IntKind.i64 a)
  0,
  Vl.mk (4 : Int)
  (bif false then (1 : Int)
  else
  bif false then IntKind.wrap IntKind.i64 et
  else bif false then (1 : Int) else IntKind.wrap IntKind.i64 a)
  0]
  (nilT
  (Td.fr 3 4 0
  (selT 3 4
  [Td.sc (Value.int IntKind.i64 (1 : Int)), Td.sc (Value.int IntKind.i64 (1 : Int)),
  Td.sc (Value.float FloatKind.f64 0), Td.sc (Value.int IntKind.i64 (4 : Int)),
  Td.sc (Value.int IntKind.i64 (IntKind.wrap IntKind.i64 et)),
  Td.sc (Value.float FloatKind.f64 0), Td.sc (Value.int IntKind.i64 (1 : Int)),
  Td.sc (Value.int IntKind.i64 (1 : Int)), Td.sc (Value.float FloatKind.f64 0),
  Td.sc (Value.int IntKind.i64 (4 : Int)),
  Td.sc (Value.int IntKind.i64 (IntKind.wrap IntKind.i64 a)),
  Td.sc (Value.float FloatKind.f64 0)]))))
  fun i =>
  encL
  (timL kind
  [Vl.mk (1 : Int)
  (bif true then (1 : Int)
  else
  bif true then IntKind.wrap IntKind.i64 et
  else bif true then (1 : Int) else IntKind.wrap IntKind.i64 a)
  0,
  Vl.mk (4 : Int)
  (bif false then (1 : Int)
  else
  bif true then IntKind.wrap IntKind.i64 et
  else bif true then (1 : Int) else IntKind.wrap IntKind.i64 a)
  0,
  Vl.mk (1 : Int)
  (bif false then (1 : Int)
  else
  bif false then IntKind.wrap IntKind.i64 et
  else bif true then (1 : Int) else IntKind.wrap IntKind.i64 a)
  0,
  Vl.mk (4 : Int)
  (bif false then (1 : Int)
  else
  bif false then IntKind.wrap IntKind.i64 et
  else bif false then (1 : Int) else IntKind.wrap IntKind.i64 a)
  0]
  inn (IntKind.wrap IntKind.i64 pt) (IntKind.wrap IntKind.i64 now))
  (0 + i))))
  False
  (need
  (okStepR
  [Ta.cell (Td.sc (Value.int IntKind.i64 (6 : Int))),
  Ta.cell
  (Td.fr 3 4 0
  (selT 3 4
  [Td.sc (Value.int IntKind.i64 (1 : Int)), Td.sc (Value.int IntKind.i64 (1 : Int)),
  Td.sc (Value.float FloatKind.f64 0), Td.sc (Value.int IntKind.i64 (4 : Int)),
  Td.sc (Value.int IntKind.i64 (IntKind.wrap IntKind.i64 et)),
  Td.sc (Value.float FloatKind.f64 0), Td.sc (Value.int IntKind.i64 (1 : Int)),
  Td.sc (Value.int IntKind.i64 (1 : Int)), Td.sc (Value.float FloatKind.f64 0),
  Td.sc (Value.int IntKind.i64 (4 : Int)),
  Td.sc (Value.int IntKind.i64 (IntKind.wrap IntKind.i64 a)),
  Td.sc (Value.float FloatKind.f64 0)])),
  Ta.cell (Td.sc (Value.bool inn)),
  Ta.cell (Td.sc (Value.int IntKind.i64 (IntKind.wrap IntKind.i64 pt))),
  Ta.cell (Td.sc (Value.int IntKind.i64 (IntKind.wrap IntKind.i64 now)))])
  (br
  (!sameVs
  [Vl.mk (1 : Int)
  (one
  (bif inn then
  goesN (IntKind.wrap IntKind.i64 now)
  (atM
  (bif false then (1 : Int)
  else
  bif false then IntKind.wrap IntKind.i64 et
  else bif true then (1 : Int) else IntKind.wrap IntKind.i64 a)
  (bif false then (1 : Int)
  else
  bif false then IntKind.wrap IntKind.i64 et
  else bif false then (1 : Int) else IntKind.wrap IntKind.i64 a)
  (IntKind.wrap IntKind.i64 now))
  (ptM (IntKind.wrap IntKind.i64 pt)) ==
  ptM (IntKind.wrap IntKind.i64 pt)
  else false))
  0,
  Vl.mk (4 : Int)
  (bif inn then
  goesN (IntKind.wrap IntKind.i64 now)
  (atM
  (bif false then (1 : Int)
  else
  bif false then IntKind.wrap IntKind.i64 et
  else bif true then (1 : Int) else IntKind.wrap IntKind.i64 a)
  (bif false then (1 : Int)
  else
  bif false then IntKind.wrap IntKind.i64 et
  else bif false then (1 : Int) else IntKind.wrap IntKind.i64 a)
  (IntKind.wrap IntKind.i64 now))
  (ptM (IntKind.wrap IntKind.i64 pt))
  else (0 : Int))
  0,
  Vl.mk (1 : Int) (one inn) 0,
  Vl.mk (4 : Int)
  (bif inn then
  atM
  (bif false then (1 : Int)
  else
  bif false then IntKind.wrap IntKind.i64 et
  else bif true then (1 : Int) else IntKind.wrap IntKind.i64 a)
  (bif false then (1 : Int)
  else
  bif false then IntKind.wrap IntKind.i64 et
  else bif false then (1 : Int) else IntKind.wrap IntKind.i64 a)
  (IntKind.wrap IntKind.i64 now)
  else (0 : Int))
  0]
  [Vl.mk (1 : Int)
  (one
  (bif inn then
  goesN (IntKind.wrap IntKind.i64 now)
  (atM
  (bif false then (1 : Int)
  else
  bif false then IntKind.wrap IntKind.i64 et
  else bif true then (1 : Int) else IntKind.wrap IntKind.i64 a)
  (bif false then (1 : Int)
  else
  bif false then IntKind.wrap IntKind.i64 et
  else bif false then (1 : Int) else IntKind.wrap IntKind.i64 a)
  (IntKind.wrap IntKind.i64 now))
  (ptM (IntKind.wrap IntKind.i64 pt)) ==
  ptM (IntKind.wrap IntKind.i64 pt)
  else false))
  0,
  Vl.mk (4 : Int)
  (bif inn then
  goesN (IntKind.wrap IntKind.i64 now)
  (atM
  (bif false then (1 : Int)
  else
  bif false then IntKind.wrap IntKind.i64 et
  else bif true then (1 : Int) else IntKind.wrap IntKind.i64 a)
  (bif false then (1 : Int)
  else
  bif false then IntKind.wrap IntKind.i64 et
  else bif false then (1 : Int) else IntKind.wrap IntKind.i64 a)
  (IntKind.wrap IntKind.i64 now))
  (ptM (IntKind.wrap IntKind.i64 pt))
  else (0 : Int))
  0,
  Vl.mk (1 : Int) (one inn) 0,
  Vl.mk (4 : Int)
  (bif inn then
  atM
  (bif false then (1 : Int)
  else
  bif false then IntKind.wrap IntKind.i64 et
  else bif true then (1 : Int) else IntKind.wrap IntKind.i64 a)
  (bif false then (1 : Int)
  else
  bif false then IntKind.wrap IntKind.i64 et
  else bif false then (1 : Int) else IntKind.wrap IntKind.i64 a)
  (IntKind.wrap IntKind.i64 now)
  else (0 : Int))
  0])
  False
  (need
  (okStepR
  [Ta.cell (Td.sc (Value.int IntKind.i64 (7 : Int))),
  Ta.cell
  (Td.fr 3 4 0
  (selT 3 4
  [Td.sc (Value.int IntKind.i64 (1 : Int)), Td.sc (Value.int IntKind.i64 (1 : Int)),
  Td.sc (Value.float FloatKind.f64 0), Td.sc (Value.int IntKind.i64 (4 : Int)),
  Td.sc (Value.int IntKind.i64 (IntKind.wrap IntKind.i64 et)),
  Td.sc (Value.float FloatKind.f64 0), Td.sc (Value.int IntKind.i64 (1 : Int)),
  Td.sc (Value.int IntKind.i64 (1 : Int)), Td.sc (Value.float FloatKind.f64 0),
  Td.sc (Value.int IntKind.i64 (4 : Int)),
  Td.sc (Value.int IntKind.i64 (IntKind.wrap IntKind.i64 a)),
  Td.sc (Value.float FloatKind.f64 0)])),
  Ta.cell (Td.sc (Value.bool inn)),
  Ta.cell (Td.sc (Value.int IntKind.i64 (IntKind.wrap IntKind.i64 pt))),
  Ta.cell (Td.sc (Value.int IntKind.i64 (IntKind.wrap IntKind.i64 now)))])
  (br
  (!sameVs
  [Vl.mk (1 : Int)
  (one
  (bif inn then true
  else
  bif
  (bif true then (1 : Int)
  else
  bif true then IntKind.wrap IntKind.i64 et
  else bif true then (1 : Int) else IntKind.wrap IntKind.i64 a) !=
  (0 : Int) then
  !goesN (IntKind.wrap IntKind.i64 now)
  (atM
  (bif false then (1 : Int)
  else
  bif false then IntKind.wrap IntKind.i64 et
  else bif true then (1 : Int) else IntKind.wrap IntKind.i64 a)
  (bif false then (1 : Int)
  else
  bif false then IntKind.wrap IntKind.i64 et
  else bif false then (1 : Int) else IntKind.wrap IntKind.i64 a)
  (IntKind.wrap IntKind.i64 now))
  (ptM (IntKind.wrap IntKind.i64 pt)) ==
  ptM (IntKind.wrap IntKind.i64 pt)
  else false))
  0,
  Vl.mk (4 : Int)
  (bif inn then (0 : Int)
  else
  bif
  (bif true then (1 : Int)
  else
  bif true then IntKind.wrap IntKind.i64 et
  else bif true then (1 : Int) else IntKind.wrap IntKind.i64 a) !=
  (0 : Int) then
  goesN (IntKind.wrap IntKind.i64 now)
  (atM
  (bif false then (1 : Int)
  else
  bif false then IntKind.wrap IntKind.i64 et
  else bif true then (1 : Int) else IntKind.wrap IntKind.i64 a)
  (bif false then (1 : Int)
  else
  bif false then IntKind.wrap IntKind.i64 et
  else bif false then (1 : Int) else IntKind.wrap IntKind.i64 a)
  (IntKind.wrap IntKind.i64 now))
  (ptM (IntKind.wrap IntKind.i64 pt))
  else
  bif false then (1 : Int)
  else
  bif true then IntKind.wrap IntKind.i64 et
  else bif true then (1 : Int) else IntKind.wrap IntKind.i64 a)
  0,
  Vl.mk (1 : Int)
  (one
  (bif inn then false
  else
  bif
  (bif true then (1 : Int)
  else
  bif true then IntKind.wrap IntKind.i64 et
  else bif true then (1 : Int) else IntKind.wrap IntKind.i64 a) !=
  (0 : Int) then
  true
  else
  (bif false then (1 : Int)
  else
  bif false then IntKind.wrap IntKind.i64 et
  else bif true then (1 : Int) else IntKind.wrap IntKind.i64 a) !=
  (0 : Int)))
  0,
  Vl.mk (4 : Int)
  (bif inn then (0 : Int)
  else
  bif
  (bif true then (1 : Int)
  else
  bif true then IntKind.wrap IntKind.i64 et
  else bif true then (1 : Int) else IntKind.wrap IntKind.i64 a) !=
  (0 : Int) then
  atM
  (bif false then (1 : Int)
  else
  bif false then IntKind.wrap IntKind.i64 et
  else bif true then (1 : Int) else IntKind.wrap IntKind.i64 a)
  (bif false then (1 : Int)
  else
  bif false then IntKind.wrap IntKind.i64 et
  else bif false then (1 : Int) else IntKind.wrap IntKind.i64 a)
  (IntKind.wrap IntKind.i64 now)
  else
  bif false then (1 : Int)
  else
  bif false then IntKind.wrap IntKind.i64 et
  else bif false then (1 : Int) else IntKind.wrap IntKind.i64 a)
  0]
  [Vl.mk (1 : Int)
  (one
  (bif inn then true
  else
  bif
  (bif true then (1 : Int)
  else
  bif true then IntKind.wrap IntKind.i64 et
  else bif true then (1 : Int) else IntKind.wrap IntKind.i64 a) !=
  (0 : Int) then
  !goesN (IntKind.wrap IntKind.i64 now)
  (atM
  (bif false then (1 : Int)
  else
  bif false then IntKind.wrap IntKind.i64 et
  else bif true then (1 : Int) else IntKind.wrap IntKind.i64 a)
  (bif false then (1 : Int)
  else
  bif false then IntKind.wrap IntKind.i64 et
  else bif false then (1 : Int) else IntKind.wrap IntKind.i64 a)
  (IntKind.wrap IntKind.i64 now))
  (ptM (IntKind.wrap IntKind.i64 pt)) ==
  ptM (IntKind.wrap IntKind.i64 pt)
  else false))
  0,
  Vl.mk (4 : Int)
  (bif inn then (0 : Int)
  else
  bif
  (bif true then (1 : Int)
  else
  bif true then IntKind.wrap IntKind.i64 et
  else bif true then (1 : Int) else IntKind.wrap IntKind.i64 a) !=
  (0 : Int) then
  goesN (IntKind.wrap IntKind.i64 now)
  (atM
  (bif false then (1 : Int)
  else
  bif false then IntKind.wrap IntKind.i64 et
  else bif true then (1 : Int) else IntKind.wrap IntKind.i64 a)
  (bif false then (1 : Int)
  else
  bif false then IntKind.wrap IntKind.i64 et
  else bif false then (1 : Int) else IntKind.wrap IntKind.i64 a)
  (IntKind.wrap IntKind.i64 now))
  (ptM (IntKind.wrap IntKind.i64 pt))
  else
  bif false then (1 : Int)
  else
  bif true then IntKind.wrap IntKind.i64 et
  else bif true then (1 : Int) else IntKind.wrap IntKind.i64 a)
  0,
  Vl.mk (1 : Int)
  (one
  (bif inn then false
  else
  bif
  (bif true then (1 : Int)
  else
  bif true then IntKind.wrap IntKind.i64 et
  else bif true then (1 : Int) else IntKind.wrap IntKind.i64 a) !=
  (0 : Int) then
  true
  else
  (bif false then (1 : Int)
  else
  bif false then IntKind.wrap IntKind.i64 et
  else bif true then (1 : Int) else IntKind.wrap IntKind.i64 a) !=
  (0 : Int)))
  0,
  Vl.mk (4 : Int)
  (bif inn then (0 : Int)
  else
  bif
  (bif true then (1 : Int)
  else
  bif true then IntKind.wrap IntKind.i64 et
  else bif true then (1 : Int) else IntKind.wrap IntKind.i64 a) !=
  (0 : Int) then
  atM
  (bif false then (1 : Int)
  else
  bif false then IntKind.wrap IntKind.i64 et
  else bif true then (1 : Int) else IntKind.wrap IntKind.i64 a)
  (bif false then (1 : Int)
  else
  bif false then IntKind.wrap IntKind.i64 et
  else bif false then (1 : Int) else IntKind.wrap IntKind.i64 a)
  (IntKind.wrap IntKind.i64 now)
  else
  bif false then (1 : Int)
  else
  bif false then IntKind.wrap IntKind.i64 et
  else bif false then (1 : Int) else IntKind.wrap IntKind.i64 a)
  0])
  False
  (need
  (okStepR
  [Ta.cell (Td.sc (Value.int IntKind.i64 (8 : Int))),
  Ta.cell
  (Td.fr 3 4 0
  (selT 3 4
  [Td.sc (Value.int IntKind.i64 (1 : Int)), Td.sc (Value.int IntKind.i64 (1 : Int)),
  Td.sc (Value.float FloatKind.f64 0),
  Td.sc (Value.int IntKind.i64 (4 : Int)),
  Td.sc (Value.int IntKind.i64 (IntKind.wrap IntKind.i64 et)),
  Td.sc (Value.float FloatKind.f64 0),
  Td.sc (Value.int IntKind.i64 (1 : Int)), Td.sc (Value.int IntKind.i64 (1 : Int)),
  Td.sc (Value.float FloatKind.f64 0),
  Td.sc (Value.int IntKind.i64 (4 : Int)),
  Td.sc (Value.int IntKind.i64 (IntKind.wrap IntKind.i64 a)),
  Td.sc (Value.float FloatKind.f64 0)])),
  Ta.cell (Td.sc (Value.bool inn)),
  Ta.cell (Td.sc (Value.int IntKind.i64 (IntKind.wrap IntKind.i64 pt))),
  Ta.cell (Td.sc (Value.int IntKind.i64 (IntKind.wrap IntKind.i64 now)))])
  (br
  (!sameVs
  [Vl.mk (1 : Int)
  (one
  (bif
  tpB
  ((bif false then (1 : Int)
  else
  bif false then IntKind.wrap IntKind.i64 et
  else bif true then (1 : Int) else IntKind.wrap IntKind.i64 a) !=
  (0 : Int))
  inn
  (bif false then (1 : Int)
  else
  bif false then IntKind.wrap IntKind.i64 et
  else bif false then (1 : Int) else IntKind.wrap IntKind.i64 a)
  (ptM (IntKind.wrap IntKind.i64 pt)) (IntKind.wrap IntKind.i64 now) then
  !goesN (IntKind.wrap IntKind.i64 now)
  (atM
  (bif false then (1 : Int)
  else
  bif false then IntKind.wrap IntKind.i64 et
  else bif true then (1 : Int) else IntKind.wrap IntKind.i64 a)
  (bif false then (1 : Int)
  else
  bif false then IntKind.wrap IntKind.i64 et
  else bif false then (1 : Int) else IntKind.wrap IntKind.i64 a)
  (IntKind.wrap IntKind.i64 now))
  (ptM (IntKind.wrap IntKind.i64 pt)) ==
  ptM (IntKind.wrap IntKind.i64 pt)
  else false))
  0,
  Vl.mk (4 : Int)
  (bif
  tpB
  ((bif false then (1 : Int)
  else
  bif false then IntKind.wrap IntKind.i64 et
  else bif true then (1 : Int) else IntKind.wrap IntKind.i64 a) !=
  (0 : Int))
  inn
  (bif false then (1 : Int)
  else
  bif false then IntKind.wrap IntKind.i64 et
  else bif false then (1 : Int) else IntKind.wrap IntKind.i64 a)
  (ptM (IntKind.wrap IntKind.i64 pt)) (IntKind.wrap IntKind.i64 now) then
  goesN (IntKind.wrap IntKind.i64 now)
  (atM
  (bif false then (1 : Int)
  else
  bif false then IntKind.wrap IntKind.i64 et
  else bif true then (1 : Int) else IntKind.wrap IntKind.i64 a)
  (bif false then (1 : Int)
  else
  bif false then IntKind.wrap IntKind.i64 et
  else bif false then (1 : Int) else IntKind.wrap IntKind.i64 a)
  (IntKind.wrap IntKind.i64 now))
  (ptM (IntKind.wrap IntKind.i64 pt))
  else (0 : Int))
  0,
  Vl.mk (1 : Int)
  (one
  (tpB
  ((bif false then (1 : Int)
  else
  bif false then IntKind.wrap IntKind.i64 et
  else bif true then (1 : Int) else IntKind.wrap IntKind.i64 a) !=
  (0 : Int))
  inn
  (bif false then (1 : Int)
  else
  bif false then IntKind.wrap IntKind.i64 et
  else bif false then (1 : Int) else IntKind.wrap IntKind.i64 a)
  (ptM (IntKind.wrap IntKind.i64 pt)) (IntKind.wrap IntKind.i64 now)))
  0,
  Vl.mk (4 : Int)
  (bif
  tpB
  ((bif false then (1 : Int)
  else
  bif false then IntKind.wrap IntKind.i64 et
  else bif true then (1 : Int) else IntKind.wrap IntKind.i64 a) !=
  (0 : Int))
  inn
  (bif false then (1 : Int)
  else
  bif false then IntKind.wrap IntKind.i64 et
  else bif false then (1 : Int) else IntKind.wrap IntKind.i64 a)
  (ptM (IntKind.wrap IntKind.i64 pt)) (IntKind.wrap IntKind.i64 now) then
  atM
  (bif false then (1 : Int)
  else
  bif false then IntKind.wrap IntKind.i64 et
  else bif true then (1 : Int) else IntKind.wrap IntKind.i64 a)
  (bif false then (1 : Int)
  else
  bif false then IntKind.wrap IntKind.i64 et
  else bif false then (1 : Int) else IntKind.wrap IntKind.i64 a)
  (IntKind.wrap IntKind.i64 now)
  else (0 : Int))
  0]
  [Vl.mk (1 : Int)
  (one
  (bif
  tpB
  ((bif false then (1 : Int)
  else
  bif false then IntKind.wrap IntKind.i64 et
  else bif true then (1 : Int) else IntKind.wrap IntKind.i64 a) !=
  (0 : Int))
  inn
  (bif false then (1 : Int)
  else
  bif false then IntKind.wrap IntKind.i64 et
  else bif false then (1 : Int) else IntKind.wrap IntKind.i64 a)
  (ptM (IntKind.wrap IntKind.i64 pt)) (IntKind.wrap IntKind.i64 now) then
  !goesN (IntKind.wrap IntKind.i64 now)
  (atM
  (bif false then (1 : Int)
  else
  bif false then IntKind.wrap IntKind.i64 et
  else bif true then (1 : Int) else IntKind.wrap IntKind.i64 a)
  (bif false then (1 : Int)
  else
  bif false then IntKind.wrap IntKind.i64 et
  else bif false then (1 : Int) else IntKind.wrap IntKind.i64 a)
  (IntKind.wrap IntKind.i64 now))
  (ptM (IntKind.wrap IntKind.i64 pt)) ==
  ptM (IntKind.wrap IntKind.i64 pt)
  else false))
  0,
  Vl.mk (4 : Int)
  (bif
  tpB
  ((bif false then (1 : Int)
  else
  bif false then IntKind.wrap IntKind.i64 et
  else bif true then (1 : Int) else IntKind.wrap IntKind.i64 a) !=
  (0 : Int))
  inn
  (bif false then (1 : Int)
  else
  bif false then IntKind.wrap IntKind.i64 et
  else bif false then (1 : Int) else IntKind.wrap IntKind.i64 a)
  (ptM (IntKind.wrap IntKind.i64 pt)) (IntKind.wrap IntKind.i64 now) then
  goesN (IntKind.wrap IntKind.i64 now)
  (atM
  (bif false then (1 : Int)
  else
  bif false then IntKind.wrap IntKind.i64 et
  else bif true then (1 : Int) else IntKind.wrap IntKind.i64 a)
  (bif false then (1 : Int)
  else
  bif false then IntKind.wrap IntKind.i64 et
  else bif false then (1 : Int) else IntKind.wrap IntKind.i64 a)
  (IntKind.wrap IntKind.i64 now))
  (ptM (IntKind.wrap IntKind.i64 pt))
  else (0 : Int))
  0,
  Vl.mk (1 : Int)
  (one
  (tpB
  ((bif false then (1 : Int)
  else
  bif false then IntKind.wrap IntKind.i64 et
  else bif true then (1 : Int) else IntKind.wrap IntKind.i64 a) !=
  (0 : Int))
  inn
  (bif false then (1 : Int)
  else
  bif false then IntKind.wrap IntKind.i64 et
  else bif false then (1 : Int) else IntKind.wrap IntKind.i64 a)
  (ptM (IntKind.wrap IntKind.i64 pt)) (IntKind.wrap IntKind.i64 now)))
  0,
  Vl.mk (4 : Int)
  (bif
  tpB
  ((bif false then (1 : Int)
  else
  bif false then IntKind.wrap IntKind.i64 et
  else bif true then (1 : Int) else IntKind.wrap IntKind.i64 a) !=
  (0 : Int))
  inn
  (bif false then (1 : Int)
  else
  bif false then IntKind.wrap IntKind.i64 et
  else bif false then (1 : Int) else IntKind.wrap IntKind.i64 a)
  (ptM (IntKind.wrap IntKind.i64 pt)) (IntKind.wrap IntKind.i64 now) then
  atM
  (bif false then (1 : Int)
  else
  bif false then IntKind.wrap IntKind.i64 et
  else bif true then (1 : Int) else IntKind.wrap IntKind.i64 a)
  (bif false then (1 : Int)
  else
  bif false then IntKind.wrap IntKind.i64 et
  else bif false then (1 : Int) else IntKind.wrap IntKind.i64 a)
  (IntKind.wrap IntKind.i64 now)
  else (0 : Int))
  0])
  False
  (need
  (okStepR
  [Ta.cell (Td.sc (Value.int IntKind.i64 (9 : Int))),
  Ta.cell
  (Td.fr 3 4 0
  (selT 3 4
  [Td.sc (Value.int IntKind.i64 (1 : Int)),
  Td.sc (Value.int IntKind.i64 (1 : Int)),
  Td.sc (Value.float FloatKind.f64 0),
  Td.sc (Value.int IntKind.i64 (4 : Int)),
  Td.sc (Value.int IntKind.i64 (IntKind.wrap IntKind.i64 et)),
  Td.sc (Value.float FloatKind.f64 0),
  Td.sc (Value.int IntKind.i64 (1 : Int)),
  Td.sc (Value.int IntKind.i64 (1 : Int)),
  Td.sc (Value.float FloatKind.f64 0),
  Td.sc (Value.int IntKind.i64 (4 : Int)),
  Td.sc (Value.int IntKind.i64 (IntKind.wrap IntKind.i64 a)),
  Td.sc (Value.float FloatKind.f64 0)])),
  Ta.cell (Td.sc (Value.bool inn)),
  Ta.cell (Td.sc (Value.int IntKind.i64 (IntKind.wrap IntKind.i64 pt))),
  Ta.cell (Td.sc (Value.int IntKind.i64 (IntKind.wrap IntKind.i64 now)))])
  (br
  (!sameVs
  [Vl.mk (1 : Int)
  (bif true then (1 : Int)
  else
  bif true then IntKind.wrap IntKind.i64 et
  else bif true then (1 : Int) else IntKind.wrap IntKind.i64 a)
  0,
  Vl.mk (4 : Int)
  (bif false then (1 : Int)
  else
  bif true then IntKind.wrap IntKind.i64 et
  else bif true then (1 : Int) else IntKind.wrap IntKind.i64 a)
  0,
  Vl.mk (1 : Int)
  (bif false then (1 : Int)
  else
  bif false then IntKind.wrap IntKind.i64 et
  else bif true then (1 : Int) else IntKind.wrap IntKind.i64 a)
  0,
  Vl.mk (4 : Int)
  (bif false then (1 : Int)
  else
  bif false then IntKind.wrap IntKind.i64 et
  else bif false then (1 : Int) else IntKind.wrap IntKind.i64 a)
  0]
  [Vl.mk (1 : Int)
  (bif true then (1 : Int)
  else
  bif true then IntKind.wrap IntKind.i64 et
  else bif true then (1 : Int) else IntKind.wrap IntKind.i64 a)
  0,
  Vl.mk (4 : Int)
  (bif false then (1 : Int)
  else
  bif true then IntKind.wrap IntKind.i64 et
  else bif true then (1 : Int) else IntKind.wrap IntKind.i64 a)
  0,
  Vl.mk (1 : Int)
  (bif false then (1 : Int)
  else
  bif false then IntKind.wrap IntKind.i64 et
  else bif true then (1 : Int) else IntKind.wrap IntKind.i64 a)
  0,
  Vl.mk (4 : Int)
  (bif false then (1 : Int)
  else
  bif false then IntKind.wrap IntKind.i64 et
  else bif false then (1 : Int) else IntKind.wrap IntKind.i64 a)
  0])
  False
  (br (Int.ofNat (List.length l) == (4 : Int)) True
  (need (true && Nat.ble (0 + List.length l) (List.length l))
  (need
  (okStep (timOk true)
  [Ta.cell (Td.sc (Value.int IntKind.i64 (6 : Int))),
  Ta.cell (Td.fr 3 (List.length l) c fun i => encL l (0 + i)),
  Ta.cell (Td.sc (Value.bool inn)),
  Ta.cell (Td.sc (Value.int IntKind.i64 (IntKind.wrap IntKind.i64 pt))),
  Ta.cell (Td.sc (Value.int IntKind.i64 (IntKind.wrap IntKind.i64 now)))])
  (need
  (true &&
  Nat.ble
  (0 +
  List.length
  (timL (6 : Int)
  (listT Vl
  (Td.fr 3 (List.length l) c fun i => encL l (0 + i)))
  inn (IntKind.wrap IntKind.i64 pt) (IntKind.wrap IntKind.i64 now)))
  (List.length
  (timL (6 : Int)
  (listT Vl
  (Td.fr 3 (List.length l) c fun i => encL l (0 + i)))
  inn (IntKind.wrap IntKind.i64 pt) (IntKind.wrap IntKind.i64 now))))
  (need (true && Nat.ble (0 + List.length l) (List.length l))
  (need
  (ok2 Vl Vl (fun x x_1 x_2 x_3 => true)
  [Ta.cell
  (Td.fr 3
  (List.length
  (timL (6 : Int)
  (listT Vl
  (Td.fr 3 (List.length l) c fun i =>
  encL l (0 + i)))
  inn (IntKind.wrap IntKind.i64 pt)
  (IntKind.wrap IntKind.i64 now)))
  (timC
  (listT Vl
  (Td.fr 3 (List.length l) c fun i =>
  encL l (0 + i)))
  (nilT
  (Td.fr 3 (List.length l) c fun i =>
  encL l (0 + i))))
  fun i =>
  encL
  (timL (6 : Int)
  (listT Vl
  (Td.fr 3 (List.length l) c fun i =>
  encL l (0 + i)))
  inn (IntKind.wrap IntKind.i64 pt)
  (IntKind.wrap IntKind.i64 now))
  (0 + i)),
  Ta.cell
  (Td.fr 3 (List.length l) c fun i => encL l (0 + i))])
  (need
  (sameVs
  (listT Vl
  (Td.fr 3
  (List.length
  (timL (6 : Int)
  (listT Vl
  (Td.fr 3 (List.length l) c fun i =>
  encL l (0 + i)))
  inn (IntKind.wrap IntKind.i64 pt)
  (IntKind.wrap IntKind.i64 now)))
  (timC
  (listT Vl
  (Td.fr 3 (List.length l) c fun i =>
  encL l (0 + i)))
  (nilT
  (Td.fr 3 (List.length l) c fun i =>
  encL l (0 + i))))
  fun i =>
  encL
  (timL (6 : Int)
  (listT Vl
  (Td.fr 3 (List.length l) c fun i =>
  encL l (0 + i)))
  inn (IntKind.wrap IntKind.i64 pt)
  (IntKind.wrap IntKind.i64 now))
  (0 + i)))
  (listT Vl
  (Td.fr 3 (List.length l) c fun i => encL l (0 + i))))
  True))))))))))))))))))))
  (need
  (okStepR
  [Ta.cell (Td.sc (Value.int IntKind.i64 kind)),
  Ta.cell
  (Td.fr 3 4 0
  (selT 3 4
  [Td.sc (Value.int IntKind.i64 (1 : Int)), Td.sc (Value.int IntKind.i64 (1 : Int)),
  Td.sc (Value.float FloatKind.f64 0), Td.sc (Value.int IntKind.i64 (4 : Int)),
  Td.sc (Value.int IntKind.i64 (IntKind.wrap IntKind.i64 et)),
  Td.sc (Value.float FloatKind.f64 0), Td.sc (Value.int IntKind.i64 (1 : Int)),
  Td.sc (Value.int IntKind.i64 (0 : Int)), Td.sc (Value.float FloatKind.f64 0),
  Td.sc (Value.int IntKind.i64 (4 : Int)), Td.sc (Value.int IntKind.i64 (IntKind.wrap IntKind.i64 a)),
  Td.sc (Value.float FloatKind.f64 0)])),
  Ta.cell (Td.sc (Value.bool inn)), Ta.cell (Td.sc (Value.int IntKind.i64 (IntKind.wrap IntKind.i64 pt))),
  Ta.cell (Td.sc (Value.int IntKind.i64 (IntKind.wrap IntKind.i64 now)))])
  (need
  (true &&
  Nat.ble
  (0 +
  List.length
  (timL kind
  [Vl.mk (1 : Int)
  (bif true then (1 : Int)
  else
  bif true then IntKind.wrap IntKind.i64 et
  else bif true then (0 : Int) else IntKind.wrap IntKind.i64 a)
  0,
  Vl.mk (4 : Int)
  (bif false then (1 : Int)
  else
  bif true then IntKind.wrap IntKind.i64 et
  else bif true then (0 : Int) else IntKind.wrap IntKind.i64 a)
  0,
  Vl.mk (1 : Int)
  (bif false then (1 : Int)
  else
  bif false then IntKind.wrap IntKind.i64 et
  else bif true then (0 : Int) else IntKind.wrap IntKind.i64 a)
  0,
  Vl.mk (4 : Int)
  (bif false then (1 : Int)
  else
  bif false then IntKind.wrap IntKind.i64 et
  else bif false then (0 : Int) else IntKind.wrap IntKind.i64 a)
  0]
  inn (IntKind.wrap IntKind.i64 pt) (IntKind.wrap IntKind.i64 now)))
  (List.length
  (timL kind
  [Vl.mk (1 : Int)
  (bif true then (1 : Int)
  else
  bif true then IntKind.wrap IntKind.i64 et
  else bif true then (0 : Int) else IntKind.wrap IntKind.i64 a)
  0,
  Vl.mk (4 : Int)
  (bif false then (1 : Int)
  else
  bif true then IntKind.wrap IntKind.i64 et
  else bif true then (0 : Int) else IntKind.wrap IntKind.i64 a)
  0,
  Vl.mk (1 : Int)
  (bif false then (1 : Int)
  else
  bif false then IntKind.wrap IntKind.i64 et
  else bif true then (0 : Int) else IntKind.wrap IntKind.i64 a)
  0,
  Vl.mk (4 : Int)
  (bif false then (1 : Int)
  else
  bif false then IntKind.wrap IntKind.i64 et
  else bif false then (0 : Int) else IntKind.wrap IntKind.i64 a)
  0]
  inn (IntKind.wrap IntKind.i64 pt) (IntKind.wrap IntKind.i64 now))))
  (need
  (true &&
  Nat.ble
  (0 +
  List.length
  (timL kind
  [Vl.mk (1 : Int)
  (bif true then (1 : Int)
  else
  bif true then IntKind.wrap IntKind.i64 et
  else bif true then (0 : Int) else IntKind.wrap IntKind.i64 a)
  0,
  Vl.mk (4 : Int)
  (bif false then (1 : Int)
  else
  bif true then IntKind.wrap IntKind.i64 et
  else bif true then (0 : Int) else IntKind.wrap IntKind.i64 a)
  0,
  Vl.mk (1 : Int)
  (bif false then (1 : Int)
  else
  bif false then IntKind.wrap IntKind.i64 et
  else bif true then (0 : Int) else IntKind.wrap IntKind.i64 a)
  0,
  Vl.mk (4 : Int)
  (bif false then (1 : Int)
  else
  bif false then IntKind.wrap IntKind.i64 et
  else bif false then (0 : Int) else IntKind.wrap IntKind.i64 a)
  0]
  inn (IntKind.wrap IntKind.i64 pt) (IntKind.wrap IntKind.i64 now)))
  (List.length
  (timL kind
  [Vl.mk (1 : Int)
  (bif true then (1 : Int)
  else
  bif true then IntKind.wrap IntKind.i64 et
  else bif true then (0 : Int) else IntKind.wrap IntKind.i64 a)
  0,
  Vl.mk (4 : Int)
  (bif false then (1 : Int)
  else
  bif true then IntKind.wrap IntKind.i64 et
  else bif true then (0 : Int) else IntKind.wrap IntKind.i64 a)
  0,
  Vl.mk (1 : Int)
  (bif false then (1 : Int)
  else
  bif false then IntKind.wrap IntKind.i64 et
  else bif true then (0 : Int) else IntKind.wrap IntKind.i64 a)
  0,
  Vl.mk (4 : Int)
  (bif false then (1 : Int)
  else
  bif false then IntKind.wrap IntKind.i64 et
  else bif false then (0 : Int) else IntKind.wrap IntKind.i64 a)
  0]
  inn (IntKind.wrap IntKind.i64 pt) (IntKind.wrap IntKind.i64 now))))
  (need
  (ok2 Vl Vl (fun x x_1 x_2 x_3 => true)
  [Ta.cell
  (Td.fr 3
  (List.length
  (timL kind
  [Vl.mk (1 : Int)
  (bif true then (1 : Int)
  else
  bif true then IntKind.wrap IntKind.i64 et
  else bif true then (0 : Int) else IntKind.wrap IntKind.i64 a)
  0,
  Vl.mk (4 : Int)
  (bif false then (1 : Int)
  else
  bif true then IntKind.wrap IntKind.i64 et
  else bif true then (0 : Int) else IntKind.wrap IntKind.i64 a)
  0,
  Vl.mk (1 : Int)
  (bif false then (1 : Int)
  else
  bif false then IntKind.wrap IntKind.i64 et
  else bif true then (0 : Int) else IntKind.wrap IntKind.i64 a)
  0,
  Vl.mk (4 : Int)
  (bif false then (1 : Int)
  else
  bif false then IntKind.wrap IntKind.i64 et
  else bif false then (0 : Int) else IntKind.wrap IntKind.i64 a)
  0]
  inn (IntKind.wrap IntKind.i64 pt) (IntKind.wrap IntKind.i64 now)))
  (timC
  [Vl.mk (1 : Int)
  (bif true then (1 : Int)
  else
  bif true then IntKind.wrap IntKind.i64 et
  else bif true then (0 : Int) else IntKind.wrap IntKind.i64 a)
  0,
  Vl.mk (4 : Int)
  (bif false then (1 : Int)
  else
  bif true then IntKind.wrap IntKind.i64 et
  else bif true then (0 : Int) else IntKind.wrap IntKind.i64 a)
  0,
  Vl.mk (1 : Int)
  (bif false then (1 : Int)
  else
  bif false then IntKind.wrap IntKind.i64 et
  else bif true then (0 : Int) else IntKind.wrap IntKind.i64 a)
  0,
  Vl.mk (4 : Int)
  (bif false then (1 : Int)
  else
  bif false then IntKind.wrap IntKind.i64 et
  else bif false then (0 : Int) else IntKind.wrap IntKind.i64 a)
  0]
  (nilT
  (Td.fr 3 4 0
  (selT 3 4
  [Td.sc (Value.int IntKind.i64 (1 : Int)), Td.sc (Value.int IntKind.i64 (1 : Int)),
  Td.sc (Value.float FloatKind.f64 0), Td.sc (Value.int IntKind.i64 (4 : Int)),
  Td.sc (Value.int IntKind.i64 (IntKind.wrap IntKind.i64 et)),
  Td.sc (Value.float FloatKind.f64 0), Td.sc (Value.int IntKind.i64 (1 : Int)),
  Td.sc (Value.int IntKind.i64 (0 : Int)), Td.sc (Value.float FloatKind.f64 0),
  Td.sc (Value.int IntKind.i64 (4 : Int)),
  Td.sc (Value.int IntKind.i64 (IntKind.wrap IntKind.i64 a)),
  Td.sc (Value.float FloatKind.f64 0)]))))
  fun i =>
  encL
  (timL kind
  [Vl.mk (1 : Int)
  (bif true then (1 : Int)
  else
  bif true then IntKind.wrap IntKind.i64 et
  else bif true then (0 : Int) else IntKind.wrap IntKind.i64 a)
  0,
  Vl.mk (4 : Int)
  (bif false then (1 : Int)
  else
  bif true then IntKind.wrap IntKind.i64 et
  else bif true then (0 : Int) else IntKind.wrap IntKind.i64 a)
  0,
  Vl.mk (1 : Int)
  (bif false then (1 : Int)
  else
  bif false then IntKind.wrap IntKind.i64 et
  else bif true then (0 : Int) else IntKind.wrap IntKind.i64 a)
  0,
  Vl.mk (4 : Int)
  (bif false then (1 : Int)
  else
  bif false then IntKind.wrap IntKind.i64 et
  else bif false then (0 : Int) else IntKind.wrap IntKind.i64 a)
  0]
  inn (IntKind.wrap IntKind.i64 pt) (IntKind.wrap IntKind.i64 now))
  (0 + i)),
  Ta.cell
  (Td.fr 3
  (List.length
  (timL kind
  [Vl.mk (1 : Int)
  (bif true then (1 : Int)
  else
  bif true then IntKind.wrap IntKind.i64 et
  else bif true then (0 : Int) else IntKind.wrap IntKind.i64 a)
  0,
  Vl.mk (4 : Int)
  (bif false then (1 : Int)
  else
  bif true then IntKind.wrap IntKind.i64 et
  else bif true then (0 : Int) else IntKind.wrap IntKind.i64 a)
  0,
  Vl.mk (1 : Int)
  (bif false then (1 : Int)
  else
  bif false then IntKind.wrap IntKind.i64 et
  else bif true then (0 : Int) else IntKind.wrap IntKind.i64 a)
  0,
  Vl.mk (4 : Int)
  (bif false then (1 : Int)
  else
  bif false then IntKind.wrap IntKind.i64 et
  else bif false then (0 : Int) else IntKind.wrap IntKind.i64 a)
  0]
  inn (IntKind.wrap IntKind.i64 pt) (IntKind.wrap IntKind.i64 now)))
  (timC
  [Vl.mk (1 : Int)
  (bif true then (1 : Int)
  else
  bif true then IntKind.wrap IntKind.i64 et
  else bif true then (0 : Int) else IntKind.wrap IntKind.i64 a)
  0,
  Vl.mk (4 : Int)
  (bif false then (1 : Int)
  else
  bif true then IntKind.wrap IntKind.i64 et
  else bif true then (0 : Int) else IntKind.wrap IntKind.i64 a)
  0,
  Vl.mk (1 : Int)
  (bif false then (1 : Int)
  else
  bif false then IntKind.wrap IntKind.i64 et
  else bif true then (0 : Int) else IntKind.wrap IntKind.i64 a)
  0,
  Vl.mk (4 : Int)
  (bif false then (1 : Int)
  else
  bif false then IntKind.wrap IntKind.i64 et
  else bif false then (0 : Int) else IntKind.wrap IntKind.i64 a)
  0]
  (nilT
  (Td.fr 3 4 0
  (selT 3 4
  [Td.sc (Value.int IntKind.i64 (1 : Int)), Td.sc (Value.int IntKind.i64 (1 : Int)),
  Td.sc (Value.float FloatKind.f64 0), Td.sc (Value.int IntKind.i64 (4 : Int)),
  Td.sc (Value.int IntKind.i64 (IntKind.wrap IntKind.i64 et)),
  Td.sc (Value.float FloatKind.f64 0), Td.sc (Value.int IntKind.i64 (1 : Int)),
  Td.sc (Value.int IntKind.i64 (0 : Int)), Td.sc (Value.float FloatKind.f64 0),
  Td.sc (Value.int IntKind.i64 (4 : Int)),
  Td.sc (Value.int IntKind.i64 (IntKind.wrap IntKind.i64 a)),
  Td.sc (Value.float FloatKind.f64 0)]))))
  fun i =>
  encL
  (timL kind
  [Vl.mk (1 : Int)
  (bif true then (1 : Int)
  else
  bif true then IntKind.wrap IntKind.i64 et
  else bif true then (0 : Int) else IntKind.wrap IntKind.i64 a)
  0,
  Vl.mk (4 : Int)
  (bif false then (1 : Int)
  else
  bif true then IntKind.wrap IntKind.i64 et
  else bif true then (0 : Int) else IntKind.wrap IntKind.i64 a)
  0,
  Vl.mk (1 : Int)
  (bif false then (1 : Int)
  else
  bif false then IntKind.wrap IntKind.i64 et
  else bif true then (0 : Int) else IntKind.wrap IntKind.i64 a)
  0,
  Vl.mk (4 : Int)
  (bif false then (1 : Int)
  else
  bif false then IntKind.wrap IntKind.i64 et
  else bif false then (0 : Int) else IntKind.wrap IntKind.i64 a)
  0]
  inn (IntKind.wrap IntKind.i64 pt) (IntKind.wrap IntKind.i64 now))
  (0 + i))])
  (br
  (!sameVs
  (listT Vl
  (Td.fr 3
  (List.length
  (timL kind
  [Vl.mk (1 : Int)
  (bif true then (1 : Int)
  else
  bif true then IntKind.wrap IntKind.i64 et
  else bif true then (0 : Int) else IntKind.wrap IntKind.i64 a)
  0,
  Vl.mk (4 : Int)
  (bif false then (1 : Int)
  else
  bif true then IntKind.wrap IntKind.i64 et
  else bif true then (0 : Int) else IntKind.wrap IntKind.i64 a)
  0,
  Vl.mk (1 : Int)
  (bif false then (1 : Int)
  else
  bif false then IntKind.wrap IntKind.i64 et
  else bif true then (0 : Int) else IntKind.wrap IntKind.i64 a)
  0,
  Vl.mk (4 : Int)
  (bif false then (1 : Int)
  else
  bif false then IntKind.wrap IntKind.i64 et
  else bif false then (0 : Int) else IntKind.wrap IntKind.i64 a)
  0]
  inn (IntKind.wrap IntKind.i64 pt) (IntKind.wrap IntKind.i64 now)))
  (timC
  [Vl.mk (1 : Int)
  (bif true then (1 : Int)
  else
  bif true then IntKind.wrap IntKind.i64 et
  else bif true then (0 : Int) else IntKind.wrap IntKind.i64 a)
  0,
  Vl.mk (4 : Int)
  (bif false then (1 : Int)
  else
  bif true then IntKind.wrap IntKind.i64 et
  else bif true then (0 : Int) else IntKind.wrap IntKind.i64 a)
  0,
  Vl.mk (1 : Int)
  (bif false then (1 : Int)
  else
  bif false then IntKind.wrap IntKind.i64 et
  else bif true then (0 : Int) else IntKind.wrap IntKind.i64 a)
  0,
  Vl.mk (4 : Int)
  (bif false then (1 : Int)
  else
  bif false then IntKind.wrap IntKind.i64 et
  else bif false then (0 : Int) else IntKind.wrap IntKind.i64 a)
  0]
  (nilT
  (Td.fr 3 4 0
  (selT 3 4
  [Td.sc (Value.int IntKind.i64 (1 : Int)), Td.sc (Value.int IntKind.i64 (1 : Int)),
  Td.sc (Value.float FloatKind.f64 0), Td.sc (Value.int IntKind.i64 (4 : Int)),
  Td.sc (Value.int IntKind.i64 (IntKind.wrap IntKind.i64 et)),
  Td.sc (Value.float FloatKind.f64 0), Td.sc (Value.int IntKind.i64 (1 : Int)),
  Td.sc (Value.int IntKind.i64 (0 : Int)), Td.sc (Value.float FloatKind.f64 0),
  Td.sc (Value.int IntKind.i64 (4 : Int)),
  Td.sc (Value.int IntKind.i64 (IntKind.wrap IntKind.i64 a)),
  Td.sc (Value.float FloatKind.f64 0)]))))
  fun i =>
  encL
  (timL kind
  [Vl.mk (1 : Int)
  (bif true then (1 : Int)
  else
  bif true then IntKind.wrap IntKind.i64 et
  else bif true then (0 : Int) else IntKind.wrap IntKind.i64 a)
  0,
  Vl.mk (4 : Int)
  (bif false then (1 : Int)
  else
  bif true then IntKind.wrap IntKind.i64 et
  else bif true then (0 : Int) else IntKind.wrap IntKind.i64 a)
  0,
  Vl.mk (1 : Int)
  (bif false then (1 : Int)
  else
  bif false then IntKind.wrap IntKind.i64 et
  else bif true then (0 : Int) else IntKind.wrap IntKind.i64 a)
  0,
  Vl.mk (4 : Int)
  (bif false then (1 : Int)
  else
  bif false then IntKind.wrap IntKind.i64 et
  else bif false then (0 : Int) else IntKind.wrap IntKind.i64 a)
  0]
  inn (IntKind.wrap IntKind.i64 pt) (IntKind.wrap IntKind.i64 now))
  (0 + i)))
  (listT Vl
  (Td.fr 3
  (List.length
  (timL kind
  [Vl.mk (1 : Int)
  (bif true then (1 : Int)
  else
  bif true then IntKind.wrap IntKind.i64 et
  else bif true then (0 : Int) else IntKind.wrap IntKind.i64 a)
  0,
  Vl.mk (4 : Int)
  (bif false then (1 : Int)
  else
  bif true then IntKind.wrap IntKind.i64 et
  else bif true then (0 : Int) else IntKind.wrap IntKind.i64 a)
  0,
  Vl.mk (1 : Int)
  (bif false then (1 : Int)
  else
  bif false then IntKind.wrap IntKind.i64 et
  else bif true then (0 : Int) else IntKind.wrap IntKind.i64 a)
  0,
  Vl.mk (4 : Int)
  (bif false then (1 : Int)
  else
  bif false then IntKind.wrap IntKind.i64 et
  else bif false then (0 : Int) else IntKind.wrap IntKind.i64 a)
  0]
  inn (IntKind.wrap IntKind.i64 pt) (IntKind.wrap IntKind.i64 now)))
  (timC
  [Vl.mk (1 : Int)
  (bif true then (1 : Int)
  else
  bif true then IntKind.wrap IntKind.i64 et
  else bif true then (0 : Int) else IntKind.wrap IntKind.i64 a)
  0,
  Vl.mk (4 : Int)
  (bif false then (1 : Int)
  else
  bif true then IntKind.wrap IntKind.i64 et
  else bif true then (0 : Int) else IntKind.wrap IntKind.i64 a)
  0,
  Vl.mk (1 : Int)
  (bif false then (1 : Int)
  else
  bif false then IntKind.wrap IntKind.i64 et
  else bif true then (0 : Int) else IntKind.wrap IntKind.i64 a)
  0,
  Vl.mk (4 : Int)
  (bif false then (1 : Int)
  else
  bif false then IntKind.wrap IntKind.i64 et
  else bif false then (0 : Int) else IntKind.wrap IntKind.i64 a)
  0]
  (nilT
  (Td.fr 3 4 0
  (selT 3 4
  [Td.sc (Value.int IntKind.i64 (1 : Int)), Td.sc (Value.int IntKind.i64 (1 : Int)),
  Td.sc (Value.float FloatKind.f64 0), Td.sc (Value.int IntKind.i64 (4 : Int)),
  Td.sc (Value.int IntKind.i64 (IntKind.wrap IntKind.i64 et)),
  Td.sc (Value.float FloatKind.f64 0), Td.sc (Value.int IntKind.i64 (1 : Int)),
  Td.sc (Value.int IntKind.i64 (0 : Int)), Td.sc (Value.float FloatKind.f64 0),
  Td.sc (Value.int IntKind.i64 (4 : Int)),
  Td.sc (Value.int IntKind.i64 (IntKind.wrap IntKind.i64 a)),
  Td.sc (Value.float FloatKind.f64 0)]))))
  fun i =>
  encL
  (timL kind
  [Vl.mk (1 : Int)
  (bif true then (1 : Int)
  else
  bif true then IntKind.wrap IntKind.i64 et
  else bif true then (0 : Int) else IntKind.wrap IntKind.i64 a)
  0,
  Vl.mk (4 : Int)
  (bif false then (1 : Int)
  else
  bif true then IntKind.wrap IntKind.i64 et
  else bif true then (0 : Int) else IntKind.wrap IntKind.i64 a)
  0,
  Vl.mk (1 : Int)
  (bif false then (1 : Int)
  else
  bif false then IntKind.wrap IntKind.i64 et
  else bif true then (0 : Int) else IntKind.wrap IntKind.i64 a)
  0,
  Vl.mk (4 : Int)
  (bif false then (1 : Int)
  else
  bif false then IntKind.wrap IntKind.i64 et
  else bif false then (0 : Int) else IntKind.wrap IntKind.i64 a)
  0]
  inn (IntKind.wrap IntKind.i64 pt) (IntKind.wrap IntKind.i64 now))
  (0 + i))))
  False
  (need
  (okStepR
  [Ta.cell (Td.sc (Value.int IntKind.i64 (6 : Int))),
  Ta.cell
  (Td.fr 3 4 0
  (selT 3 4
  [Td.sc (Value.int IntKind.i64 (1 : Int)), Td.sc (Value.int IntKind.i64 (1 : Int)),
  Td.sc (Value.float FloatKind.f64 0), Td.sc (Value.int IntKind.i64 (4 : Int)),
  Td.sc (Value.int IntKind.i64 (IntKind.wrap IntKind.i64 et)),
  Td.sc (Value.float FloatKind.f64 0), Td.sc (Value.int IntKind.i64 (1 : Int)),
  Td.sc (Value.int IntKind.i64 (0 : Int)), Td.sc (Value.float FloatKind.f64 0),
  Td.sc (Value.int IntKind.i64 (4 : Int)),
  Td.sc (Value.int IntKind.i64 (IntKind.wrap IntKind.i64 a)),
  Td.sc (Value.float FloatKind.f64 0)])),
  Ta.cell (Td.sc (Value.bool inn)),
  Ta.cell (Td.sc (Value.int IntKind.i64 (IntKind.wrap IntKind.i64 pt))),
  Ta.cell (Td.sc (Value.int IntKind.i64 (IntKind.wrap IntKind.i64 now)))])
  (br
  (!sameVs
  [Vl.mk (1 : Int)
  (one
  (bif inn then
  goesN (IntKind.wrap IntKind.i64 now)
  (atM
  (bif false then (1 : Int)
  else
  bif false then IntKind.wrap IntKind.i64 et
  else bif true then (0 : Int) else IntKind.wrap IntKind.i64 a)
  (bif false then (1 : Int)
  else
  bif false then IntKind.wrap IntKind.i64 et
  else bif false then (0 : Int) else IntKind.wrap IntKind.i64 a)
  (IntKind.wrap IntKind.i64 now))
  (ptM (IntKind.wrap IntKind.i64 pt)) ==
  ptM (IntKind.wrap IntKind.i64 pt)
  else false))
  0,
  Vl.mk (4 : Int)
  (bif inn then
  goesN (IntKind.wrap IntKind.i64 now)
  (atM
  (bif false then (1 : Int)
  else
  bif false then IntKind.wrap IntKind.i64 et
  else bif true then (0 : Int) else IntKind.wrap IntKind.i64 a)
  (bif false then (1 : Int)
  else
  bif false then IntKind.wrap IntKind.i64 et
  else bif false then (0 : Int) else IntKind.wrap IntKind.i64 a)
  (IntKind.wrap IntKind.i64 now))
  (ptM (IntKind.wrap IntKind.i64 pt))
  else (0 : Int))
  0,
  Vl.mk (1 : Int) (one inn) 0,
  Vl.mk (4 : Int)
  (bif inn then
  atM
  (bif false then (1 : Int)
  else
  bif false then IntKind.wrap IntKind.i64 et
  else bif true then (0 : Int) else IntKind.wrap IntKind.i64 a)
  (bif false then (1 : Int)
  else
  bif false then IntKind.wrap IntKind.i64 et
  else bif false then (0 : Int) else IntKind.wrap IntKind.i64 a)
  (IntKind.wrap IntKind.i64 now)
  else (0 : Int))
  0]
  [Vl.mk (1 : Int)
  (one
  (bif inn then
  goesN (IntKind.wrap IntKind.i64 now)
  (atM
  (bif false then (1 : Int)
  else
  bif false then IntKind.wrap IntKind.i64 et
  else bif true then (0 : Int) else IntKind.wrap IntKind.i64 a)
  (bif false then (1 : Int)
  else
  bif false then IntKind.wrap IntKind.i64 et
  else bif false then (0 : Int) else IntKind.wrap IntKind.i64 a)
  (IntKind.wrap IntKind.i64 now))
  (ptM (IntKind.wrap IntKind.i64 pt)) ==
  ptM (IntKind.wrap IntKind.i64 pt)
  else false))
  0,
  Vl.mk (4 : Int)
  (bif inn then
  goesN (IntKind.wrap IntKind.i64 now)
  (atM
  (bif false then (1 : Int)
  else
  bif false then IntKind.wrap IntKind.i64 et
  else bif true then (0 : Int) else IntKind.wrap IntKind.i64 a)
  (bif false then (1 : Int)
  else
  bif false then IntKind.wrap IntKind.i64 et
  else bif false then (0 : Int) else IntKind.wrap IntKind.i64 a)
  (IntKind.wrap IntKind.i64 now))
  (ptM (IntKind.wrap IntKind.i64 pt))
  else (0 : Int))
  0,
  Vl.mk (1 : Int) (one inn) 0,
  Vl.mk (4 : Int)
  (bif inn then
  atM
  (bif false then (1 : Int)
  else
  bif false then IntKind.wrap IntKind.i64 et
  else bif true then (0 : Int) else IntKind.wrap IntKind.i64 a)
  (bif false then (1 : Int)
  else
  bif false then IntKind.wrap IntKind.i64 et
  else bif false then (0 : Int) else IntKind.wrap IntKind.i64 a)
  (IntKind.wrap IntKind.i64 now)
  else (0 : Int))
  0])
  False
  (need
  (okStepR
  [Ta.cell (Td.sc (Value.int IntKind.i64 (7 : Int))),
  Ta.cell
  (Td.fr 3 4 0
  (selT 3 4
  [Td.sc (Value.int IntKind.i64 (1 : Int)), Td.sc (Value.int IntKind.i64 (1 : Int)),
  Td.sc (Value.float FloatKind.f64 0), Td.sc (Value.int IntKind.i64 (4 : Int)),
  Td.sc (Value.int IntKind.i64 (IntKind.wrap IntKind.i64 et)),
  Td.sc (Value.float FloatKind.f64 0), Td.sc (Value.int IntKind.i64 (1 : Int)),
  Td.sc (Value.int IntKind.i64 (0 : Int)), Td.sc (Value.float FloatKind.f64 0),
  Td.sc (Value.int IntKind.i64 (4 : Int)),
  Td.sc (Value.int IntKind.i64 (IntKind.wrap IntKind.i64 a)),
  Td.sc (Value.float FloatKind.f64 0)])),
  Ta.cell (Td.sc (Value.bool inn)),
  Ta.cell (Td.sc (Value.int IntKind.i64 (IntKind.wrap IntKind.i64 pt))),
  Ta.cell (Td.sc (Value.int IntKind.i64 (IntKind.wrap IntKind.i64 now)))])
  (br
  (!sameVs
  [Vl.mk (1 : Int)
  (one
  (bif inn then true
  else
  bif
  (bif true then (1 : Int)
  else
  bif true then IntKind.wrap IntKind.i64 et
  else bif true then (0 : Int) else IntKind.wrap IntKind.i64 a) !=
  (0 : Int) then
  !goesN (IntKind.wrap IntKind.i64 now)
  (atM
  (bif false then (1 : Int)
  else
  bif false then IntKind.wrap IntKind.i64 et
  else bif true then (0 : Int) else IntKind.wrap IntKind.i64 a)
  (bif false then (1 : Int)
  else
  bif false then IntKind.wrap IntKind.i64 et
  else bif false then (0 : Int) else IntKind.wrap IntKind.i64 a)
  (IntKind.wrap IntKind.i64 now))
  (ptM (IntKind.wrap IntKind.i64 pt)) ==
  ptM (IntKind.wrap IntKind.i64 pt)
  else false))
  0,
  Vl.mk (4 : Int)
  (bif inn then (0 : Int)
  else
  bif
  (bif true then (1 : Int)
  else
  bif true then IntKind.wrap IntKind.i64 et
  else bif true then (0 : Int) else IntKind.wrap IntKind.i64 a) !=
  (0 : Int) then
  goesN (IntKind.wrap IntKind.i64 now)
  (atM
  (bif false then (1 : Int)
  else
  bif false then IntKind.wrap IntKind.i64 et
  else bif true then (0 : Int) else IntKind.wrap IntKind.i64 a)
  (bif false then (1 : Int)
  else
  bif false then IntKind.wrap IntKind.i64 et
  else bif false then (0 : Int) else IntKind.wrap IntKind.i64 a)
  (IntKind.wrap IntKind.i64 now))
  (ptM (IntKind.wrap IntKind.i64 pt))
  else
  bif false then (1 : Int)
  else
  bif true then IntKind.wrap IntKind.i64 et
  else bif true then (0 : Int) else IntKind.wrap IntKind.i64 a)
  0,
  Vl.mk (1 : Int)
  (one
  (bif inn then false
  else
  bif
  (bif true then (1 : Int)
  else
  bif true then IntKind.wrap IntKind.i64 et
  else bif true then (0 : Int) else IntKind.wrap IntKind.i64 a) !=
  (0 : Int) then
  true
  else
  (bif false then (1 : Int)
  else
  bif false then IntKind.wrap IntKind.i64 et
  else bif true then (0 : Int) else IntKind.wrap IntKind.i64 a) !=
  (0 : Int)))
  0,
  Vl.mk (4 : Int)
  (bif inn then (0 : Int)
  else
  bif
  (bif true then (1 : Int)
  else
  bif true then IntKind.wrap IntKind.i64 et
  else bif true then (0 : Int) else IntKind.wrap IntKind.i64 a) !=
  (0 : Int) then
  atM
  (bif false then (1 : Int)
  else
  bif false then IntKind.wrap IntKind.i64 et
  else bif true then (0 : Int) else IntKind.wrap IntKind.i64 a)
  (bif false then (1 : Int)
  else
  bif false then IntKind.wrap IntKind.i64 et
  else bif false then (0 : Int) else IntKind.wrap IntKind.i64 a)
  (IntKind.wrap IntKind.i64 now)
  else
  bif false then (1 : Int)
  else
  bif false then IntKind.wrap IntKind.i64 et
  else bif false then (0 : Int) else IntKind.wrap IntKind.i64 a)
  0]
  [Vl.mk (1 : Int)
  (one
  (bif inn then true
  else
  bif
  (bif true then (1 : Int)
  else
  bif true then IntKind.wrap IntKind.i64 et
  else bif true then (0 : Int) else IntKind.wrap IntKind.i64 a) !=
  (0 : Int) then
  !goesN (IntKind.wrap IntKind.i64 now)
  (atM
  (bif false then (1 : Int)
  else
  bif false then IntKind.wrap IntKind.i64 et
  else bif true then (0 : Int) else IntKind.wrap IntKind.i64 a)
  (bif false then (1 : Int)
  else
  bif false then IntKind.wrap IntKind.i64 et
  else bif false then (0 : Int) else IntKind.wrap IntKind.i64 a)
  (IntKind.wrap IntKind.i64 now))
  (ptM (IntKind.wrap IntKind.i64 pt)) ==
  ptM (IntKind.wrap IntKind.i64 pt)
  else false))
  0,
  Vl.mk (4 : Int)
  (bif inn then (0 : Int)
  else
  bif
  (bif true then (1 : Int)
  else
  bif true then IntKind.wrap IntKind.i64 et
  else bif true then (0 : Int) else IntKind.wrap IntKind.i64 a) !=
  (0 : Int) then
  goesN (IntKind.wrap IntKind.i64 now)
  (atM
  (bif false then (1 : Int)
  else
  bif false then IntKind.wrap IntKind.i64 et
  else bif true then (0 : Int) else IntKind.wrap IntKind.i64 a)
  (bif false then (1 : Int)
  else
  bif false then IntKind.wrap IntKind.i64 et
  else bif false then (0 : Int) else IntKind.wrap IntKind.i64 a)
  (IntKind.wrap IntKind.i64 now))
  (ptM (IntKind.wrap IntKind.i64 pt))
  else
  bif false then (1 : Int)
  else
  bif true then IntKind.wrap IntKind.i64 et
  else bif true then (0 : Int) else IntKind.wrap IntKind.i64 a)
  0,
  Vl.mk (1 : Int)
  (one
  (bif inn then false
  else
  bif
  (bif true then (1 : Int)
  else
  bif true then IntKind.wrap IntKind.i64 et
  else bif true then (0 : Int) else IntKind.wrap IntKind.i64 a) !=
  (0 : Int) then
  true
  else
  (bif false then (1 : Int)
  else
  bif false then IntKind.wrap IntKind.i64 et
  else bif true then (0 : Int) else IntKind.wrap IntKind.i64 a) !=
  (0 : Int)))
  0,
  Vl.mk (4 : Int)
  (bif inn then (0 : Int)
  else
  bif
  (bif true then (1 : Int)
  else
  bif true then IntKind.wrap IntKind.i64 et
  else bif true then (0 : Int) else IntKind.wrap IntKind.i64 a) !=
  (0 : Int) then
  atM
  (bif false then (1 : Int)
  else
  bif false then IntKind.wrap IntKind.i64 et
  else bif true then (0 : Int) else IntKind.wrap IntKind.i64 a)
  (bif false then (1 : Int)
  else
  bif false then IntKind.wrap IntKind.i64 et
  else bif false then (0 : Int) else IntKind.wrap IntKind.i64 a)
  (IntKind.wrap IntKind.i64 now)
  else
  bif false then (1 : Int)
  else
  bif false then IntKind.wrap IntKind.i64 et
  else bif false then (0 : Int) else IntKind.wrap IntKind.i64 a)
  0])
  False
  (need
  (okStepR
  [Ta.cell (Td.sc (Value.int IntKind.i64 (8 : Int))),
  Ta.cell
  (Td.fr 3 4 0
  (selT 3 4
  [Td.sc (Value.int IntKind.i64 (1 : Int)), Td.sc (Value.int IntKind.i64 (1 : Int)),
  Td.sc (Value.float FloatKind.f64 0),
  Td.sc (Value.int IntKind.i64 (4 : Int)),
  Td.sc (Value.int IntKind.i64 (IntKind.wrap IntKind.i64 et)),
  Td.sc (Value.float FloatKind.f64 0),
  Td.sc (Value.int IntKind.i64 (1 : Int)), Td.sc (Value.int IntKind.i64 (0 : Int)),
  Td.sc (Value.float FloatKind.f64 0),
  Td.sc (Value.int IntKind.i64 (4 : Int)),
  Td.sc (Value.int IntKind.i64 (IntKind.wrap IntKind.i64 a)),
  Td.sc (Value.float FloatKind.f64 0)])),
  Ta.cell (Td.sc (Value.bool inn)),
  Ta.cell (Td.sc (Value.int IntKind.i64 (IntKind.wrap IntKind.i64 pt))),
  Ta.cell (Td.sc (Value.int IntKind.i64 (IntKind.wrap IntKind.i64 now)))])
  (br
  (!sameVs
  [Vl.mk (1 : Int)
  (one
  (bif
  tpB
  ((bif false then (1 : Int)
  else
  bif false then IntKind.wrap IntKind.i64 et
  else bif true then (0 : Int) else IntKind.wrap IntKind.i64 a) !=
  (0 : Int))
  inn
  (bif false then (1 : Int)
  else
  bif false then IntKind.wrap IntKind.i64 et
  else bif false then (0 : Int) else IntKind.wrap IntKind.i64 a)
  (ptM (IntKind.wrap IntKind.i64 pt)) (IntKind.wrap IntKind.i64 now) then
  !goesN (IntKind.wrap IntKind.i64 now)
  (atM
  (bif false then (1 : Int)
  else
  bif false then IntKind.wrap IntKind.i64 et
  else bif true then (0 : Int) else IntKind.wrap IntKind.i64 a)
  (bif false then (1 : Int)
  else
  bif false then IntKind.wrap IntKind.i64 et
  else bif false then (0 : Int) else IntKind.wrap IntKind.i64 a)
  (IntKind.wrap IntKind.i64 now))
  (ptM (IntKind.wrap IntKind.i64 pt)) ==
  ptM (IntKind.wrap IntKind.i64 pt)
  else false))
  0,
  Vl.mk (4 : Int)
  (bif
  tpB
  ((bif false then (1 : Int)
  else
  bif false then IntKind.wrap IntKind.i64 et
  else bif true then (0 : Int) else IntKind.wrap IntKind.i64 a) !=
  (0 : Int))
  inn
  (bif false then (1 : Int)
  else
  bif false then IntKind.wrap IntKind.i64 et
  else bif false then (0 : Int) else IntKind.wrap IntKind.i64 a)
  (ptM (IntKind.wrap IntKind.i64 pt)) (IntKind.wrap IntKind.i64 now) then
  goesN (IntKind.wrap IntKind.i64 now)
  (atM
  (bif false then (1 : Int)
  else
  bif false then IntKind.wrap IntKind.i64 et
  else bif true then (0 : Int) else IntKind.wrap IntKind.i64 a)
  (bif false then (1 : Int)
  else
  bif false then IntKind.wrap IntKind.i64 et
  else bif false then (0 : Int) else IntKind.wrap IntKind.i64 a)
  (IntKind.wrap IntKind.i64 now))
  (ptM (IntKind.wrap IntKind.i64 pt))
  else (0 : Int))
  0,
  Vl.mk (1 : Int)
  (one
  (tpB
  ((bif false then (1 : Int)
  else
  bif false then IntKind.wrap IntKind.i64 et
  else bif true then (0 : Int) else IntKind.wrap IntKind.i64 a) !=
  (0 : Int))
  inn
  (bif false then (1 : Int)
  else
  bif false then IntKind.wrap IntKind.i64 et
  else bif false then (0 : Int) else IntKind.wrap IntKind.i64 a)
  (ptM (IntKind.wrap IntKind.i64 pt)) (IntKind.wrap IntKind.i64 now)))
  0,
  Vl.mk (4 : Int)
  (bif
  tpB
  ((bif false then (1 : Int)
  else
  bif false then IntKind.wrap IntKind.i64 et
  else bif true then (0 : Int) else IntKind.wrap IntKind.i64 a) !=
  (0 : Int))
  inn
  (bif false then (1 : Int)
  else
  bif false then IntKind.wrap IntKind.i64 et
  else bif false then (0 : Int) else IntKind.wrap IntKind.i64 a)
  (ptM (IntKind.wrap IntKind.i64 pt)) (IntKind.wrap IntKind.i64 now) then
  atM
  (bif false then (1 : Int)
  else
  bif false then IntKind.wrap IntKind.i64 et
  else bif true then (0 : Int) else IntKind.wrap IntKind.i64 a)
  (bif false then (1 : Int)
  else
  bif false then IntKind.wrap IntKind.i64 et
  else bif false then (0 : Int) else IntKind.wrap IntKind.i64 a)
  (IntKind.wrap IntKind.i64 now)
  else (0 : Int))
  0]
  [Vl.mk (1 : Int)
  (one
  (bif
  tpB
  ((bif false then (1 : Int)
  else
  bif false then IntKind.wrap IntKind.i64 et
  else bif true then (0 : Int) else IntKind.wrap IntKind.i64 a) !=
  (0 : Int))
  inn
  (bif false then (1 : Int)
  else
  bif false then IntKind.wrap IntKind.i64 et
  else bif false then (0 : Int) else IntKind.wrap IntKind.i64 a)
  (ptM (IntKind.wrap IntKind.i64 pt)) (IntKind.wrap IntKind.i64 now) then
  !goesN (IntKind.wrap IntKind.i64 now)
  (atM
  (bif false then (1 : Int)
  else
  bif false then IntKind.wrap IntKind.i64 et
  else bif true then (0 : Int) else IntKind.wrap IntKind.i64 a)
  (bif false then (1 : Int)
  else
  bif false then IntKind.wrap IntKind.i64 et
  else bif false then (0 : Int) else IntKind.wrap IntKind.i64 a)
  (IntKind.wrap IntKind.i64 now))
  (ptM (IntKind.wrap IntKind.i64 pt)) ==
  ptM (IntKind.wrap IntKind.i64 pt)
  else false))
  0,
  Vl.mk (4 : Int)
  (bif
  tpB
  ((bif false then (1 : Int)
  else
  bif false then IntKind.wrap IntKind.i64 et
  else bif true then (0 : Int) else IntKind.wrap IntKind.i64 a) !=
  (0 : Int))
  inn
  (bif false then (1 : Int)
  else
  bif false then IntKind.wrap IntKind.i64 et
  else bif false then (0 : Int) else IntKind.wrap IntKind.i64 a)
  (ptM (IntKind.wrap IntKind.i64 pt)) (IntKind.wrap IntKind.i64 now) then
  goesN (IntKind.wrap IntKind.i64 now)
  (atM
  (bif false then (1 : Int)
  else
  bif false then IntKind.wrap IntKind.i64 et
  else bif true then (0 : Int) else IntKind.wrap IntKind.i64 a)
  (bif false then (1 : Int)
  else
  bif false then IntKind.wrap IntKind.i64 et
  else bif false then (0 : Int) else IntKind.wrap IntKind.i64 a)
  (IntKind.wrap IntKind.i64 now))
  (ptM (IntKind.wrap IntKind.i64 pt))
  else (0 : Int))
  0,
  Vl.mk (1 : Int)
  (one
  (tpB
  ((bif false then (1 : Int)
  else
  bif false then IntKind.wrap IntKind.i64 et
  else bif true then (0 : Int) else IntKind.wrap IntKind.i64 a) !=
  (0 : Int))
  inn
  (bif false then (1 : Int)
  else
  bif false then IntKind.wrap IntKind.i64 et
  else bif false then (0 : Int) else IntKind.wrap IntKind.i64 a)
  (ptM (IntKind.wrap IntKind.i64 pt)) (IntKind.wrap IntKind.i64 now)))
  0,
  Vl.mk (4 : Int)
  (bif
  tpB
  ((bif false then (1 : Int)
  else
  bif false then IntKind.wrap IntKind.i64 et
  else bif true then (0 : Int) else IntKind.wrap IntKind.i64 a) !=
  (0 : Int))
  inn
  (bif false then (1 : Int)
  else
  bif false then IntKind.wrap IntKind.i64 et
  else bif false then (0 : Int) else IntKind.wrap IntKind.i64 a)
  (ptM (IntKind.wrap IntKind.i64 pt)) (IntKind.wrap IntKind.i64 now) then
  atM
  (bif false then (1 : Int)
  else
  bif false then IntKind.wrap IntKind.i64 et
  else bif true then (0 : Int) else IntKind.wrap IntKind.i64 a)
  (bif false then (1 : Int)
  else
  bif false then IntKind.wrap IntKind.i64 et
  else bif false then (0 : Int) else IntKind.wrap IntKind.i64 a)
  (IntKind.wrap IntKind.i64 now)
  else (0 : Int))
  0])
  False
  (need
  (okStepR
  [Ta.cell (Td.sc (Value.int IntKind.i64 (9 : Int))),
  Ta.cell
  (Td.fr 3 4 0
  (selT 3 4
  [Td.sc (Value.int IntKind.i64 (1 : Int)),
  Td.sc (Value.int IntKind.i64 (1 : Int)),
  Td.sc (Value.float FloatKind.f64 0),
  Td.sc (Value.int IntKind.i64 (4 : Int)),
  Td.sc (Value.int IntKind.i64 (IntKind.wrap IntKind.i64 et)),
  Td.sc (Value.float FloatKind.f64 0),
  Td.sc (Value.int IntKind.i64 (1 : Int)),
  Td.sc (Value.int IntKind.i64 (0 : Int)),
  Td.sc (Value.float FloatKind.f64 0),
  Td.sc (Value.int IntKind.i64 (4 : Int)),
  Td.sc (Value.int IntKind.i64 (IntKind.wrap IntKind.i64 a)),
  Td.sc (Value.float FloatKind.f64 0)])),
  Ta.cell (Td.sc (Value.bool inn)),
  Ta.cell (Td.sc (Value.int IntKind.i64 (IntKind.wrap IntKind.i64 pt))),
  Ta.cell (Td.sc (Value.int IntKind.i64 (IntKind.wrap IntKind.i64 now)))])
  (br
  (!sameVs
  [Vl.mk (1 : Int)
  (bif true then (1 : Int)
  else
  bif true then IntKind.wrap IntKind.i64 et
  else bif true then (0 : Int) else IntKind.wrap IntKind.i64 a)
  0,
  Vl.mk (4 : Int)
  (bif false then (1 : Int)
  else
  bif true then IntKind.wrap IntKind.i64 et
  else bif true then (0 : Int) else IntKind.wrap IntKind.i64 a)
  0,
  Vl.mk (1 : Int)
  (bif false then (1 : Int)
  else
  bif false then IntKind.wrap IntKind.i64 et
  else bif true then (0 : Int) else IntKind.wrap IntKind.i64 a)
  0,
  Vl.mk (4 : Int)
  (bif false then (1 : Int)
  else
  bif false then IntKind.wrap IntKind.i64 et
  else bif false then (0 : Int) else IntKind.wrap IntKind.i64 a)
  0]
  [Vl.mk (1 : Int)
  (bif true then (1 : Int)
  else
  bif true then IntKind.wrap IntKind.i64 et
  else bif true then (0 : Int) else IntKind.wrap IntKind.i64 a)
  0,
  Vl.mk (4 : Int)
  (bif false then (1 : Int)
  else
  bif true then IntKind.wrap IntKind.i64 et
  else bif true then (0 : Int) else IntKind.wrap IntKind.i64 a)
  0,
  Vl.mk (1 : Int)
  (bif false then (1 : Int)
  else
  bif false then IntKind.wrap IntKind.i64 et
  else bif true then (0 : Int) else IntKind.wrap IntKind.i64 a)
  0,
  Vl.mk (4 : Int)
  (bif false then (1 : Int)
  else
  bif false then IntKind.wrap IntKind.i64 et
  else bif false then (0 : Int) else IntKind.wrap IntKind.i64 a)
  0])
  False
  (br (Int.ofNat (List.length l) == (4 : Int)) True
  (need (true && Nat.ble (0 + List.length l) (List.length l))
  (need
  (okStep (timOk true)
  [Ta.cell (Td.sc (Value.int IntKind.i64 (6 : Int))),
  Ta.cell (Td.fr 3 (List.length l) c fun i => encL l (0 + i)),
  Ta.cell (Td.sc (Value.bool inn)),
  Ta.cell (Td.sc (Value.int IntKind.i64 (IntKind.wrap IntKind.i64 pt))),
  Ta.cell (Td.sc (Value.int IntKind.i64 (IntKind.wrap IntKind.i64 now)))])
  (need
  (true &&
  Nat.ble
  (0 +
  List.length
  (timL (6 : Int)
  (listT Vl
  (Td.fr 3 (List.length l) c fun i => encL l (0 + i)))
  inn (IntKind.wrap IntKind.i64 pt) (IntKind.wrap IntKind.i64 now)))
  (List.length
  (timL (6 : Int)
  (listT Vl
  (Td.fr 3 (List.length l) c fun i => encL l (0 + i)))
  inn (IntKind.wrap IntKind.i64 pt) (IntKind.wrap IntKind.i64 now))))
  (need (true && Nat.ble (0 + List.length l) (List.length l))
  (need
  (ok2 Vl Vl (fun x x_1 x_2 x_3 => true)
  [Ta.cell
  (Td.fr 3
  (List.length
  (timL (6 : Int)
  (listT Vl
  (Td.fr 3 (List.length l) c fun i =>
  encL l (0 + i)))
  inn (IntKind.wrap IntKind.i64 pt)
  (IntKind.wrap IntKind.i64 now)))
  (timC
  (listT Vl
  (Td.fr 3 (List.length l) c fun i =>
  encL l (0 + i)))
  (nilT
  (Td.fr 3 (List.length l) c fun i =>
  encL l (0 + i))))
  fun i =>
  encL
  (timL (6 : Int)
  (listT Vl
  (Td.fr 3 (List.length l) c fun i =>
  encL l (0 + i)))
  inn (IntKind.wrap IntKind.i64 pt)
  (IntKind.wrap IntKind.i64 now))
  (0 + i)),
  Ta.cell
  (Td.fr 3 (List.length l) c fun i => encL l (0 + i))])
  (need
  (sameVs
  (listT Vl
  (Td.fr 3
  (List.length
  (timL (6 : Int)
  (listT Vl
  (Td.fr 3 (List.length l) c fun i =>
  encL l (0 + i)))
  inn (IntKind.wrap IntKind.i64 pt)
  (IntKind.wrap IntKind.i64 now)))
  (timC
  (listT Vl
  (Td.fr 3 (List.length l) c fun i =>
  encL l (0 + i)))
  (nilT
  (Td.fr 3 (List.length l) c fun i =>
  encL l (0 + i))))
  fun i =>
  encL
  (timL (6 : Int)
  (listT Vl
  (Td.fr 3 (List.length l) c fun i =>
  encL l (0 + i)))
  inn (IntKind.wrap IntKind.i64 pt)
  (IntKind.wrap IntKind.i64 now))
  (0 + i)))
  (listT Vl
  (Td.fr 3 (List.length l) c fun i => encL l (0 + i))))
  True)))))))))))))))))))))
  (br on
  (need
  (okStepR
  [Ta.cell (Td.sc (Value.int IntKind.i64 kind)),
  Ta.cell
  (Td.fr 3 4 0
  (selT 3 4
  [Td.sc (Value.int IntKind.i64 (1 : Int)), Td.sc (Value.int IntKind.i64 (0 : Int)),
  Td.sc (Value.float FloatKind.f64 0), Td.sc (Value.int IntKind.i64 (4 : Int)),
  Td.sc (Value.int IntKind.i64 (IntKind.wrap IntKind.i64 et)),
  Td.sc (Value.float FloatKind.f64 0), Td.sc (Value.int IntKind.i64 (1 : Int)),
  Td.sc (Value.int IntKind.i64 (1 : Int)), Td.sc (Value.float FloatKind.f64 0),
  Td.sc (Value.int IntKind.i64 (4 : Int)), Td.sc (Value.int IntKind.i64 (IntKind.wrap IntKind.i64 a)),
  Td.sc (Value.float FloatKind.f64 0)])),
  Ta.cell (Td.sc (Value.bool inn)), Ta.cell (Td.sc (Value.int IntKind.i64 (IntKind.wrap IntKind.i64 pt))),
  Ta.cell (Td.sc (Value.int IntKind.i64 (IntKind.wrap IntKind.i64 now)))])
  (need
  (true &&
  Nat.ble
  (0 +
  List.length
  (timL kind
  [Vl.mk (1 : Int)
  (bif true then (0 : Int)
  else
  bif true then IntKind.wrap IntKind.i64 et
  else bif true then (1 : Int) else IntKind.wrap IntKind.i64 a)
  0,
  Vl.mk (4 : Int)
  (bif false then (0 : Int)
  else
  bif true then IntKind.wrap IntKind.i64 et
  else bif true then (1 : Int) else IntKind.wrap IntKind.i64 a)
  0,
  Vl.mk (1 : Int)
  (bif false then (0 : Int)
  else
  bif false then IntKind.wrap IntKind.i64 et
  else bif true then (1 : Int) else IntKind.wrap IntKind.i64 a)
  0,
  Vl.mk (4 : Int)
  (bif false then (0 : Int)
  else
  bif false then IntKind.wrap IntKind.i64 et
  else bif false then (1 : Int) else IntKind.wrap IntKind.i64 a)
  0]
  inn (IntKind.wrap IntKind.i64 pt) (IntKind.wrap IntKind.i64 now)))
  (List.length
  (timL kind
  [Vl.mk (1 : Int)
  (bif true then (0 : Int)
  else
  bif true then IntKind.wrap IntKind.i64 et
  else bif true then (1 : Int) else IntKind.wrap IntKind.i64 a)
  0,
  Vl.mk (4 : Int)
  (bif false then (0 : Int)
  else
  bif true then IntKind.wrap IntKind.i64 et
  else bif true then (1 : Int) else IntKind.wrap IntKind.i64 a)
  0,
  Vl.mk (1 : Int)
  (bif false then (0 : Int)
  else
  bif false then IntKind.wrap IntKind.i64 et
  else bif true then (1 : Int) else IntKind.wrap IntKind.i64 a)
  0,
  Vl.mk (4 : Int)
  (bif false then (0 : Int)
  else
  bif false then IntKind.wrap IntKind.i64 et
  else bif false then (1 : Int) else IntKind.wrap IntKind.i64 a)
  0]
  inn (IntKind.wrap IntKind.i64 pt) (IntKind.wrap IntKind.i64 now))))
  (need
  (true &&
  Nat.ble
  (0 +
  List.length
  (timL kind
  [Vl.mk (1 : Int)
  (bif true then (0 : Int)
  else
  bif true then IntKind.wrap IntKind.i64 et
  else bif true then (1 : Int) else IntKind.wrap IntKind.i64 a)
  0,
  Vl.mk (4 : Int)
  (bif false then (0 : Int)
  else
  bif true then IntKind.wrap IntKind.i64 et
  else bif true then (1 : Int) else IntKind.wrap IntKind.i64 a)
  0,
  Vl.mk (1 : Int)
  (bif false then (0 : Int)
  else
  bif false then IntKind.wrap IntKind.i64 et
  else bif true then (1 : Int) else IntKind.wrap IntKind.i64 a)
  0,
  Vl.mk (4 : Int)
  (bif false then (0 : Int)
  else
  bif false then IntKind.wrap IntKind.i64 et
  else bif false then (1 : Int) else IntKind.wrap IntKind.i64 a)
  0]
  inn (IntKind.wrap IntKind.i64 pt) (IntKind.wrap IntKind.i64 now)))
  (List.length
  (timL kind
  [Vl.mk (1 : Int)
  (bif true then (0 : Int)
  else
  bif true then IntKind.wrap IntKind.i64 et
  else bif true then (1 : Int) else IntKind.wrap IntKind.i64 a)
  0,
  Vl.mk (4 : Int)
  (bif false then (0 : Int)
  else
  bif true then IntKind.wrap IntKind.i64 et
  else bif true then (1 : Int) else IntKind.wrap IntKind.i64 a)
  0,
  Vl.mk (1 : Int)
  (bif false then (0 : Int)
  else
  bif false then IntKind.wrap IntKind.i64 et
  else bif true then (1 : Int) else IntKind.wrap IntKind.i64 a)
  0,
  Vl.mk (4 : Int)
  (bif false then (0 : Int)
  else
  bif false then IntKind.wrap IntKind.i64 et
  else bif false then (1 : Int) else IntKind.wrap IntKind.i64 a)
  0]
  inn (IntKind.wrap IntKind.i64 pt) (IntKind.wrap IntKind.i64 now))))
  (need
  (ok2 Vl Vl (fun x x_1 x_2 x_3 => true)
  [Ta.cell
  (Td.fr 3
  (List.length
  (timL kind
  [Vl.mk (1 : Int)
  (bif true then (0 : Int)
  else
  bif true then IntKind.wrap IntKind.i64 et
  else bif true then (1 : Int) else IntKind.wrap IntKind.i64 a)
  0,
  Vl.mk (4 : Int)
  (bif false then (0 : Int)
  else
  bif true then IntKind.wrap IntKind.i64 et
  else bif true then (1 : Int) else IntKind.wrap IntKind.i64 a)
  0,
  Vl.mk (1 : Int)
  (bif false then (0 : Int)
  else
  bif false then IntKind.wrap IntKind.i64 et
  else bif true then (1 : Int) else IntKind.wrap IntKind.i64 a)
  0,
  Vl.mk (4 : Int)
  (bif false then (0 : Int)
  else
  bif false then IntKind.wrap IntKind.i64 et
  else bif false then (1 : Int) else IntKind.wrap IntKind.i64 a)
  0]
  inn (IntKind.wrap IntKind.i64 pt) (IntKind.wrap IntKind.i64 now)))
  (timC
  [Vl.mk (1 : Int)
  (bif true then (0 : Int)
  else
  bif true then IntKind.wrap IntKind.i64 et
  else bif true then (1 : Int) else IntKind.wrap IntKind.i64 a)
  0,
  Vl.mk (4 : Int)
  (bif false then (0 : Int)
  else
  bif true then IntKind.wrap IntKind.i64 et
  else bif true then (1 : Int) else IntKind.wrap IntKind.i64 a)
  0,
  Vl.mk (1 : Int)
  (bif false then (0 : Int)
  else
  bif false then IntKind.wrap IntKind.i64 et
  else bif true then (1 : Int) else IntKind.wrap IntKind.i64 a)
  0,
  Vl.mk (4 : Int)
  (bif false then (0 : Int)
  else
  bif false then IntKind.wrap IntKind.i64 et
  else bif false then (1 : Int) else IntKind.wrap IntKind.i64 a)
  0]
  (nilT
  (Td.fr 3 4 0
  (selT 3 4
  [Td.sc (Value.int IntKind.i64 (1 : Int)), Td.sc (Value.int IntKind.i64 (0 : Int)),
  Td.sc (Value.float FloatKind.f64 0), Td.sc (Value.int IntKind.i64 (4 : Int)),
  Td.sc (Value.int IntKind.i64 (IntKind.wrap IntKind.i64 et)),
  Td.sc (Value.float FloatKind.f64 0), Td.sc (Value.int IntKind.i64 (1 : Int)),
  Td.sc (Value.int IntKind.i64 (1 : Int)), Td.sc (Value.float FloatKind.f64 0),
  Td.sc (Value.int IntKind.i64 (4 : Int)),
  Td.sc (Value.int IntKind.i64 (IntKind.wrap IntKind.i64 a)),
  Td.sc (Value.float FloatKind.f64 0)]))))
  fun i =>
  encL
  (timL kind
  [Vl.mk (1 : Int)
  (bif true then (0 : Int)
  else
  bif true then IntKind.wrap IntKind.i64 et
  else bif true then (1 : Int) else IntKind.wrap IntKind.i64 a)
  0,
  Vl.mk (4 : Int)
  (bif false then (0 : Int)
  else
  bif true then IntKind.wrap IntKind.i64 et
  else bif true then (1 : Int) else IntKind.wrap IntKind.i64 a)
  0,
  Vl.mk (1 : Int)
  (bif false then (0 : Int)
  else
  bif false then IntKind.wrap IntKind.i64 et
  else bif true then (1 : Int) else IntKind.wrap IntKind.i64 a)
  0,
  Vl.mk (4 : Int)
  (bif false then (0 : Int)
  else
  bif false then IntKind.wrap IntKind.i64 et
  else bif false then (1 : Int) else IntKind.wrap IntKind.i64 a)
  0]
  inn (IntKind.wrap IntKind.i64 pt) (IntKind.wrap IntKind.i64 now))
  (0 + i)),
  Ta.cell
  (Td.fr 3
  (List.length
  (timL kind
  [Vl.mk (1 : Int)
  (bif true then (0 : Int)
  else
  bif true then IntKind.wrap IntKind.i64 et
  else bif true then (1 : Int) else IntKind.wrap IntKind.i64 a)
  0,
  Vl.mk (4 : Int)
  (bif false then (0 : Int)
  else
  bif true then IntKind.wrap IntKind.i64 et
  else bif true then (1 : Int) else IntKind.wrap IntKind.i64 a)
  0,
  Vl.mk (1 : Int)
  (bif false then (0 : Int)
  else
  bif false then IntKind.wrap IntKind.i64 et
  else bif true then (1 : Int) else IntKind.wrap IntKind.i64 a)
  0,
  Vl.mk (4 : Int)
  (bif false then (0 : Int)
  else
  bif false then IntKind.wrap IntKind.i64 et
  else bif false then (1 : Int) else IntKind.wrap IntKind.i64 a)
  0]
  inn (IntKind.wrap IntKind.i64 pt) (IntKind.wrap IntKind.i64 now)))
  (timC
  [Vl.mk (1 : Int)
  (bif true then (0 : Int)
  else
  bif true then IntKind.wrap IntKind.i64 et
  else bif true then (1 : Int) else IntKind.wrap IntKind.i64 a)
  0,
  Vl.mk (4 : Int)
  (bif false then (0 : Int)
  else
  bif true then IntKind.wrap IntKind.i64 et
  else bif true then (1 : Int) else IntKind.wrap IntKind.i64 a)
  0,
  Vl.mk (1 : Int)
  (bif false then (0 : Int)
  else
  bif false then IntKind.wrap IntKind.i64 et
  else bif true then (1 : Int) else IntKind.wrap IntKind.i64 a)
  0,
  Vl.mk (4 : Int)
  (bif false then (0 : Int)
  else
  bif false then IntKind.wrap IntKind.i64 et
  else bif false then (1 : Int) else IntKind.wrap IntKind.i64 a)
  0]
  (nilT
  (Td.fr 3 4 0
  (selT 3 4
  [Td.sc (Value.int IntKind.i64 (1 : Int)), Td.sc (Value.int IntKind.i64 (0 : Int)),
  Td.sc (Value.float FloatKind.f64 0), Td.sc (Value.int IntKind.i64 (4 : Int)),
  Td.sc (Value.int IntKind.i64 (IntKind.wrap IntKind.i64 et)),
  Td.sc (Value.float FloatKind.f64 0), Td.sc (Value.int IntKind.i64 (1 : Int)),
  Td.sc (Value.int IntKind.i64 (1 : Int)), Td.sc (Value.float FloatKind.f64 0),
  Td.sc (Value.int IntKind.i64 (4 : Int)),
  Td.sc (Value.int IntKind.i64 (IntKind.wrap IntKind.i64 a)),
  Td.sc (Value.float FloatKind.f64 0)]))))
  fun i =>
  encL
  (timL kind
  [Vl.mk (1 : Int)
  (bif true then (0 : Int)
  else
  bif true then IntKind.wrap IntKind.i64 et
  else bif true then (1 : Int) else IntKind.wrap IntKind.i64 a)
  0,
  Vl.mk (4 : Int)
  (bif false then (0 : Int)
  else
  bif true then IntKind.wrap IntKind.i64 et
  else bif true then (1 : Int) else IntKind.wrap IntKind.i64 a)
  0,
  Vl.mk (1 : Int)
  (bif false then (0 : Int)
  else
  bif false then IntKind.wrap IntKind.i64 et
  else bif true then (1 : Int) else IntKind.wrap IntKind.i64 a)
  0,
  Vl.mk (4 : Int)
  (bif false then (0 : Int)
  else
  bif false then IntKind.wrap IntKind.i64 et
  else bif false then (1 : Int) else IntKind.wrap IntKind.i64 a)
  0]
  inn (IntKind.wrap IntKind.i64 pt) (IntKind.wrap IntKind.i64 now))
  (0 + i))])
  (br
  (!sameVs
  (listT Vl
  (Td.fr 3
  (List.length
  (timL kind
  [Vl.mk (1 : Int)
  (bif true then (0 : Int)
  else
  bif true then IntKind.wrap IntKind.i64 et
  else bif true then (1 : Int) else IntKind.wrap IntKind.i64 a)
  0,
  Vl.mk (4 : Int)
  (bif false then (0 : Int)
  else
  bif true then IntKind.wrap IntKind.i64 et
  else bif true then (1 : Int) else IntKind.wrap IntKind.i64 a)
  0,
  Vl.mk (1 : Int)
  (bif false then (0 : Int)
  else
  bif false then IntKind.wrap IntKind.i64 et
  else bif true then (1 : Int) else IntKind.wrap IntKind.i64 a)
  0,
  Vl.mk (4 : Int)
  (bif false then (0 : Int)
  else
  bif false then IntKind.wrap IntKind.i64 et
  else bif false then (1 : Int) else IntKind.wrap IntKind.i64 a)
  0]
  inn (IntKind.wrap IntKind.i64 pt) (IntKind.wrap IntKind.i64 now)))
  (timC
  [Vl.mk (1 : Int)
  (bif true then (0 : Int)
  else
  bif true then IntKind.wrap IntKind.i64 et
  else bif true then (1 : Int) else IntKind.wrap IntKind.i64 a)
  0,
  Vl.mk (4 : Int)
  (bif false then (0 : Int)
  else
  bif true then IntKind.wrap IntKind.i64 et
  else bif true then (1 : Int) else IntKind.wrap IntKind.i64 a)
  0,
  Vl.mk (1 : Int)
  (bif false then (0 : Int)
  else
  bif false then IntKind.wrap IntKind.i64 et
  else bif true then (1 : Int) else IntKind.wrap IntKind.i64 a)
  0,
  Vl.mk (4 : Int)
  (bif false then (0 : Int)
  else
  bif false then IntKind.wrap IntKind.i64 et
  else bif false then (1 : Int) else IntKind.wrap IntKind.i64 a)
  0]
  (nilT
  (Td.fr 3 4 0
  (selT 3 4
  [Td.sc (Value.int IntKind.i64 (1 : Int)), Td.sc (Value.int IntKind.i64 (0 : Int)),
  Td.sc (Value.float FloatKind.f64 0), Td.sc (Value.int IntKind.i64 (4 : Int)),
  Td.sc (Value.int IntKind.i64 (IntKind.wrap IntKind.i64 et)),
  Td.sc (Value.float FloatKind.f64 0), Td.sc (Value.int IntKind.i64 (1 : Int)),
  Td.sc (Value.int IntKind.i64 (1 : Int)), Td.sc (Value.float FloatKind.f64 0),
  Td.sc (Value.int IntKind.i64 (4 : Int)),
  Td.sc (Value.int IntKind.i64 (IntKind.wrap IntKind.i64 a)),
  Td.sc (Value.float FloatKind.f64 0)]))))
  fun i =>
  encL
  (timL kind
  [Vl.mk (1 : Int)
  (bif true then (0 : Int)
  else
  bif true then IntKind.wrap IntKind.i64 et
  else bif true then (1 : Int) else IntKind.wrap IntKind.i64 a)
  0,
  Vl.mk (4 : Int)
  (bif false then (0 : Int)
  else
  bif true then IntKind.wrap IntKind.i64 et
  else bif true then (1 : Int) else IntKind.wrap IntKind.i64 a)
  0,
  Vl.mk (1 : Int)
  (bif false then (0 : Int)
  else
  bif false then IntKind.wrap IntKind.i64 et
  else bif true then (1 : Int) else IntKind.wrap IntKind.i64 a)
  0,
  Vl.mk (4 : Int)
  (bif false then (0 : Int)
  else
  bif false then IntKind.wrap IntKind.i64 et
  else bif false then (1 : Int) else IntKind.wrap IntKind.i64 a)
  0]
  inn (IntKind.wrap IntKind.i64 pt) (IntKind.wrap IntKind.i64 now))
  (0 + i)))
  (listT Vl
  (Td.fr 3
  (List.length
  (timL kind
  [Vl.mk (1 : Int)
  (bif true then (0 : Int)
  else
  bif true then IntKind.wrap IntKind.i64 et
  else bif true then (1 : Int) else IntKind.wrap IntKind.i64 a)
  0,
  Vl.mk (4 : Int)
  (bif false then (0 : Int)
  else
  bif true then IntKind.wrap IntKind.i64 et
  else bif true then (1 : Int) else IntKind.wrap IntKind.i64 a)
  0,
  Vl.mk (1 : Int)
  (bif false then (0 : Int)
  else
  bif false then IntKind.wrap IntKind.i64 et
  else bif true then (1 : Int) else IntKind.wrap IntKind.i64 a)
  0,
  Vl.mk (4 : Int)
  (bif false then (0 : Int)
  else
  bif false then IntKind.wrap IntKind.i64 et
  else bif false then (1 : Int) else IntKind.wrap IntKind.i64 a)
  0]
  inn (IntKind.wrap IntKind.i64 pt) (IntKind.wrap IntKind.i64 now)))
  (timC
  [Vl.mk (1 : Int)
  (bif true then (0 : Int)
  else
  bif true then IntKind.wrap IntKind.i64 et
  else bif true then (1 : Int) else IntKind.wrap IntKind.i64 a)
  0,
  Vl.mk (4 : Int)
  (bif false then (0 : Int)
  else
  bif true then IntKind.wrap IntKind.i64 et
  else bif true then (1 : Int) else IntKind.wrap IntKind.i64 a)
  0,
  Vl.mk (1 : Int)
  (bif false then (0 : Int)
  else
  bif false then IntKind.wrap IntKind.i64 et
  else bif true then (1 : Int) else IntKind.wrap IntKind.i64 a)
  0,
  Vl.mk (4 : Int)
  (bif false then (0 : Int)
  else
  bif false then IntKind.wrap IntKind.i64 et
  else bif false then (1 : Int) else IntKind.wrap IntKind.i64 a)
  0]
  (nilT
  (Td.fr 3 4 0
  (selT 3 4
  [Td.sc (Value.int IntKind.i64 (1 : Int)), Td.sc (Value.int IntKind.i64 (0 : Int)),
  Td.sc (Value.float FloatKind.f64 0), Td.sc (Value.int IntKind.i64 (4 : Int)),
  Td.sc (Value.int IntKind.i64 (IntKind.wrap IntKind.i64 et)),
  Td.sc (Value.float FloatKind.f64 0), Td.sc (Value.int IntKind.i64 (1 : Int)),
  Td.sc (Value.int IntKind.i64 (1 : Int)), Td.sc (Value.float FloatKind.f64 0),
  Td.sc (Value.int IntKind.i64 (4 : Int)),
  Td.sc (Value.int IntKind.i64 (IntKind.wrap IntKind.i64 a)),
  Td.sc (Value.float FloatKind.f64 0)]))))
  fun i =>
  encL
  (timL kind
  [Vl.mk (1 : Int)
  (bif true then (0 : Int)
  else
  bif true then IntKind.wrap IntKind.i64 et
  else bif true then (1 : Int) else IntKind.wrap IntKind.i64 a)
  0,
  Vl.mk (4 : Int)
  (bif false then (0 : Int)
  else
  bif true then IntKind.wrap IntKind.i64 et
  else bif true then (1 : Int) else IntKind.wrap IntKind.i64 a)
  0,
  Vl.mk (1 : Int)
  (bif false then (0 : Int)
  else
  bif false then IntKind.wrap IntKind.i64 et
  else bif true then (1 : Int) else IntKind.wrap IntKind.i64 a)
  0,
  Vl.mk (4 : Int)
  (bif false then (0 : Int)
  else
  bif false then IntKind.wrap IntKind.i64 et
  else bif false then (1 : Int) else IntKind.wrap IntKind.i64 a)
  0]
  inn (IntKind.wrap IntKind.i64 pt) (IntKind.wrap IntKind.i64 now))
  (0 + i))))
  False
  (need
  (okStepR
  [Ta.cell (Td.sc (Value.int IntKind.i64 (6 : Int))),
  Ta.cell
  (Td.fr 3 4 0
  (selT 3 4
  [Td.sc (Value.int IntKind.i64 (1 : Int)), Td.sc (Value.int IntKind.i64 (0 : Int)),
  Td.sc (Value.float FloatKind.f64 0), Td.sc (Value.int IntKind.i64 (4 : Int)),
  Td.sc (Value.int IntKind.i64 (IntKind.wrap IntKind.i64 et)),
  Td.sc (Value.float FloatKind.f64 0), Td.sc (Value.int IntKind.i64 (1 : Int)),
  Td.sc (Value.int IntKind.i64 (1 : Int)), Td.sc (Value.float FloatKind.f64 0),
  Td.sc (Value.int IntKind.i64 (4 : Int)),
  Td.sc (Value.int IntKind.i64 (IntKind.wrap IntKind.i64 a)),
  Td.sc (Value.float FloatKind.f64 0)])),
  Ta.cell (Td.sc (Value.bool inn)),
  Ta.cell (Td.sc (Value.int IntKind.i64 (IntKind.wrap IntKind.i64 pt))),
  Ta.cell (Td.sc (Value.int IntKind.i64 (IntKind.wrap IntKind.i64 now)))])
  (br
  (!sameVs
  [Vl.mk (1 : Int)
  (one
  (bif inn then
  goesN (IntKind.wrap IntKind.i64 now)
  (atM
  (bif false then (0 : Int)
  else
  bif false then IntKind.wrap IntKind.i64 et
  else bif true then (1 : Int) else IntKind.wrap IntKind.i64 a)
  (bif false then (0 : Int)
  else
  bif false then IntKind.wrap IntKind.i64 et
  else bif false then (1 : Int) else IntKind.wrap IntKind.i64 a)
  (IntKind.wrap IntKind.i64 now))
  (ptM (IntKind.wrap IntKind.i64 pt)) ==
  ptM (IntKind.wrap IntKind.i64 pt)
  else false))
  0,
  Vl.mk (4 : Int)
  (bif inn then
  goesN (IntKind.wrap IntKind.i64 now)
  (atM
  (bif false then (0 : Int)
  else
  bif false then IntKind.wrap IntKind.i64 et
  else bif true then (1 : Int) else IntKind.wrap IntKind.i64 a)
  (bif false then (0 : Int)
  else
  bif false then IntKind.wrap IntKind.i64 et
  else bif false then (1 : Int) else IntKind.wrap IntKind.i64 a)
  (IntKind.wrap IntKind.i64 now))
  (ptM (IntKind.wrap IntKind.i64 pt))
  else (0 : Int))
  0,
  Vl.mk (1 : Int) (one inn) 0,
  Vl.mk (4 : Int)
  (bif inn then
  atM
  (bif false then (0 : Int)
  else
  bif false then IntKind.wrap IntKind.i64 et
  else bif true then (1 : Int) else IntKind.wrap IntKind.i64 a)
  (bif false then (0 : Int)
  else
  bif false then IntKind.wrap IntKind.i64 et
  else bif false then (1 : Int) else IntKind.wrap IntKind.i64 a)
  (IntKind.wrap IntKind.i64 now)
  else (0 : Int))
  0]
  [Vl.mk (1 : Int)
  (one
  (bif inn then
  goesN (IntKind.wrap IntKind.i64 now)
  (atM
  (bif false then (0 : Int)
  else
  bif false then IntKind.wrap IntKind.i64 et
  else bif true then (1 : Int) else IntKind.wrap IntKind.i64 a)
  (bif false then (0 : Int)
  else
  bif false then IntKind.wrap IntKind.i64 et
  else bif false then (1 : Int) else IntKind.wrap IntKind.i64 a)
  (IntKind.wrap IntKind.i64 now))
  (ptM (IntKind.wrap IntKind.i64 pt)) ==
  ptM (IntKind.wrap IntKind.i64 pt)
  else false))
  0,
  Vl.mk (4 : Int)
  (bif inn then
  goesN (IntKind.wrap IntKind.i64 now)
  (atM
  (bif false then (0 : Int)
  else
  bif false then IntKind.wrap IntKind.i64 et
  else bif true then (1 : Int) else IntKind.wrap IntKind.i64 a)
  (bif false then (0 : Int)
  else
  bif false then IntKind.wrap IntKind.i64 et
  else bif false then (1 : Int) else IntKind.wrap IntKind.i64 a)
  (IntKind.wrap IntKind.i64 now))
  (ptM (IntKind.wrap IntKind.i64 pt))
  else (0 : Int))
  0,
  Vl.mk (1 : Int) (one inn) 0,
  Vl.mk (4 : Int)
  (bif inn then
  atM
  (bif false then (0 : Int)
  else
  bif false then IntKind.wrap IntKind.i64 et
  else bif true then (1 : Int) else IntKind.wrap IntKind.i64 a)
  (bif false then (0 : Int)
  else
  bif false then IntKind.wrap IntKind.i64 et
  else bif false then (1 : Int) else IntKind.wrap IntKind.i64 a)
  (IntKind.wrap IntKind.i64 now)
  else (0 : Int))
  0])
  False
  (need
  (okStepR
  [Ta.cell (Td.sc (Value.int IntKind.i64 (7 : Int))),
  Ta.cell
  (Td.fr 3 4 0
  (selT 3 4
  [Td.sc (Value.int IntKind.i64 (1 : Int)), Td.sc (Value.int IntKind.i64 (0 : Int)),
  Td.sc (Value.float FloatKind.f64 0), Td.sc (Value.int IntKind.i64 (4 : Int)),
  Td.sc (Value.int IntKind.i64 (IntKind.wrap IntKind.i64 et)),
  Td.sc (Value.float FloatKind.f64 0), Td.sc (Value.int IntKind.i64 (1 : Int)),
  Td.sc (Value.int IntKind.i64 (1 : Int)), Td.sc (Value.float FloatKind.f64 0),
  Td.sc (Value.int IntKind.i64 (4 : Int)),
  Td.sc (Value.int IntKind.i64 (IntKind.wrap IntKind.i64 a)),
  Td.sc (Value.float FloatKind.f64 0)])),
  Ta.cell (Td.sc (Value.bool inn)),
  Ta.cell (Td.sc (Value.int IntKind.i64 (IntKind.wrap IntKind.i64 pt))),
  Ta.cell (Td.sc (Value.int IntKind.i64 (IntKind.wrap IntKind.i64 now)))])
  (br
  (!sameVs
  [Vl.mk (1 : Int)
  (one
  (bif inn then true
  else
  bif
  (bif true then (0 : Int)
  else
  bif true then IntKind.wrap IntKind.i64 et
  else bif true then (1 : Int) else IntKind.wrap IntKind.i64 a) !=
  (0 : Int) then
  !goesN (IntKind.wrap IntKind.i64 now)
  (atM
  (bif false then (0 : Int)
  else
  bif false then IntKind.wrap IntKind.i64 et
  else bif true then (1 : Int) else IntKind.wrap IntKind.i64 a)
  (bif false then (0 : Int)
  else
  bif false then IntKind.wrap IntKind.i64 et
  else bif false then (1 : Int) else IntKind.wrap IntKind.i64 a)
  (IntKind.wrap IntKind.i64 now))
  (ptM (IntKind.wrap IntKind.i64 pt)) ==
  ptM (IntKind.wrap IntKind.i64 pt)
  else false))
  0,
  Vl.mk (4 : Int)
  (bif inn then (0 : Int)
  else
  bif
  (bif true then (0 : Int)
  else
  bif true then IntKind.wrap IntKind.i64 et
  else bif true then (1 : Int) else IntKind.wrap IntKind.i64 a) !=
  (0 : Int) then
  goesN (IntKind.wrap IntKind.i64 now)
  (atM
  (bif false then (0 : Int)
  else
  bif false then IntKind.wrap IntKind.i64 et
  else bif true then (1 : Int) else IntKind.wrap IntKind.i64 a)
  (bif false then (0 : Int)
  else
  bif false then IntKind.wrap IntKind.i64 et
  else bif false then (1 : Int) else IntKind.wrap IntKind.i64 a)
  (IntKind.wrap IntKind.i64 now))
  (ptM (IntKind.wrap IntKind.i64 pt))
  else
  bif false then (0 : Int)
  else
  bif true then IntKind.wrap IntKind.i64 et
  else bif true then (1 : Int) else IntKind.wrap IntKind.i64 a)
  0,
  Vl.mk (1 : Int)
  (one
  (bif inn then false
  else
  bif
  (bif true then (0 : Int)
  else
  bif true then IntKind.wrap IntKind.i64 et
  else bif true then (1 : Int) else IntKind.wrap IntKind.i64 a) !=
  (0 : Int) then
  true
  else
  (bif false then (0 : Int)
  else
  bif false then IntKind.wrap IntKind.i64 et
  else bif true then (1 : Int) else IntKind.wrap IntKind.i64 a) !=
  (0 : Int)))
  0,
  Vl.mk (4 : Int)
  (bif inn then (0 : Int)
  else
  bif
  (bif true then (0 : Int)
  else
  bif true then IntKind.wrap IntKind.i64 et
  else bif true then (1 : Int) else IntKind.wrap IntKind.i64 a) !=
  (0 : Int) then
  atM
  (bif false then (0 : Int)
  else
  bif false then IntKind.wrap IntKind.i64 et
  else bif true then (1 : Int) else IntKind.wrap IntKind.i64 a)
  (bif false then (0 : Int)
  else
  bif false then IntKind.wrap IntKind.i64 et
  else bif false then (1 : Int) else IntKind.wrap IntKind.i64 a)
  (IntKind.wrap IntKind.i64 now)
  else
  bif false then (0 : Int)
  else
  bif false then IntKind.wrap IntKind.i64 et
  else bif false then (1 : Int) else IntKind.wrap IntKind.i64 a)
  0]
  [Vl.mk (1 : Int)
  (one
  (bif inn then true
  else
  bif
  (bif true then (0 : Int)
  else
  bif true then IntKind.wrap IntKind.i64 et
  else bif true then (1 : Int) else IntKind.wrap IntKind.i64 a) !=
  (0 : Int) then
  !goesN (IntKind.wrap IntKind.i64 now)
  (atM
  (bif false then (0 : Int)
  else
  bif false then IntKind.wrap IntKind.i64 et
  else bif true then (1 : Int) else IntKind.wrap IntKind.i64 a)
  (bif false then (0 : Int)
  else
  bif false then IntKind.wrap IntKind.i64 et
  else bif false then (1 : Int) else IntKind.wrap IntKind.i64 a)
  (IntKind.wrap IntKind.i64 now))
  (ptM (IntKind.wrap IntKind.i64 pt)) ==
  ptM (IntKind.wrap IntKind.i64 pt)
  else false))
  0,
  Vl.mk (4 : Int)
  (bif inn then (0 : Int)
  else
  bif
  (bif true then (0 : Int)
  else
  bif true then IntKind.wrap IntKind.i64 et
  else bif true then (1 : Int) else IntKind.wrap IntKind.i64 a) !=
  (0 : Int) then
  goesN (IntKind.wrap IntKind.i64 now)
  (atM
  (bif false then (0 : Int)
  else
  bif false then IntKind.wrap IntKind.i64 et
  else bif true then (1 : Int) else IntKind.wrap IntKind.i64 a)
  (bif false then (0 : Int)
  else
  bif false then IntKind.wrap IntKind.i64 et
  else bif false then (1 : Int) else IntKind.wrap IntKind.i64 a)
  (IntKind.wrap IntKind.i64 now))
  (ptM (IntKind.wrap IntKind.i64 pt))
  else
  bif false then (0 : Int)
  else
  bif true then IntKind.wrap IntKind.i64 et
  else bif true then (1 : Int) else IntKind.wrap IntKind.i64 a)
  0,
  Vl.mk (1 : Int)
  (one
  (bif inn then false
  else
  bif
  (bif true then (0 : Int)
  else
  bif true then IntKind.wrap IntKind.i64 et
  else bif true then (1 : Int) else IntKind.wrap IntKind.i64 a) !=
  (0 : Int) then
  true
  else
  (bif false then (0 : Int)
  else
  bif false then IntKind.wrap IntKind.i64 et
  else bif true then (1 : Int) else IntKind.wrap IntKind.i64 a) !=
  (0 : Int)))
  0,
  Vl.mk (4 : Int)
  (bif inn then (0 : Int)
  else
  bif
  (bif true then (0 : Int)
  else
  bif true then IntKind.wrap IntKind.i64 et
  else bif true then (1 : Int) else IntKind.wrap IntKind.i64 a) !=
  (0 : Int) then
  atM
  (bif false then (0 : Int)
  else
  bif false then IntKind.wrap IntKind.i64 et
  else bif true then (1 : Int) else IntKind.wrap IntKind.i64 a)
  (bif false then (0 : Int)
  else
  bif false then IntKind.wrap IntKind.i64 et
  else bif false then (1 : Int) else IntKind.wrap IntKind.i64 a)
  (IntKind.wrap IntKind.i64 now)
  else
  bif false then (0 : Int)
  else
  bif false then IntKind.wrap IntKind.i64 et
  else bif false then (1 : Int) else IntKind.wrap IntKind.i64 a)
  0])
  False
  (need
  (okStepR
  [Ta.cell (Td.sc (Value.int IntKind.i64 (8 : Int))),
  Ta.cell
  (Td.fr 3 4 0
  (selT 3 4
  [Td.sc (Value.int IntKind.i64 (1 : Int)), Td.sc (Value.int IntKind.i64 (0 : Int)),
  Td.sc (Value.float FloatKind.f64 0),
  Td.sc (Value.int IntKind.i64 (4 : Int)),
  Td.sc (Value.int IntKind.i64 (IntKind.wrap IntKind.i64 et)),
  Td.sc (Value.float FloatKind.f64 0),
  Td.sc (Value.int IntKind.i64 (1 : Int)), Td.sc (Value.int IntKind.i64 (1 : Int)),
  Td.sc (Value.float FloatKind.f64 0),
  Td.sc (Value.int IntKind.i64 (4 : Int)),
  Td.sc (Value.int IntKind.i64 (IntKind.wrap IntKind.i64 a)),
  Td.sc (Value.float FloatKind.f64 0)])),
  Ta.cell (Td.sc (Value.bool inn)),
  Ta.cell (Td.sc (Value.int IntKind.i64 (IntKind.wrap IntKind.i64 pt))),
  Ta.cell (Td.sc (Value.int IntKind.i64 (IntKind.wrap IntKind.i64 now)))])
  (br
  (!sameVs
  [Vl.mk (1 : Int)
  (one
  (bif
  tpB
  ((bif false then (0 : Int)
  else
  bif false then IntKind.wrap IntKind.i64 et
  else bif true then (1 : Int) else IntKind.wrap IntKind.i64 a) !=
  (0 : Int))
  inn
  (bif false then (0 : Int)
  else
  bif false then IntKind.wrap IntKind.i64 et
  else bif false then (1 : Int) else IntKind.wrap IntKind.i64 a)
  (ptM (IntKind.wrap IntKind.i64 pt)) (IntKind.wrap IntKind.i64 now) then
  !goesN (IntKind.wrap IntKind.i64 now)
  (atM
  (bif false then (0 : Int)
  else
  bif false then IntKind.wrap IntKind.i64 et
  else bif true then (1 : Int) else IntKind.wrap IntKind.i64 a)
  (bif false then (0 : Int)
  else
  bif false then IntKind.wrap IntKind.i64 et
  else bif false then (1 : Int) else IntKind.wrap IntKind.i64 a)
  (IntKind.wrap IntKind.i64 now))
  (ptM (IntKind.wrap IntKind.i64 pt)) ==
  ptM (IntKind.wrap IntKind.i64 pt)
  else false))
  0,
  Vl.mk (4 : Int)
  (bif
  tpB
  ((bif false then (0 : Int)
  else
  bif false then IntKind.wrap IntKind.i64 et
  else bif true then (1 : Int) else IntKind.wrap IntKind.i64 a) !=
  (0 : Int))
  inn
  (bif false then (0 : Int)
  else
  bif false then IntKind.wrap IntKind.i64 et
  else bif false then (1 : Int) else IntKind.wrap IntKind.i64 a)
  (ptM (IntKind.wrap IntKind.i64 pt)) (IntKind.wrap IntKind.i64 now) then
  goesN (IntKind.wrap IntKind.i64 now)
  (atM
  (bif false then (0 : Int)
  else
  bif false then IntKind.wrap IntKind.i64 et
  else bif true then (1 : Int) else IntKind.wrap IntKind.i64 a)
  (bif false then (0 : Int)
  else
  bif false then IntKind.wrap IntKind.i64 et
  else bif false then (1 : Int) else IntKind.wrap IntKind.i64 a)
  (IntKind.wrap IntKind.i64 now))
  (ptM (IntKind.wrap IntKind.i64 pt))
  else (0 : Int))
  0,
  Vl.mk (1 : Int)
  (one
  (tpB
  ((bif false then (0 : Int)
  else
  bif false then IntKind.wrap IntKind.i64 et
  else bif true then (1 : Int) else IntKind.wrap IntKind.i64 a) !=
  (0 : Int))
  inn
  (bif false then (0 : Int)
  else
  bif false then IntKind.wrap IntKind.i64 et
  else bif false then (1 : Int) else IntKind.wrap IntKind.i64 a)
  (ptM (IntKind.wrap IntKind.i64 pt)) (IntKind.wrap IntKind.i64 now)))
  0,
  Vl.mk (4 : Int)
  (bif
  tpB
  ((bif false then (0 : Int)
  else
  bif false then IntKind.wrap IntKind.i64 et
  else bif true then (1 : Int) else IntKind.wrap IntKind.i64 a) !=
  (0 : Int))
  inn
  (bif false then (0 : Int)
  else
  bif false then IntKind.wrap IntKind.i64 et
  else bif false then (1 : Int) else IntKind.wrap IntKind.i64 a)
  (ptM (IntKind.wrap IntKind.i64 pt)) (IntKind.wrap IntKind.i64 now) then
  atM
  (bif false then (0 : Int)
  else
  bif false then IntKind.wrap IntKind.i64 et
  else bif true then (1 : Int) else IntKind.wrap IntKind.i64 a)
  (bif false then (0 : Int)
  else
  bif false then IntKind.wrap IntKind.i64 et
  else bif false then (1 : Int) else IntKind.wrap IntKind.i64 a)
  (IntKind.wrap IntKind.i64 now)
  else (0 : Int))
  0]
  [Vl.mk (1 : Int)
  (one
  (bif
  tpB
  ((bif false then (0 : Int)
  else
  bif false then IntKind.wrap IntKind.i64 et
  else bif true then (1 : Int) else IntKind.wrap IntKind.i64 a) !=
  (0 : Int))
  inn
  (bif false then (0 : Int)
  else
  bif false then IntKind.wrap IntKind.i64 et
  else bif false then (1 : Int) else IntKind.wrap IntKind.i64 a)
  (ptM (IntKind.wrap IntKind.i64 pt)) (IntKind.wrap IntKind.i64 now) then
  !goesN (IntKind.wrap IntKind.i64 now)
  (atM
  (bif false then (0 : Int)
  else
  bif false then IntKind.wrap IntKind.i64 et
  else bif true then (1 : Int) else IntKind.wrap IntKind.i64 a)
  (bif false then (0 : Int)
  else
  bif false then IntKind.wrap IntKind.i64 et
  else bif false then (1 : Int) else IntKind.wrap IntKind.i64 a)
  (IntKind.wrap IntKind.i64 now))
  (ptM (IntKind.wrap IntKind.i64 pt)) ==
  ptM (IntKind.wrap IntKind.i64 pt)
  else false))
  0,
  Vl.mk (4 : Int)
  (bif
  tpB
  ((bif false then (0 : Int)
  else
  bif false then IntKind.wrap IntKind.i64 et
  else bif true then (1 : Int) else IntKind.wrap IntKind.i64 a) !=
  (0 : Int))
  inn
  (bif false then (0 : Int)
  else
  bif false then IntKind.wrap IntKind.i64 et
  else bif false then (1 : Int) else IntKind.wrap IntKind.i64 a)
  (ptM (IntKind.wrap IntKind.i64 pt)) (IntKind.wrap IntKind.i64 now) then
  goesN (IntKind.wrap IntKind.i64 now)
  (atM
  (bif false then (0 : Int)
  else
  bif false then IntKind.wrap IntKind.i64 et
  else bif true then (1 : Int) else IntKind.wrap IntKind.i64 a)
  (bif false then (0 : Int)
  else
  bif false then IntKind.wrap IntKind.i64 et
  else bif false then (1 : Int) else IntKind.wrap IntKind.i64 a)
  (IntKind.wrap IntKind.i64 now))
  (ptM (IntKind.wrap IntKind.i64 pt))
  else (0 : Int))
  0,
  Vl.mk (1 : Int)
  (one
  (tpB
  ((bif false then (0 : Int)
  else
  bif false then IntKind.wrap IntKind.i64 et
  else bif true then (1 : Int) else IntKind.wrap IntKind.i64 a) !=
  (0 : Int))
  inn
  (bif false then (0 : Int)
  else
  bif false then IntKind.wrap IntKind.i64 et
  else bif false then (1 : Int) else IntKind.wrap IntKind.i64 a)
  (ptM (IntKind.wrap IntKind.i64 pt)) (IntKind.wrap IntKind.i64 now)))
  0,
  Vl.mk (4 : Int)
  (bif
  tpB
  ((bif false then (0 : Int)
  else
  bif false then IntKind.wrap IntKind.i64 et
  else bif true then (1 : Int) else IntKind.wrap IntKind.i64 a) !=
  (0 : Int))
  inn
  (bif false then (0 : Int)
  else
  bif false then IntKind.wrap IntKind.i64 et
  else bif false then (1 : Int) else IntKind.wrap IntKind.i64 a)
  (ptM (IntKind.wrap IntKind.i64 pt)) (IntKind.wrap IntKind.i64 now) then
  atM
  (bif false then (0 : Int)
  else
  bif false then IntKind.wrap IntKind.i64 et
  else bif true then (1 : Int) else IntKind.wrap IntKind.i64 a)
  (bif false then (0 : Int)
  else
  bif false then IntKind.wrap IntKind.i64 et
  else bif false then (1 : Int) else IntKind.wrap IntKind.i64 a)
  (IntKind.wrap IntKind.i64 now)
  else (0 : Int))
  0])
  False
  (need
  (okStepR
  [Ta.cell (Td.sc (Value.int IntKind.i64 (9 : Int))),
  Ta.cell
  (Td.fr 3 4 0
  (selT 3 4
  [Td.sc (Value.int IntKind.i64 (1 : Int)),
  Td.sc (Value.int IntKind.i64 (0 : Int)),
  Td.sc (Value.float FloatKind.f64 0),
  Td.sc (Value.int IntKind.i64 (4 : Int)),
  Td.sc (Value.int IntKind.i64 (IntKind.wrap IntKind.i64 et)),
  Td.sc (Value.float FloatKind.f64 0),
  Td.sc (Value.int IntKind.i64 (1 : Int)),
  Td.sc (Value.int IntKind.i64 (1 : Int)),
  Td.sc (Value.float FloatKind.f64 0),
  Td.sc (Value.int IntKind.i64 (4 : Int)),
  Td.sc (Value.int IntKind.i64 (IntKind.wrap IntKind.i64 a)),
  Td.sc (Value.float FloatKind.f64 0)])),
  Ta.cell (Td.sc (Value.bool inn)),
  Ta.cell (Td.sc (Value.int IntKind.i64 (IntKind.wrap IntKind.i64 pt))),
  Ta.cell (Td.sc (Value.int IntKind.i64 (IntKind.wrap IntKind.i64 now)))])
  (br
  (!sameVs
  [Vl.mk (1 : Int)
  (bif true then (0 : Int)
  else
  bif true then IntKind.wrap IntKind.i64 et
  else bif true then (1 : Int) else IntKind.wrap IntKind.i64 a)
  0,
  Vl.mk (4 : Int)
  (bif false then (0 : Int)
  else
  bif true then IntKind.wrap IntKind.i64 et
  else bif true then (1 : Int) else IntKind.wrap IntKind.i64 a)
  0,
  Vl.mk (1 : Int)
  (bif false then (0 : Int)
  else
  bif false then IntKind.wrap IntKind.i64 et
  else bif true then (1 : Int) else IntKind.wrap IntKind.i64 a)
  0,
  Vl.mk (4 : Int)
  (bif false then (0 : Int)
  else
  bif false then IntKind.wrap IntKind.i64 et
  else bif false then (1 : Int) else IntKind.wrap IntKind.i64 a)
  0]
  [Vl.mk (1 : Int)
  (bif true then (0 : Int)
  else
  bif true then IntKind.wrap IntKind.i64 et
  else bif true then (1 : Int) else IntKind.wrap IntKind.i64 a)
  0,
  Vl.mk (4 : Int)
  (bif false then (0 : Int)
  else
  bif true then IntKind.wrap IntKind.i64 et
  else bif true then (1 : Int) else IntKind.wrap IntKind.i64 a)
  0,
  Vl.mk (1 : Int)
  (bif false then (0 : Int)
  else
  bif false then IntKind.wrap IntKind.i64 et
  else bif true then (1 : Int) else IntKind.wrap IntKind.i64 a)
  0,
  Vl.mk (4 : Int)
  (bif false then (0 : Int)
  else
  bif false then IntKind.wrap IntKind.i64 et
  else bif false then (1 : Int) else IntKind.wrap IntKind.i64 a)
  0])
  False
  (br (Int.ofNat (List.length l) == (4 : Int)) True
  (need (true && Nat.ble (0 + List.length l) (List.length l))
  (need
  (okStep (timOk true)
  [Ta.cell (Td.sc (Value.int IntKind.i64 (6 : Int))),
  Ta.cell (Td.fr 3 (List.length l) c fun i => encL l (0 + i)),
  Ta.cell (Td.sc (Value.bool inn)),
  Ta.cell (Td.sc (Value.int IntKind.i64 (IntKind.wrap IntKind.i64 pt))),
  Ta.cell (Td.sc (Value.int IntKind.i64 (IntKind.wrap IntKind.i64 now)))])
  (need
  (true &&
  Nat.ble
  (0 +
  List.length
  (timL (6 : Int)
  (listT Vl
  (Td.fr 3 (List.length l) c fun i => encL l (0 + i)))
  inn (IntKind.wrap IntKind.i64 pt) (IntKind.wrap IntKind.i64 now)))
  (List.length
  (timL (6 : Int)
  (listT Vl
  (Td.fr 3 (List.length l) c fun i => encL l (0 + i)))
  inn (IntKind.wrap IntKind.i64 pt) (IntKind.wrap IntKind.i64 now))))
  (need (true && Nat.ble (0 + List.length l) (List.length l))
  (need
  (ok2 Vl Vl (fun x x_1 x_2 x_3 => true)
  [Ta.cell
  (Td.fr 3
  (List.length
  (timL (6 : Int)
  (listT Vl
  (Td.fr 3 (List.length l) c fun i =>
  encL l (0 + i)))
  inn (IntKind.wrap IntKind.i64 pt)
  (IntKind.wrap IntKind.i64 now)))
  (timC
  (listT Vl
  (Td.fr 3 (List.length l) c fun i =>
  encL l (0 + i)))
  (nilT
  (Td.fr 3 (List.length l) c fun i =>
  encL l (0 + i))))
  fun i =>
  encL
  (timL (6 : Int)
  (listT Vl
  (Td.fr 3 (List.length l) c fun i =>
  encL l (0 + i)))
  inn (IntKind.wrap IntKind.i64 pt)
  (IntKind.wrap IntKind.i64 now))
  (0 + i)),
  Ta.cell
  (Td.fr 3 (List.length l) c fun i => encL l (0 + i))])
  (need
  (sameVs
  (listT Vl
  (Td.fr 3
  (List.length
  (timL (6 : Int)
  (listT Vl
  (Td.fr 3 (List.length l) c fun i =>
  encL l (0 + i)))
  inn (IntKind.wrap IntKind.i64 pt)
  (IntKind.wrap IntKind.i64 now)))
  (timC
  (listT Vl
  (Td.fr 3 (List.length l) c fun i =>
  encL l (0 + i)))
  (nilT
  (Td.fr 3 (List.length l) c fun i =>
  encL l (0 + i))))
  fun i =>
  encL
  (timL (6 : Int)
  (listT Vl
  (Td.fr 3 (List.length l) c fun i =>
  encL l (0 + i)))
  inn (IntKind.wrap IntKind.i64 pt)
  (IntKind.wrap IntKind.i64 now))
  (0 + i)))
  (listT Vl
  (Td.fr 3 (List.length l) c fun i => encL l (0 + i))))
  True))))))))))))))))))))
  (need
  (okStepR
  [Ta.cell (Td.sc (Value.int IntKind.i64 kind)),
  Ta.cell
  (Td.fr 3 4 0
  (selT 3 4
  [Td.sc (Value.int IntKind.i64 (1 : Int)), Td.sc (Value.int IntKind.i64 (0 : Int)),
  Td.sc (Value.float FloatKind.f64 0), Td.sc (Value.int IntKind.i64 (4 : Int)),
  Td.sc (Value.int IntKind.i64 (IntKind.wrap IntKind.i64 et)),
  Td.sc (Value.float FloatKind.f64 0), Td.sc (Value.int IntKind.i64 (1 : Int)),
  Td.sc (Value.int IntKind.i64 (0 : Int)), Td.sc (Value.float FloatKind.f64 0),
  Td.sc (Value.int IntKind.i64 (4 : Int)), Td.sc (Value.int IntKind.i64 (IntKind.wrap IntKind.i64 a)),
  Td.sc (Value.float FloatKind.f64 0)])),
  Ta.cell (Td.sc (Value.bool inn)), Ta.cell (Td.sc (Value.int IntKind.i64 (IntKind.wrap IntKind.i64 pt))),
  Ta.cell (Td.sc (Value.int IntKind.i64 (IntKind.wrap IntKind.i64 now)))])
  (need
  (true &&
  Nat.ble
  (0 +
  List.length
  (timL kind
  [Vl.mk (1 : Int)
  (bif true then (0 : Int)
  else
  bif true then IntKind.wrap IntKind.i64 et
  else bif true then (0 : Int) else IntKind.wrap IntKind.i64 a)
  0,
  Vl.mk (4 : Int)
  (bif false then (0 : Int)
  else
  bif true then IntKind.wrap IntKind.i64 et
  else bif true then (0 : Int) else IntKind.wrap IntKind.i64 a)
  0,
  Vl.mk (1 : Int)
  (bif false then (0 : Int)
  else
  bif false then IntKind.wrap IntKind.i64 et
  else bif true then (0 : Int) else IntKind.wrap IntKind.i64 a)
  0,
  Vl.mk (4 : Int)
  (bif false then (0 : Int)
  else
  bif false then IntKind.wrap IntKind.i64 et
  else bif false then (0 : Int) else IntKind.wrap IntKind.i64 a)
  0]
  inn (IntKind.wrap IntKind.i64 pt) (IntKind.wrap IntKind.i64 now)))
  (List.length
  (timL kind
  [Vl.mk (1 : Int)
  (bif true then (0 : Int)
  else
  bif true then IntKind.wrap IntKind.i64 et
  else bif true then (0 : Int) else IntKind.wrap IntKind.i64 a)
  0,
  Vl.mk (4 : Int)
  (bif false then (0 : Int)
  else
  bif true then IntKind.wrap IntKind.i64 et
  else bif true then (0 : Int) else IntKind.wrap IntKind.i64 a)
  0,
  Vl.mk (1 : Int)
  (bif false then (0 : Int)
  else
  bif false then IntKind.wrap IntKind.i64 et
  else bif true then (0 : Int) else IntKind.wrap IntKind.i64 a)
  0,
  Vl.mk (4 : Int)
  (bif false then (0 : Int)
  else
  bif false then IntKind.wrap IntKind.i64 et
  else bif false then (0 : Int) else IntKind.wrap IntKind.i64 a)
  0]
  inn (IntKind.wrap IntKind.i64 pt) (IntKind.wrap IntKind.i64 now))))
  (need
  (true &&
  Nat.ble
  (0 +
  List.length
  (timL kind
  [Vl.mk (1 : Int)
  (bif true then (0 : Int)
  else
  bif true then IntKind.wrap IntKind.i64 et
  else bif true then (0 : Int) else IntKind.wrap IntKind.i64 a)
  0,
  Vl.mk (4 : Int)
  (bif false then (0 : Int)
  else
  bif true then IntKind.wrap IntKind.i64 et
  else bif true then (0 : Int) else IntKind.wrap IntKind.i64 a)
  0,
  Vl.mk (1 : Int)
  (bif false then (0 : Int)
  else
  bif false then IntKind.wrap IntKind.i64 et
  else bif true then (0 : Int) else IntKind.wrap IntKind.i64 a)
  0,
  Vl.mk (4 : Int)
  (bif false then (0 : Int)
  else
  bif false then IntKind.wrap IntKind.i64 et
  else bif false then (0 : Int) else IntKind.wrap IntKind.i64 a)
  0]
  inn (IntKind.wrap IntKind.i64 pt) (IntKind.wrap IntKind.i64 now)))
  (List.length
  (timL kind
  [Vl.mk (1 : Int)
  (bif true then (0 : Int)
  else
  bif true then IntKind.wrap IntKind.i64 et
  else bif true then (0 : Int) else IntKind.wrap IntKind.i64 a)
  0,
  Vl.mk (4 : Int)
  (bif false then (0 : Int)
  else
  bif true then IntKind.wrap IntKind.i64 et
  else bif true then (0 : Int) else IntKind.wrap IntKind.i64 a)
  0,
  Vl.mk (1 : Int)
  (bif false then (0 : Int)
  else
  bif false then IntKind.wrap IntKind.i64 et
  else bif true then (0 : Int) else IntKind.wrap IntKind.i64 a)
  0,
  Vl.mk (4 : Int)
  (bif false then (0 : Int)
  else
  bif false then IntKind.wrap IntKind.i64 et
  else bif false then (0 : Int) else IntKind.wrap IntKind.i64 a)
  0]
  inn (IntKind.wrap IntKind.i64 pt) (IntKind.wrap IntKind.i64 now))))
  (need
  (ok2 Vl Vl (fun x x_1 x_2 x_3 => true)
  [Ta.cell
  (Td.fr 3
  (List.length
  (timL kind
  [Vl.mk (1 : Int)
  (bif true then (0 : Int)
  else
  bif true then IntKind.wrap IntKind.i64 et
  else bif true then (0 : Int) else IntKind.wrap IntKind.i64 a)
  0,
  Vl.mk (4 : Int)
  (bif false then (0 : Int)
  else
  bif true then IntKind.wrap IntKind.i64 et
  else bif true then (0 : Int) else IntKind.wrap IntKind.i64 a)
  0,
  Vl.mk (1 : Int)
  (bif false then (0 : Int)
  else
  bif false then IntKind.wrap IntKind.i64 et
  else bif true then (0 : Int) else IntKind.wrap IntKind.i64 a)
  0,
  Vl.mk (4 : Int)
  (bif false then (0 : Int)
  else
  bif false then IntKind.wrap IntKind.i64 et
  else bif false then (0 : Int) else IntKind.wrap IntKind.i64 a)
  0]
  inn (IntKind.wrap IntKind.i64 pt) (IntKind.wrap IntKind.i64 now)))
  (timC
  [Vl.mk (1 : Int)
  (bif true then (0 : Int)
  else
  bif true then IntKind.wrap IntKind.i64 et
  else bif true then (0 : Int) else IntKind.wrap IntKind.i64 a)
  0,
  Vl.mk (4 : Int)
  (bif false then (0 : Int)
  else
  bif true then IntKind.wrap IntKind.i64 et
  else bif true then (0 : Int) else IntKind.wrap IntKind.i64 a)
  0,
  Vl.mk (1 : Int)
  (bif false then (0 : Int)
  else
  bif false then IntKind.wrap IntKind.i64 et
  else bif true then (0 : Int) else IntKind.wrap IntKind.i64 a)
  0,
  Vl.mk (4 : Int)
  (bif false then (0 : Int)
  else
  bif false then IntKind.wrap IntKind.i64 et
  else bif false then (0 : Int) else IntKind.wrap IntKind.i64 a)
  0]
  (nilT
  (Td.fr 3 4 0
  (selT 3 4
  [Td.sc (Value.int IntKind.i64 (1 : Int)), Td.sc (Value.int IntKind.i64 (0 : Int)),
  Td.sc (Value.float FloatKind.f64 0), Td.sc (Value.int IntKind.i64 (4 : Int)),
  Td.sc (Value.int IntKind.i64 (IntKind.wrap IntKind.i64 et)),
  Td.sc (Value.float FloatKind.f64 0), Td.sc (Value.int IntKind.i64 (1 : Int)),
  Td.sc (Value.int IntKind.i64 (0 : Int)), Td.sc (Value.float FloatKind.f64 0),
  Td.sc (Value.int IntKind.i64 (4 : Int)),
  Td.sc (Value.int IntKind.i64 (IntKind.wrap IntKind.i64 a)),
  Td.sc (Value.float FloatKind.f64 0)]))))
  fun i =>
  encL
  (timL kind
  [Vl.mk (1 : Int)
  (bif true then (0 : Int)
  else
  bif true then IntKind.wrap IntKind.i64 et
  else bif true then (0 : Int) else IntKind.wrap IntKind.i64 a)
  0,
  Vl.mk (4 : Int)
  (bif false then (0 : Int)
  else
  bif true then IntKind.wrap IntKind.i64 et
  else bif true then (0 : Int) else IntKind.wrap IntKind.i64 a)
  0,
  Vl.mk (1 : Int)
  (bif false then (0 : Int)
  else
  bif false then IntKind.wrap IntKind.i64 et
  else bif true then (0 : Int) else IntKind.wrap IntKind.i64 a)
  0,
  Vl.mk (4 : Int)
  (bif false then (0 : Int)
  else
  bif false then IntKind.wrap IntKind.i64 et
  else bif false then (0 : Int) else IntKind.wrap IntKind.i64 a)
  0]
  inn (IntKind.wrap IntKind.i64 pt) (IntKind.wrap IntKind.i64 now))
  (0 + i)),
  Ta.cell
  (Td.fr 3
  (List.length
  (timL kind
  [Vl.mk (1 : Int)
  (bif true then (0 : Int)
  else
  bif true then IntKind.wrap IntKind.i64 et
  else bif true then (0 : Int) else IntKind.wrap IntKind.i64 a)
  0,
  Vl.mk (4 : Int)
  (bif false then (0 : Int)
  else
  bif true then IntKind.wrap IntKind.i64 et
  else bif true then (0 : Int) else IntKind.wrap IntKind.i64 a)
  0,
  Vl.mk (1 : Int)
  (bif false then (0 : Int)
  else
  bif false then IntKind.wrap IntKind.i64 et
  else bif true then (0 : Int) else IntKind.wrap IntKind.i64 a)
  0,
  Vl.mk (4 : Int)
  (bif false then (0 : Int)
  else
  bif false then IntKind.wrap IntKind.i64 et
  else bif false then (0 : Int) else IntKind.wrap IntKind.i64 a)
  0]
  inn (IntKind.wrap IntKind.i64 pt) (IntKind.wrap IntKind.i64 now)))
  (timC
  [Vl.mk (1 : Int)
  (bif true then (0 : Int)
  else
  bif true then IntKind.wrap IntKind.i64 et
  else bif true then (0 : Int) else IntKind.wrap IntKind.i64 a)
  0,
  Vl.mk (4 : Int)
  (bif false then (0 : Int)
  else
  bif true then IntKind.wrap IntKind.i64 et
  else bif true then (0 : Int) else IntKind.wrap IntKind.i64 a)
  0,
  Vl.mk (1 : Int)
  (bif false then (0 : Int)
  else
  bif false then IntKind.wrap IntKind.i64 et
  else bif true then (0 : Int) else IntKind.wrap IntKind.i64 a)
  0,
  Vl.mk (4 : Int)
  (bif false then (0 : Int)
  else
  bif false then IntKind.wrap IntKind.i64 et
  else bif false then (0 : Int) else IntKind.wrap IntKind.i64 a)
  0]
  (nilT
  (Td.fr 3 4 0
  (selT 3 4
  [Td.sc (Value.int IntKind.i64 (1 : Int)), Td.sc (Value.int IntKind.i64 (0 : Int)),
  Td.sc (Value.float FloatKind.f64 0), Td.sc (Value.int IntKind.i64 (4 : Int)),
  Td.sc (Value.int IntKind.i64 (IntKind.wrap IntKind.i64 et)),
  Td.sc (Value.float FloatKind.f64 0), Td.sc (Value.int IntKind.i64 (1 : Int)),
  Td.sc (Value.int IntKind.i64 (0 : Int)), Td.sc (Value.float FloatKind.f64 0),
  Td.sc (Value.int IntKind.i64 (4 : Int)),
  Td.sc (Value.int IntKind.i64 (IntKind.wrap IntKind.i64 a)),
  Td.sc (Value.float FloatKind.f64 0)]))))
  fun i =>
  encL
  (timL kind
  [Vl.mk (1 : Int)
  (bif true then (0 : Int)
  else
  bif true then IntKind.wrap IntKind.i64 et
  else bif true then (0 : Int) else IntKind.wrap IntKind.i64 a)
  0,
  Vl.mk (4 : Int)
  (bif false then (0 : Int)
  else
  bif true then IntKind.wrap IntKind.i64 et
  else bif true then (0 : Int) else IntKind.wrap IntKind.i64 a)
  0,
  Vl.mk (1 : Int)
  (bif false then (0 : Int)
  else
  bif false then IntKind.wrap IntKind.i64 et
  else bif true then (0 : Int) else IntKind.wrap IntKind.i64 a)
  0,
  Vl.mk (4 : Int)
  (bif false then (0 : Int)
  else
  bif false then IntKind.wrap IntKind.i64 et
  else bif false then (0 : Int) else IntKind.wrap IntKind.i64 a)
  0]
  inn (IntKind.wrap IntKind.i64 pt) (IntKind.wrap IntKind.i64 now))
  (0 + i))])
  (br
  (!sameVs
  (listT Vl
  (Td.fr 3
  (List.length
  (timL kind
  [Vl.mk (1 : Int)
  (bif true then (0 : Int)
  else
  bif true then IntKind.wrap IntKind.i64 et
  else bif true then (0 : Int) else IntKind.wrap IntKind.i64 a)
  0,
  Vl.mk (4 : Int)
  (bif false then (0 : Int)
  else
  bif true then IntKind.wrap IntKind.i64 et
  else bif true then (0 : Int) else IntKind.wrap IntKind.i64 a)
  0,
  Vl.mk (1 : Int)
  (bif false then (0 : Int)
  else
  bif false then IntKind.wrap IntKind.i64 et
  else bif true then (0 : Int) else IntKind.wrap IntKind.i64 a)
  0,
  Vl.mk (4 : Int)
  (bif false then (0 : Int)
  else
  bif false then IntKind.wrap IntKind.i64 et
  else bif false then (0 : Int) else IntKind.wrap IntKind.i64 a)
  0]
  inn (IntKind.wrap IntKind.i64 pt) (IntKind.wrap IntKind.i64 now)))
  (timC
  [Vl.mk (1 : Int)
  (bif true then (0 : Int)
  else
  bif true then IntKind.wrap IntKind.i64 et
  else bif true then (0 : Int) else IntKind.wrap IntKind.i64 a)
  0,
  Vl.mk (4 : Int)
  (bif false then (0 : Int)
  else
  bif true then IntKind.wrap IntKind.i64 et
  else bif true then (0 : Int) else IntKind.wrap IntKind.i64 a)
  0,
  Vl.mk (1 : Int)
  (bif false then (0 : Int)
  else
  bif false then IntKind.wrap IntKind.i64 et
  else bif true then (0 : Int) else IntKind.wrap IntKind.i64 a)
  0,
  Vl.mk (4 : Int)
  (bif false then (0 : Int)
  else
  bif false then IntKind.wrap IntKind.i64 et
  else bif false then (0 : Int) else IntKind.wrap IntKind.i64 a)
  0]
  (nilT
  (Td.fr 3 4 0
  (selT 3 4
  [Td.sc (Value.int IntKind.i64 (1 : Int)), Td.sc (Value.int IntKind.i64 (0 : Int)),
  Td.sc (Value.float FloatKind.f64 0), Td.sc (Value.int IntKind.i64 (4 : Int)),
  Td.sc (Value.int IntKind.i64 (IntKind.wrap IntKind.i64 et)),
  Td.sc (Value.float FloatKind.f64 0), Td.sc (Value.int IntKind.i64 (1 : Int)),
  Td.sc (Value.int IntKind.i64 (0 : Int)), Td.sc (Value.float FloatKind.f64 0),
  Td.sc (Value.int IntKind.i64 (4 : Int)),
  Td.sc (Value.int IntKind.i64 (IntKind.wrap IntKind.i64 a)),
  Td.sc (Value.float FloatKind.f64 0)]))))
  fun i =>
  encL
  (timL kind
  [Vl.mk (1 : Int)
  (bif true then (0 : Int)
  else
  bif true then IntKind.wrap IntKind.i64 et
  else bif true then (0 : Int) else IntKind.wrap IntKind.i64 a)
  0,
  Vl.mk (4 : Int)
  (bif false then (0 : Int)
  else
  bif true then IntKind.wrap IntKind.i64 et
  else bif true then (0 : Int) else IntKind.wrap IntKind.i64 a)
  0,
  Vl.mk (1 : Int)
  (bif false then (0 : Int)
  else
  bif false then IntKind.wrap IntKind.i64 et
  else bif true then (0 : Int) else IntKind.wrap IntKind.i64 a)
  0,
  Vl.mk (4 : Int)
  (bif false then (0 : Int)
  else
  bif false then IntKind.wrap IntKind.i64 et
  else bif false then (0 : Int) else IntKind.wrap IntKind.i64 a)
  0]
  inn (IntKind.wrap IntKind.i64 pt) (IntKind.wrap IntKind.i64 now))
  (0 + i)))
  (listT Vl
  (Td.fr 3
  (List.length
  (timL kind
  [Vl.mk (1 : Int)
  (bif true then (0 : Int)
  else
  bif true then IntKind.wrap IntKind.i64 et
  else bif true then (0 : Int) else IntKind.wrap IntKind.i64 a)
  0,
  Vl.mk (4 : Int)
  (bif false then (0 : Int)
  else
  bif true then IntKind.wrap IntKind.i64 et
  else bif true then (0 : Int) else IntKind.wrap IntKind.i64 a)
  0,
  Vl.mk (1 : Int)
  (bif false then (0 : Int)
  else
  bif false then IntKind.wrap IntKind.i64 et
  else bif true then (0 : Int) else IntKind.wrap IntKind.i64 a)
  0,
  Vl.mk (4 : Int)
  (bif false then (0 : Int)
  else
  bif false then IntKind.wrap IntKind.i64 et
  else bif false then (0 : Int) else IntKind.wrap IntKind.i64 a)
  0]
  inn (IntKind.wrap IntKind.i64 pt) (IntKind.wrap IntKind.i64 now)))
  (timC
  [Vl.mk (1 : Int)
  (bif true then (0 : Int)
  else
  bif true then IntKind.wrap IntKind.i64 et
  else bif true then (0 : Int) else IntKind.wrap IntKind.i64 a)
  0,
  Vl.mk (4 : Int)
  (bif false then (0 : Int)
  else
  bif true then IntKind.wrap IntKind.i64 et
  else bif true then (0 : Int) else IntKind.wrap IntKind.i64 a)
  0,
  Vl.mk (1 : Int)
  (bif false then (0 : Int)
  else
  bif false then IntKind.wrap IntKind.i64 et
  else bif true then (0 : Int) else IntKind.wrap IntKind.i64 a)
  0,
  Vl.mk (4 : Int)
  (bif false then (0 : Int)
  else
  bif false then IntKind.wrap IntKind.i64 et
  else bif false then (0 : Int) else IntKind.wrap IntKind.i64 a)
  0]
  (nilT
  (Td.fr 3 4 0
  (selT 3 4
  [Td.sc (Value.int IntKind.i64 (1 : Int)), Td.sc (Value.int IntKind.i64 (0 : Int)),
  Td.sc (Value.float FloatKind.f64 0), Td.sc (Value.int IntKind.i64 (4 : Int)),
  Td.sc (Value.int IntKind.i64 (IntKind.wrap IntKind.i64 et)),
  Td.sc (Value.float FloatKind.f64 0), Td.sc (Value.int IntKind.i64 (1 : Int)),
  Td.sc (Value.int IntKind.i64 (0 : Int)), Td.sc (Value.float FloatKind.f64 0),
  Td.sc (Value.int IntKind.i64 (4 : Int)),
  Td.sc (Value.int IntKind.i64 (IntKind.wrap IntKind.i64 a)),
  Td.sc (Value.float FloatKind.f64 0)]))))
  fun i =>
  encL
  (timL kind
  [Vl.mk (1 : Int)
  (bif true then (0 : Int)
  else
  bif true then IntKind.wrap IntKind.i64 et
  else bif true then (0 : Int) else IntKind.wrap IntKind.i64 a)
  0,
  Vl.mk (4 : Int)
  (bif false then (0 : Int)
  else
  bif true then IntKind.wrap IntKind.i64 et
  else bif true then (0 : Int) else IntKind.wrap IntKind.i64 a)
  0,
  Vl.mk (1 : Int)
  (bif false then (0 : Int)
  else
  bif false then IntKind.wrap IntKind.i64 et
  else bif true then (0 : Int) else IntKind.wrap IntKind.i64 a)
  0,
  Vl.mk (4 : Int)
  (bif false then (0 : Int)
  else
  bif false then IntKind.wrap IntKind.i64 et
  else bif false then (0 : Int) else IntKind.wrap IntKind.i64 a)
  0]
  inn (IntKind.wrap IntKind.i64 pt) (IntKind.wrap IntKind.i64 now))
  (0 + i))))
  False
  (need
  (okStepR
  [Ta.cell (Td.sc (Value.int IntKind.i64 (6 : Int))),
  Ta.cell
  (Td.fr 3 4 0
  (selT 3 4
  [Td.sc (Value.int IntKind.i64 (1 : Int)), Td.sc (Value.int IntKind.i64 (0 : Int)),
  Td.sc (Value.float FloatKind.f64 0), Td.sc (Value.int IntKind.i64 (4 : Int)),
  Td.sc (Value.int IntKind.i64 (IntKind.wrap IntKind.i64 et)),
  Td.sc (Value.float FloatKind.f64 0), Td.sc (Value.int IntKind.i64 (1 : Int)),
  Td.sc (Value.int IntKind.i64 (0 : Int)), Td.sc (Value.float FloatKind.f64 0),
  Td.sc (Value.int IntKind.i64 (4 : Int)),
  Td.sc (Value.int IntKind.i64 (IntKind.wrap IntKind.i64 a)),
  Td.sc (Value.float FloatKind.f64 0)])),
  Ta.cell (Td.sc (Value.bool inn)),
  Ta.cell (Td.sc (Value.int IntKind.i64 (IntKind.wrap IntKind.i64 pt))),
  Ta.cell (Td.sc (Value.int IntKind.i64 (IntKind.wrap IntKind.i64 now)))])
  (br
  (!sameVs
  [Vl.mk (1 : Int)
  (one
  (bif inn then
  goesN (IntKind.wrap IntKind.i64 now)
  (atM
  (bif false then (0 : Int)
  else
  bif false then IntKind.wrap IntKind.i64 et
  else bif true then (0 : Int) else IntKind.wrap IntKind.i64 a)
  (bif false then (0 : Int)
  else
  bif false then IntKind.wrap IntKind.i64 et
  else bif false then (0 : Int) else IntKind.wrap IntKind.i64 a)
  (IntKind.wrap IntKind.i64 now))
  (ptM (IntKind.wrap IntKind.i64 pt)) ==
  ptM (IntKind.wrap IntKind.i64 pt)
  else false))
  0,
  Vl.mk (4 : Int)
  (bif inn then
  goesN (IntKind.wrap IntKind.i64 now)
  (atM
  (bif false then (0 : Int)
  else
  bif false then IntKind.wrap IntKind.i64 et
  else bif true then (0 : Int) else IntKind.wrap IntKind.i64 a)
  (bif false then (0 : Int)
  else
  bif false then IntKind.wrap IntKind.i64 et
  else bif false then (0 : Int) else IntKind.wrap IntKind.i64 a)
  (IntKind.wrap IntKind.i64 now))
  (ptM (IntKind.wrap IntKind.i64 pt))
  else (0 : Int))
  0,
  Vl.mk (1 : Int) (one inn) 0,
  Vl.mk (4 : Int)
  (bif inn then
  atM
  (bif false then (0 : Int)
  else
  bif false then IntKind.wrap IntKind.i64 et
  else bif true then (0 : Int) else IntKind.wrap IntKind.i64 a)
  (bif false then (0 : Int)
  else
  bif false then IntKind.wrap IntKind.i64 et
  else bif false then (0 : Int) else IntKind.wrap IntKind.i64 a)
  (IntKind.wrap IntKind.i64 now)
  else (0 : Int))
  0]
  [Vl.mk (1 : Int)
  (one
  (bif inn then
  goesN (IntKind.wrap IntKind.i64 now)
  (atM
  (bif false then (0 : Int)
  else
  bif false then IntKind.wrap IntKind.i64 et
  else bif true then (0 : Int) else IntKind.wrap IntKind.i64 a)
  (bif false then (0 : Int)
  else
  bif false then IntKind.wrap IntKind.i64 et
  else bif false then (0 : Int) else IntKind.wrap IntKind.i64 a)
  (IntKind.wrap IntKind.i64 now))
  (ptM (IntKind.wrap IntKind.i64 pt)) ==
  ptM (IntKind.wrap IntKind.i64 pt)
  else false))
  0,
  Vl.mk (4 : Int)
  (bif inn then
  goesN (IntKind.wrap IntKind.i64 now)
  (atM
  (bif false then (0 : Int)
  else
  bif false then IntKind.wrap IntKind.i64 et
  else bif true then (0 : Int) else IntKind.wrap IntKind.i64 a)
  (bif false then (0 : Int)
  else
  bif false then IntKind.wrap IntKind.i64 et
  else bif false then (0 : Int) else IntKind.wrap IntKind.i64 a)
  (IntKind.wrap IntKind.i64 now))
  (ptM (IntKind.wrap IntKind.i64 pt))
  else (0 : Int))
  0,
  Vl.mk (1 : Int) (one inn) 0,
  Vl.mk (4 : Int)
  (bif inn then
  atM
  (bif false then (0 : Int)
  else
  bif false then IntKind.wrap IntKind.i64 et
  else bif true then (0 : Int) else IntKind.wrap IntKind.i64 a)
  (bif false then (0 : Int)
  else
  bif false then IntKind.wrap IntKind.i64 et
  else bif false then (0 : Int) else IntKind.wrap IntKind.i64 a)
  (IntKind.wrap IntKind.i64 now)
  else (0 : Int))
  0])
  False
  (need
  (okStepR
  [Ta.cell (Td.sc (Value.int IntKind.i64 (7 : Int))),
  Ta.cell
  (Td.fr 3 4 0
  (selT 3 4
  [Td.sc (Value.int IntKind.i64 (1 : Int)), Td.sc (Value.int IntKind.i64 (0 : Int)),
  Td.sc (Value.float FloatKind.f64 0), Td.sc (Value.int IntKind.i64 (4 : Int)),
  Td.sc (Value.int IntKind.i64 (IntKind.wrap IntKind.i64 et)),
  Td.sc (Value.float FloatKind.f64 0), Td.sc (Value.int IntKind.i64 (1 : Int)),
  Td.sc (Value.int IntKind.i64 (0 : Int)), Td.sc (Value.float FloatKind.f64 0),
  Td.sc (Value.int IntKind.i64 (4 : Int)),
  Td.sc (Value.int IntKind.i64 (IntKind.wrap IntKind.i64 a)),
  Td.sc (Value.float FloatKind.f64 0)])),
  Ta.cell (Td.sc (Value.bool inn)),
  Ta.cell (Td.sc (Value.int IntKind.i64 (IntKind.wrap IntKind.i64 pt))),
  Ta.cell (Td.sc (Value.int IntKind.i64 (IntKind.wrap IntKind.i64 now)))])
  (br
  (!sameVs
  [Vl.mk (1 : Int)
  (one
  (bif inn then true
  else
  bif
  (bif true then (0 : Int)
  else
  bif true then IntKind.wrap IntKind.i64 et
  else bif true then (0 : Int) else IntKind.wrap IntKind.i64 a) !=
  (0 : Int) then
  !goesN (IntKind.wrap IntKind.i64 now)
  (atM
  (bif false then (0 : Int)
  else
  bif false then IntKind.wrap IntKind.i64 et
  else bif true then (0 : Int) else IntKind.wrap IntKind.i64 a)
  (bif false then (0 : Int)
  else
  bif false then IntKind.wrap IntKind.i64 et
  else bif false then (0 : Int) else IntKind.wrap IntKind.i64 a)
  (IntKind.wrap IntKind.i64 now))
  (ptM (IntKind.wrap IntKind.i64 pt)) ==
  ptM (IntKind.wrap IntKind.i64 pt)
  else false))
  0,
  Vl.mk (4 : Int)
  (bif inn then (0 : Int)
  else
  bif
  (bif true then (0 : Int)
  else
  bif true then IntKind.wrap IntKind.i64 et
  else bif true then (0 : Int) else IntKind.wrap IntKind.i64 a) !=
  (0 : Int) then
  goesN (IntKind.wrap IntKind.i64 now)
  (atM
  (bif false then (0 : Int)
  else
  bif false then IntKind.wrap IntKind.i64 et
  else bif true then (0 : Int) else IntKind.wrap IntKind.i64 a)
  (bif false then (0 : Int)
  else
  bif false then IntKind.wrap IntKind.i64 et
  else bif false then (0 : Int) else IntKind.wrap IntKind.i64 a)
  (IntKind.wrap IntKind.i64 now))
  (ptM (IntKind.wrap IntKind.i64 pt))
  else
  bif false then (0 : Int)
  else
  bif true then IntKind.wrap IntKind.i64 et
  else bif true then (0 : Int) else IntKind.wrap IntKind.i64 a)
  0,
  Vl.mk (1 : Int)
  (one
  (bif inn then false
  else
  bif
  (bif true then (0 : Int)
  else
  bif true then IntKind.wrap IntKind.i64 et
  else bif true then (0 : Int) else IntKind.wrap IntKind.i64 a) !=
  (0 : Int) then
  true
  else
  (bif false then (0 : Int)
  else
  bif false then IntKind.wrap IntKind.i64 et
  else bif true then (0 : Int) else IntKind.wrap IntKind.i64 a) !=
  (0 : Int)))
  0,
  Vl.mk (4 : Int)
  (bif inn then (0 : Int)
  else
  bif
  (bif true then (0 : Int)
  else
  bif true then IntKind.wrap IntKind.i64 et
  else bif true then (0 : Int) else IntKind.wrap IntKind.i64 a) !=
  (0 : Int) then
  atM
  (bif false then (0 : Int)
  else
  bif false then IntKind.wrap IntKind.i64 et
  else bif true then (0 : Int) else IntKind.wrap IntKind.i64 a)
  (bif false then (0 : Int)
  else
  bif false then IntKind.wrap IntKind.i64 et
  else bif false then (0 : Int) else IntKind.wrap IntKind.i64 a)
  (IntKind.wrap IntKind.i64 now)
  else
  bif false then (0 : Int)
  else
  bif false then IntKind.wrap IntKind.i64 et
  else bif false then (0 : Int) else IntKind.wrap IntKind.i64 a)
  0]
  [Vl.mk (1 : Int)
  (one
  (bif inn then true
  else
  bif
  (bif true then (0 : Int)
  else
  bif true then IntKind.wrap IntKind.i64 et
  else bif true then (0 : Int) else IntKind.wrap IntKind.i64 a) !=
  (0 : Int) then
  !goesN (IntKind.wrap IntKind.i64 now)
  (atM
  (bif false then (0 : Int)
  else
  bif false then IntKind.wrap IntKind.i64 et
  else bif true then (0 : Int) else IntKind.wrap IntKind.i64 a)
  (bif false then (0 : Int)
  else
  bif false then IntKind.wrap IntKind.i64 et
  else bif false then (0 : Int) else IntKind.wrap IntKind.i64 a)
  (IntKind.wrap IntKind.i64 now))
  (ptM (IntKind.wrap IntKind.i64 pt)) ==
  ptM (IntKind.wrap IntKind.i64 pt)
  else false))
  0,
  Vl.mk (4 : Int)
  (bif inn then (0 : Int)
  else
  bif
  (bif true then (0 : Int)
  else
  bif true then IntKind.wrap IntKind.i64 et
  else bif true then (0 : Int) else IntKind.wrap IntKind.i64 a) !=
  (0 : Int) then
  goesN (IntKind.wrap IntKind.i64 now)
  (atM
  (bif false then (0 : Int)
  else
  bif false then IntKind.wrap IntKind.i64 et
  else bif true then (0 : Int) else IntKind.wrap IntKind.i64 a)
  (bif false then (0 : Int)
  else
  bif false then IntKind.wrap IntKind.i64 et
  else bif false then (0 : Int) else IntKind.wrap IntKind.i64 a)
  (IntKind.wrap IntKind.i64 now))
  (ptM (IntKind.wrap IntKind.i64 pt))
  else
  bif false then (0 : Int)
  else
  bif true then IntKind.wrap IntKind.i64 et
  else bif true then (0 : Int) else IntKind.wrap IntKind.i64 a)
  0,
  Vl.mk (1 : Int)
  (one
  (bif inn then false
  else
  bif
  (bif true then (0 : Int)
  else
  bif true then IntKind.wrap IntKind.i64 et
  else bif true then (0 : Int) else IntKind.wrap IntKind.i64 a) !=
  (0 : Int) then
  true
  else
  (bif false then (0 : Int)
  else
  bif false then IntKind.wrap IntKind.i64 et
  else bif true then (0 : Int) else IntKind.wrap IntKind.i64 a) !=
  (0 : Int)))
  0,
  Vl.mk (4 : Int)
  (bif inn then (0 : Int)
  else
  bif
  (bif true then (0 : Int)
  else
  bif true then IntKind.wrap IntKind.i64 et
  else bif true then (0 : Int) else IntKind.wrap IntKind.i64 a) !=
  (0 : Int) then
  atM
  (bif false then (0 : Int)
  else
  bif false then IntKind.wrap IntKind.i64 et
  else bif true then (0 : Int) else IntKind.wrap IntKind.i64 a)
  (bif false then (0 : Int)
  else
  bif false then IntKind.wrap IntKind.i64 et
  else bif false then (0 : Int) else IntKind.wrap IntKind.i64 a)
  (IntKind.wrap IntKind.i64 now)
  else
  bif false then (0 : Int)
  else
  bif false then IntKind.wrap IntKind.i64 et
  else bif false then (0 : Int) else IntKind.wrap IntKind.i64 a)
  0])
  False
  (need
  (okStepR
  [Ta.cell (Td.sc (Value.int IntKind.i64 (8 : Int))),
  Ta.cell
  (Td.fr 3 4 0
  (selT 3 4
  [Td.sc (Value.int IntKind.i64 (1 : Int)), Td.sc (Value.int IntKind.i64 (0 : Int)),
  Td.sc (Value.float FloatKind.f64 0),
  Td.sc (Value.int IntKind.i64 (4 : Int)),
  Td.sc (Value.int IntKind.i64 (IntKind.wrap IntKind.i64 et)),
  Td.sc (Value.float FloatKind.f64 0),
  Td.sc (Value.int IntKind.i64 (1 : Int)), Td.sc (Value.int IntKind.i64 (0 : Int)),
  Td.sc (Value.float FloatKind.f64 0),
  Td.sc (Value.int IntKind.i64 (4 : Int)),
  Td.sc (Value.int IntKind.i64 (IntKind.wrap IntKind.i64 a)),
  Td.sc (Value.float FloatKind.f64 0)])),
  Ta.cell (Td.sc (Value.bool inn)),
  Ta.cell (Td.sc (Value.int IntKind.i64 (IntKind.wrap IntKind.i64 pt))),
  Ta.cell (Td.sc (Value.int IntKind.i64 (IntKind.wrap IntKind.i64 now)))])
  (br
  (!sameVs
  [Vl.mk (1 : Int)
  (one
  (bif
  tpB
  ((bif false then (0 : Int)
  else
  bif false then IntKind.wrap IntKind.i64 et
  else bif true then (0 : Int) else IntKind.wrap IntKind.i64 a) !=
  (0 : Int))
  inn
  (bif false then (0 : Int)
  else
  bif false then IntKind.wrap IntKind.i64 et
  else bif false then (0 : Int) else IntKind.wrap IntKind.i64 a)
  (ptM (IntKind.wrap IntKind.i64 pt)) (IntKind.wrap IntKind.i64 now) then
  !goesN (IntKind.wrap IntKind.i64 now)
  (atM
  (bif false then (0 : Int)
  else
  bif false then IntKind.wrap IntKind.i64 et
  else bif true then (0 : Int) else IntKind.wrap IntKind.i64 a)
  (bif false then (0 : Int)
  else
  bif false then IntKind.wrap IntKind.i64 et
  else bif false then (0 : Int) else IntKind.wrap IntKind.i64 a)
  (IntKind.wrap IntKind.i64 now))
  (ptM (IntKind.wrap IntKind.i64 pt)) ==
  ptM (IntKind.wrap IntKind.i64 pt)
  else false))
  0,
  Vl.mk (4 : Int)
  (bif
  tpB
  ((bif false then (0 : Int)
  else
  bif false then IntKind.wrap IntKind.i64 et
  else bif true then (0 : Int) else IntKind.wrap IntKind.i64 a) !=
  (0 : Int))
  inn
  (bif false then (0 : Int)
  else
  bif false then IntKind.wrap IntKind.i64 et
  else bif false then (0 : Int) else IntKind.wrap IntKind.i64 a)
  (ptM (IntKind.wrap IntKind.i64 pt)) (IntKind.wrap IntKind.i64 now) then
  goesN (IntKind.wrap IntKind.i64 now)
  (atM
  (bif false then (0 : Int)
  else
  bif false then IntKind.wrap IntKind.i64 et
  else bif true then (0 : Int) else IntKind.wrap IntKind.i64 a)
  (bif false then (0 : Int)
  else
  bif false then IntKind.wrap IntKind.i64 et
  else bif false then (0 : Int) else IntKind.wrap IntKind.i64 a)
  (IntKind.wrap IntKind.i64 now))
  (ptM (IntKind.wrap IntKind.i64 pt))
  else (0 : Int))
  0,
  Vl.mk (1 : Int)
  (one
  (tpB
  ((bif false then (0 : Int)
  else
  bif false then IntKind.wrap IntKind.i64 et
  else bif true then (0 : Int) else IntKind.wrap IntKind.i64 a) !=
  (0 : Int))
  inn
  (bif false then (0 : Int)
  else
  bif false then IntKind.wrap IntKind.i64 et
  else bif false then (0 : Int) else IntKind.wrap IntKind.i64 a)
  (ptM (IntKind.wrap IntKind.i64 pt)) (IntKind.wrap IntKind.i64 now)))
  0,
  Vl.mk (4 : Int)
  (bif
  tpB
  ((bif false then (0 : Int)
  else
  bif false then IntKind.wrap IntKind.i64 et
  else bif true then (0 : Int) else IntKind.wrap IntKind.i64 a) !=
  (0 : Int))
  inn
  (bif false then (0 : Int)
  else
  bif false then IntKind.wrap IntKind.i64 et
  else bif false then (0 : Int) else IntKind.wrap IntKind.i64 a)
  (ptM (IntKind.wrap IntKind.i64 pt)) (IntKind.wrap IntKind.i64 now) then
  atM
  (bif false then (0 : Int)
  else
  bif false then IntKind.wrap IntKind.i64 et
  else bif true then (0 : Int) else IntKind.wrap IntKind.i64 a)
  (bif false then (0 : Int)
  else
  bif false then IntKind.wrap IntKind.i64 et
  else bif false then (0 : Int) else IntKind.wrap IntKind.i64 a)
  (IntKind.wrap IntKind.i64 now)
  else (0 : Int))
  0]
  [Vl.mk (1 : Int)
  (one
  (bif
  tpB
  ((bif false then (0 : Int)
  else
  bif false then IntKind.wrap IntKind.i64 et
  else bif true then (0 : Int) else IntKind.wrap IntKind.i64 a) !=
  (0 : Int))
  inn
  (bif false then (0 : Int)
  else
  bif false then IntKind.wrap IntKind.i64 et
  else bif false then (0 : Int) else IntKind.wrap IntKind.i64 a)
  (ptM (IntKind.wrap IntKind.i64 pt)) (IntKind.wrap IntKind.i64 now) then
  !goesN (IntKind.wrap IntKind.i64 now)
  (atM
  (bif false then (0 : Int)
  else
  bif false then IntKind.wrap IntKind.i64 et
  else bif true then (0 : Int) else IntKind.wrap IntKind.i64 a)
  (bif false then (0 : Int)
  else
  bif false then IntKind.wrap IntKind.i64 et
  else bif false then (0 : Int) else IntKind.wrap IntKind.i64 a)
  (IntKind.wrap IntKind.i64 now))
  (ptM (IntKind.wrap IntKind.i64 pt)) ==
  ptM (IntKind.wrap IntKind.i64 pt)
  else false))
  0,
  Vl.mk (4 : Int)
  (bif
  tpB
  ((bif false then (0 : Int)
  else
  bif false then IntKind.wrap IntKind.i64 et
  else bif true then (0 : Int) else IntKind.wrap IntKind.i64 a) !=
  (0 : Int))
  inn
  (bif false then (0 : Int)
  else
  bif false then IntKind.wrap IntKind.i64 et
  else bif false then (0 : Int) else IntKind.wrap IntKind.i64 a)
  (ptM (IntKind.wrap IntKind.i64 pt)) (IntKind.wrap IntKind.i64 now) then
  goesN (IntKind.wrap IntKind.i64 now)
  (atM
  (bif false then (0 : Int)
  else
  bif false then IntKind.wrap IntKind.i64 et
  else bif true then (0 : Int) else IntKind.wrap IntKind.i64 a)
  (bif false then (0 : Int)
  else
  bif false then IntKind.wrap IntKind.i64 et
  else bif false then (0 : Int) else IntKind.wrap IntKind.i64 a)
  (IntKind.wrap IntKind.i64 now))
  (ptM (IntKind.wrap IntKind.i64 pt))
  else (0 : Int))
  0,
  Vl.mk (1 : Int)
  (one
  (tpB
  ((bif false then (0 : Int)
  else
  bif false then IntKind.wrap IntKind.i64 et
  else bif true then (0 : Int) else IntKind.wrap IntKind.i64 a) !=
  (0 : Int))
  inn
  (bif false then (0 : Int)
  else
  bif false then IntKind.wrap IntKind.i64 et
  else bif false then (0 : Int) else IntKind.wrap IntKind.i64 a)
  (ptM (IntKind.wrap IntKind.i64 pt)) (IntKind.wrap IntKind.i64 now)))
  0,
  Vl.mk (4 : Int)
  (bif
  tpB
  ((bif false then (0 : Int)
  else
  bif false then IntKind.wrap IntKind.i64 et
  else bif true then (0 : Int) else IntKind.wrap IntKind.i64 a) !=
  (0 : Int))
  inn
  (bif false then (0 : Int)
  else
  bif false then IntKind.wrap IntKind.i64 et
  else bif false then (0 : Int) else IntKind.wrap IntKind.i64 a)
  (ptM (IntKind.wrap IntKind.i64 pt)) (IntKind.wrap IntKind.i64 now) then
  atM
  (bif false then (0 : Int)
  else
  bif false then IntKind.wrap IntKind.i64 et
  else bif true then (0 : Int) else IntKind.wrap IntKind.i64 a)
  (bif false then (0 : Int)
  else
  bif false then IntKind.wrap IntKind.i64 et
  else bif false then (0 : Int) else IntKind.wrap IntKind.i64 a)
  (IntKind.wrap IntKind.i64 now)
  else (0 : Int))
  0])
  False
  (need
  (okStepR
  [Ta.cell (Td.sc (Value.int IntKind.i64 (9 : Int))),
  Ta.cell
  (Td.fr 3 4 0
  (selT 3 4
  [Td.sc (Value.int IntKind.i64 (1 : Int)),
  Td.sc (Value.int IntKind.i64 (0 : Int)),
  Td.sc (Value.float FloatKind.f64 0),
  Td.sc (Value.int IntKind.i64 (4 : Int)),
  Td.sc (Value.int IntKind.i64 (IntKind.wrap IntKind.i64 et)),
  Td.sc (Value.float FloatKind.f64 0),
  Td.sc (Value.int IntKind.i64 (1 : Int)),
  Td.sc (Value.int IntKind.i64 (0 : Int)),
  Td.sc (Value.float FloatKind.f64 0),
  Td.sc (Value.int IntKind.i64 (4 : Int)),
  Td.sc (Value.int IntKind.i64 (IntKind.wrap IntKind.i64 a)),
  Td.sc (Value.float FloatKind.f64 0)])),
  Ta.cell (Td.sc (Value.bool inn)),
  Ta.cell (Td.sc (Value.int IntKind.i64 (IntKind.wrap IntKind.i64 pt))),
  Ta.cell (Td.sc (Value.int IntKind.i64 (IntKind.wrap IntKind.i64 now)))])
  (br
  (!sameVs
  [Vl.mk (1 : Int)
  (bif true then (0 : Int)
  else
  bif true then IntKind.wrap IntKind.i64 et
  else bif true then (0 : Int) else IntKind.wrap IntKind.i64 a)
  0,
  Vl.mk (4 : Int)
  (bif false then (0 : Int)
  else
  bif true then IntKind.wrap IntKind.i64 et
  else bif true then (0 : Int) else IntKind.wrap IntKind.i64 a)
  0,
  Vl.mk (1 : Int)
  (bif false then (0 : Int)
  else
  bif false then IntKind.wrap IntKind.i64 et
  else bif true then (0 : Int) else IntKind.wrap IntKind.i64 a)
  0,
  Vl.mk (4 : Int)
  (bif false then (0 : Int)
  else
  bif false then IntKind.wrap IntKind.i64 et
  else bif false then (0 : Int) else IntKind.wrap IntKind.i64 a)
  0]
  [Vl.mk (1 : Int)
  (bif true then (0 : Int)
  else
  bif true then IntKind.wrap IntKind.i64 et
  else bif true then (0 : Int) else IntKind.wrap IntKind.i64 a)
  0,
  Vl.mk (4 : Int)
  (bif false then (0 : Int)
  else
  bif true then IntKind.wrap IntKind.i64 et
  else bif true then (0 : Int) else IntKind.wrap IntKind.i64 a)
  0,
  Vl.mk (1 : Int)
  (bif false then (0 : Int)
  else
  bif false then IntKind.wrap IntKind.i64 et
  else bif true then (0 : Int) else IntKind.wrap IntKind.i64 a)
  0,
  Vl.mk (4 : Int)
  (bif false then (0 : Int)
  else
  bif false then IntKind.wrap IntKind.i64 et
  else bif false then (0 : Int) else IntKind.wrap IntKind.i64 a)
  0])
  False
  (br (Int.ofNat (List.length l) == (4 : Int)) True
  (need (true && Nat.ble (0 + List.length l) (List.length l))
  (need
  (okStep (timOk true)
  [Ta.cell (Td.sc (Value.int IntKind.i64 (6 : Int))),
  Ta.cell (Td.fr 3 (List.length l) c fun i => encL l (0 + i)),
  Ta.cell (Td.sc (Value.bool inn)),
  Ta.cell (Td.sc (Value.int IntKind.i64 (IntKind.wrap IntKind.i64 pt))),
  Ta.cell (Td.sc (Value.int IntKind.i64 (IntKind.wrap IntKind.i64 now)))])
  (need
  (true &&
  Nat.ble
  (0 +
  List.length
  (timL (6 : Int)
  (listT Vl
  (Td.fr 3 (List.length l) c fun i => encL l (0 + i)))
  inn (IntKind.wrap IntKind.i64 pt) (IntKind.wrap IntKind.i64 now)))
  (List.length
  (timL (6 : Int)
  (listT Vl
  (Td.fr 3 (List.length l) c fun i => encL l (0 + i)))
  inn (IntKind.wrap IntKind.i64 pt) (IntKind.wrap IntKind.i64 now))))
  (need (true && Nat.ble (0 + List.length l) (List.length l))
  (need
  (ok2 Vl Vl (fun x x_1 x_2 x_3 => true)
  [Ta.cell
  (Td.fr 3
  (List.length
  (timL (6 : Int)
  (listT Vl
  (Td.fr 3 (List.length l) c fun i =>
  encL l (0 + i)))
  inn (IntKind.wrap IntKind.i64 pt)
  (IntKind.wrap IntKind.i64 now)))
  (timC
  (listT Vl
  (Td.fr 3 (List.length l) c fun i =>
  encL l (0 + i)))
  (nilT
  (Td.fr 3 (List.length l) c fun i =>
  encL l (0 + i))))
  fun i =>
  encL
  (timL (6 : Int)
  (listT Vl
  (Td.fr 3 (List.length l) c fun i =>
  encL l (0 + i)))
  inn (IntKind.wrap IntKind.i64 pt)
  (IntKind.wrap IntKind.i64 now))
  (0 + i)),
  Ta.cell
  (Td.fr 3 (List.length l) c fun i => encL l (0 + i))])
  (need
  (sameVs
  (listT Vl
  (Td.fr 3
  (List.length
  (timL (6 : Int)
  (listT Vl
  (Td.fr 3 (List.length l) c fun i =>
  encL l (0 + i)))
  inn (IntKind.wrap IntKind.i64 pt)
  (IntKind.wrap IntKind.i64 now)))
  (timC
  (listT Vl
  (Td.fr 3 (List.length l) c fun i =>
  encL l (0 + i)))
  (nilT
  (Td.fr 3 (List.length l) c fun i =>
  encL l (0 + i))))
  fun i =>
  encL
  (timL (6 : Int)
  (listT Vl
  (Td.fr 3 (List.length l) c fun i =>
  encL l (0 + i)))
  inn (IntKind.wrap IntKind.i64 pt)
  (IntKind.wrap IntKind.i64 now))
  (0 + i)))
  (listT Vl
  (Td.fr 3 (List.length l) c fun i => encL l (0 + i))))
  True))))))))))))))))))))))) := by kernel_rfl
end Go.Proofs.Ytaceobjppcmhjaa.Ev
