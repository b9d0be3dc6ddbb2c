/-
  What has to hold: printed by the evaluator.
-/
import Derived.Test.YtcdbodpmcnebiaaCnR
set_option linter.unusedVariables false
set_option maxRecDepth 1000000
namespace Go.Proofs.Ytcdbodpmcnebiaa.Ev
open Go Go.Proofs
theorem vc_ca (kind cv pv : Int) (q was inn : Bool) (l : List Vl) (c : Nat) (β : Bs) : lawE Try.prog toldG 100 20 β (fun _ => 7) (cnOf 1 fun _ => []) (fun _ _ => False) 7 [.int .i64 kind, .bool q, .int .i16 cv, .bool was, .bool inn, .int .i16 pv, .slice (some ⟨0, 0, some 0⟩) l.length c] (mkS [some (rowO .still l)]) trueE =
(  br (decide (Int.ofNat (List.length l) > (6 : Int))) True
  (br q
  (br was
  (need
  (true &&
  Nat.ble
  (0 +
  List.length
  (cntL kind
  [Vl.mk (1 : Int)
  (bif true then (1 : Int) else bif true then IntKind.wrap IntKind.i64 cv else (1 : Int)) 0,
  Vl.mk (2 : Int)
  (bif false then (1 : Int) else bif true then IntKind.wrap IntKind.i64 cv else (1 : Int))
  0,
  Vl.mk (1 : Int)
  (bif false then (1 : Int) else bif false then IntKind.wrap IntKind.i64 cv else (1 : Int))
  0]
  inn (IntKind.wrap IntKind.i64 pv)))
  (List.length
  (cntL kind
  [Vl.mk (1 : Int) (bif true then (1 : Int) else bif true then IntKind.wrap IntKind.i64 cv else (1 : Int))
  0,
  Vl.mk (2 : Int)
  (bif false then (1 : Int) else bif true then IntKind.wrap IntKind.i64 cv else (1 : Int)) 0,
  Vl.mk (1 : Int)
  (bif false then (1 : Int) else bif false then IntKind.wrap IntKind.i64 cv else (1 : Int)) 0]
  inn (IntKind.wrap IntKind.i64 pv))))
  (need
  (true &&
  Nat.ble
  (0 +
  List.length
  (cntL kind
  [Vl.mk (1 : Int)
  (bif true then (1 : Int) else bif true then IntKind.wrap IntKind.i64 cv else (1 : Int))
  0,
  Vl.mk (2 : Int)
  (bif false then (1 : Int) else bif true then IntKind.wrap IntKind.i64 cv else (1 : Int))
  0,
  Vl.mk (1 : Int)
  (bif false then (1 : Int) else bif false then IntKind.wrap IntKind.i64 cv else (1 : Int))
  0]
  inn (IntKind.wrap IntKind.i64 pv)))
  (List.length
  (cntL kind
  [Vl.mk (1 : Int)
  (bif true then (1 : Int) else bif true then IntKind.wrap IntKind.i64 cv else (1 : Int)) 0,
  Vl.mk (2 : Int)
  (bif false then (1 : Int) else bif true then IntKind.wrap IntKind.i64 cv else (1 : Int))
  0,
  Vl.mk (1 : Int)
  (bif false then (1 : Int) else bif false then IntKind.wrap IntKind.i64 cv else (1 : Int))
  0]
  inn (IntKind.wrap IntKind.i64 pv))))
  (need
  (ok2 Vl Vl (fun x x_1 x_2 x_3 => true)
  [Ta.cell
  (Td.fr 3
  (List.length
  (cntL kind
  [Vl.mk (1 : Int)
  (bif true then (1 : Int) else bif true then IntKind.wrap IntKind.i64 cv else (1 : Int))
  0,
  Vl.mk (2 : Int)
  (bif false then (1 : Int) else bif true then IntKind.wrap IntKind.i64 cv else (1 : Int))
  0,
  Vl.mk (1 : Int)
  (bif false then (1 : Int) else bif false then IntKind.wrap IntKind.i64 cv else (1 : Int))
  0]
  inn (IntKind.wrap IntKind.i64 pv)))
  (cntC
  [Vl.mk (1 : Int)
  (bif true then (1 : Int) else bif true then IntKind.wrap IntKind.i64 cv else (1 : Int))
  0,
  Vl.mk (2 : Int)
  (bif false then (1 : Int) else bif true then IntKind.wrap IntKind.i64 cv else (1 : Int))
  0,
  Vl.mk (1 : Int)
  (bif false then (1 : Int) else bif false then IntKind.wrap IntKind.i64 cv else (1 : Int))
  0]
  (nilT
  (Td.fr 3 3 0
  (selT 3 3
  [Td.sc (Value.int IntKind.i64 (1 : Int)), Td.sc (Value.int IntKind.i64 (1 : Int)),
  Td.sc (Value.float FloatKind.f64 0), Td.sc (Value.int IntKind.i64 (2 : Int)),
  Td.sc (Value.int IntKind.i64 (IntKind.wrap IntKind.i64 cv)),
  Td.sc (Value.float FloatKind.f64 0), Td.sc (Value.int IntKind.i64 (1 : Int)),
  Td.sc (Value.int IntKind.i64 (1 : Int)), Td.sc (Value.float FloatKind.f64 0)]))))
  fun i =>
  encL
  (cntL kind
  [Vl.mk (1 : Int)
  (bif true then (1 : Int) else bif true then IntKind.wrap IntKind.i64 cv else (1 : Int))
  0,
  Vl.mk (2 : Int)
  (bif false then (1 : Int) else bif true then IntKind.wrap IntKind.i64 cv else (1 : Int))
  0,
  Vl.mk (1 : Int)
  (bif false then (1 : Int) else bif false then IntKind.wrap IntKind.i64 cv else (1 : Int))
  0]
  inn (IntKind.wrap IntKind.i64 pv))
  (0 + i)),
  Ta.cell
  (Td.fr 3
  (List.length
  (cntL kind
  [Vl.mk (1 : Int)
  (bif true then (1 : Int) else bif true then IntKind.wrap IntKind.i64 cv else (1 : Int))
  0,
  Vl.mk (2 : Int)
  (bif false then (1 : Int) else bif true then IntKind.wrap IntKind.i64 cv else (1 : Int))
  0,
  Vl.mk (1 : Int)
  (bif false then (1 : Int) else bif false then IntKind.wrap IntKind.i64 cv else (1 : Int))
  0]
  inn (IntKind.wrap IntKind.i64 pv)))
  (cntC
  [Vl.mk (1 : Int)
  (bif true then (1 : Int) else bif true then IntKind.wrap IntKind.i64 cv else (1 : Int))
  0,
  Vl.mk (2 : Int)
  (bif false then (1 : Int) else bif true then IntKind.wrap IntKind.i64 cv else (1 : Int))
  0,
  Vl.mk (1 : Int)
  (bif false then (1 : Int) else bif false then IntKind.wrap IntKind.i64 cv else (1 : Int))
  0]
  (nilT
  (Td.fr 3 3 0
  (selT 3 3
  [Td.sc (Value.int IntKind.i64 (1 : Int)), Td.sc (Value.int IntKind.i64 (1 : Int)),
  Td.sc (Value.float FloatKind.f64 0), Td.sc (Value.int IntKind.i64 (2 : Int)),
  Td.sc (Value.int IntKind.i64 (IntKind.wrap IntKind.i64 cv)),
  Td.sc (Value.float FloatKind.f64 0), Td.sc (Value.int IntKind.i64 (1 : Int)),
  Td.sc (Value.int IntKind.i64 (1 : Int)), Td.sc (Value.float FloatKind.f64 0)]))))
  fun i =>
  encL
  (cntL kind
  [Vl.mk (1 : Int)
  (bif true then (1 : Int) else bif true then IntKind.wrap IntKind.i64 cv else (1 : Int))
  0,
  Vl.mk (2 : Int)
  (bif false then (1 : Int) else bif true then IntKind.wrap IntKind.i64 cv else (1 : Int))
  0,
  Vl.mk (1 : Int)
  (bif false then (1 : Int) else bif false then IntKind.wrap IntKind.i64 cv else (1 : Int))
  0]
  inn (IntKind.wrap IntKind.i64 pv))
  (0 + i))])
  (br
  (!sameVs
  (listT Vl
  (Td.fr 3
  (List.length
  (cntL kind
  [Vl.mk (1 : Int)
  (bif true then (1 : Int) else bif true then IntKind.wrap IntKind.i64 cv else (1 : Int))
  0,
  Vl.mk (2 : Int)
  (bif false then (1 : Int) else bif true then IntKind.wrap IntKind.i64 cv else (1 : Int))
  0,
  Vl.mk (1 : Int)
  (bif false then (1 : Int) else bif false then IntKind.wrap IntKind.i64 cv else (1 : Int))
  0]
  inn (IntKind.wrap IntKind.i64 pv)))
  (cntC
  [Vl.mk (1 : Int)
  (bif true then (1 : Int) else bif true then IntKind.wrap IntKind.i64 cv else (1 : Int))
  0,
  Vl.mk (2 : Int)
  (bif false then (1 : Int) else bif true then IntKind.wrap IntKind.i64 cv else (1 : Int))
  0,
  Vl.mk (1 : Int)
  (bif false then (1 : Int) else bif false then IntKind.wrap IntKind.i64 cv else (1 : Int))
  0]
  (nilT
  (Td.fr 3 3 0
  (selT 3 3
  [Td.sc (Value.int IntKind.i64 (1 : Int)), Td.sc (Value.int IntKind.i64 (1 : Int)),
  Td.sc (Value.float FloatKind.f64 0), Td.sc (Value.int IntKind.i64 (2 : Int)),
  Td.sc (Value.int IntKind.i64 (IntKind.wrap IntKind.i64 cv)),
  Td.sc (Value.float FloatKind.f64 0), Td.sc (Value.int IntKind.i64 (1 : Int)),
  Td.sc (Value.int IntKind.i64 (1 : Int)),
  Td.sc (Value.float FloatKind.f64 0)]))))
  fun i =>
  encL
  (cntL kind
  [Vl.mk (1 : Int)
  (bif true then (1 : Int) else bif true then IntKind.wrap IntKind.i64 cv else (1 : Int))
  0,
  Vl.mk (2 : Int)
  (bif false then (1 : Int) else bif true then IntKind.wrap IntKind.i64 cv else (1 : Int))
  0,
  Vl.mk (1 : Int)
  (bif false then (1 : Int) else bif false then IntKind.wrap IntKind.i64 cv else (1 : Int))
  0]
  inn (IntKind.wrap IntKind.i64 pv))
  (0 + i)))
  (listT Vl
  (Td.fr 3
  (List.length
  (cntL kind
  [Vl.mk (1 : Int)
  (bif true then (1 : Int) else bif true then IntKind.wrap IntKind.i64 cv else (1 : Int))
  0,
  Vl.mk (2 : Int)
  (bif false then (1 : Int) else bif true then IntKind.wrap IntKind.i64 cv else (1 : Int))
  0,
  Vl.mk (1 : Int)
  (bif false then (1 : Int) else bif false then IntKind.wrap IntKind.i64 cv else (1 : Int))
  0]
  inn (IntKind.wrap IntKind.i64 pv)))
  (cntC
  [Vl.mk (1 : Int)
  (bif true then (1 : Int) else bif true then IntKind.wrap IntKind.i64 cv else (1 : Int))
  0,
  Vl.mk (2 : Int)
  (bif false then (1 : Int) else bif true then IntKind.wrap IntKind.i64 cv else (1 : Int))
  0,
  Vl.mk (1 : Int)
  (bif false then (1 : Int) else bif false then IntKind.wrap IntKind.i64 cv else (1 : Int))
  0]
  (nilT
  (Td.fr 3 3 0
  (selT 3 3
  [Td.sc (Value.int IntKind.i64 (1 : Int)), Td.sc (Value.int IntKind.i64 (1 : Int)),
  Td.sc (Value.float FloatKind.f64 0), Td.sc (Value.int IntKind.i64 (2 : Int)),
  Td.sc (Value.int IntKind.i64 (IntKind.wrap IntKind.i64 cv)),
  Td.sc (Value.float FloatKind.f64 0), Td.sc (Value.int IntKind.i64 (1 : Int)),
  Td.sc (Value.int IntKind.i64 (1 : Int)),
  Td.sc (Value.float FloatKind.f64 0)]))))
  fun i =>
  encL
  (cntL kind
  [Vl.mk (1 : Int)
  (bif true then (1 : Int) else bif true then IntKind.wrap IntKind.i64 cv else (1 : Int))
  0,
  Vl.mk (2 : Int)
  (bif false then (1 : Int) else bif true then IntKind.wrap IntKind.i64 cv else (1 : Int))
  0,
  Vl.mk (1 : Int)
  (bif false then (1 : Int) else bif false then IntKind.wrap IntKind.i64 cv else (1 : Int))
  0]
  inn (IntKind.wrap IntKind.i64 pv))
  (0 + i))))
  False
  (need
  (true &&
  Nat.ble
  (0 +
  List.length
  (cntL kind [Vl.mk (1 : Int) (1 : Int) 0, Vl.mk (1 : Int) (1 : Int) 0] inn
  (IntKind.wrap IntKind.i64 pv)))
  (List.length
  (cntL kind [Vl.mk (1 : Int) (1 : Int) 0, Vl.mk (1 : Int) (1 : Int) 0] inn
  (IntKind.wrap IntKind.i64 pv))))
  (need
  (true &&
  Nat.ble
  (0 +
  List.length
  (cntL kind [Vl.mk (1 : Int) (1 : Int) 0, Vl.mk (1 : Int) (1 : Int) 0] inn
  (IntKind.wrap IntKind.i64 pv)))
  (List.length
  (cntL kind [Vl.mk (1 : Int) (1 : Int) 0, Vl.mk (1 : Int) (1 : Int) 0] inn
  (IntKind.wrap IntKind.i64 pv))))
  (need
  (ok2 Vl Vl (fun x x_1 x_2 x_3 => true)
  [Ta.cell
  (Td.fr 3
  (List.length
  (cntL kind [Vl.mk (1 : Int) (1 : Int) 0, Vl.mk (1 : Int) (1 : Int) 0] inn
  (IntKind.wrap IntKind.i64 pv)))
  0 fun i =>
  encL
  (cntL kind [Vl.mk (1 : Int) (1 : Int) 0, Vl.mk (1 : Int) (1 : Int) 0] inn
  (IntKind.wrap IntKind.i64 pv))
  (0 + i)),
  Ta.cell
  (Td.fr 3
  (List.length
  (cntL kind [Vl.mk (1 : Int) (1 : Int) 0, Vl.mk (1 : Int) (1 : Int) 0] inn
  (IntKind.wrap IntKind.i64 pv)))
  0 fun i =>
  encL
  (cntL kind [Vl.mk (1 : Int) (1 : Int) 0, Vl.mk (1 : Int) (1 : Int) 0] inn
  (IntKind.wrap IntKind.i64 pv))
  (0 + i))])
  (br
  (!sameVs
  (listT Vl
  (Td.fr 3
  (List.length
  (cntL kind [Vl.mk (1 : Int) (1 : Int) 0, Vl.mk (1 : Int) (1 : Int) 0]
  inn (IntKind.wrap IntKind.i64 pv)))
  0 fun i =>
  encL
  (cntL kind [Vl.mk (1 : Int) (1 : Int) 0, Vl.mk (1 : Int) (1 : Int) 0]
  inn (IntKind.wrap IntKind.i64 pv))
  (0 + i)))
  (listT Vl
  (Td.fr 3
  (List.length
  (cntL kind [Vl.mk (1 : Int) (1 : Int) 0, Vl.mk (1 : Int) (1 : Int) 0]
  inn (IntKind.wrap IntKind.i64 pv)))
  0 fun i =>
  encL
  (cntL kind [Vl.mk (1 : Int) (1 : Int) 0, Vl.mk (1 : Int) (1 : Int) 0]
  inn (IntKind.wrap IntKind.i64 pv))
  (0 + i))))
  False
  (br
  (!sameVs
  [Vl.mk (1 : Int)
  (one
  (decide
  ((bif
  inn &&
  decide
  ((bif false then (1 : Int)
  else bif false then IntKind.wrap IntKind.i64 cv else (1 : Int)) =
  (0 : Int)) then
  if
  (32767 : Int) <
  IntKind.wrap IntKind.i64
  ((bif false then (1 : Int)
  else bif true then IntKind.wrap IntKind.i64 cv else (1 : Int)) +
  (1 : Int)) then
  (32767 : Int)
  else
  IntKind.wrap IntKind.i64
  ((bif false then (1 : Int)
  else bif true then IntKind.wrap IntKind.i64 cv else (1 : Int)) +
  (1 : Int))
  else
  bif false then (1 : Int)
  else bif true then IntKind.wrap IntKind.i64 cv else (1 : Int)) ≥
  IntKind.wrap IntKind.i64 pv)))
  0,
  Vl.mk (2 : Int)
  (bif
  inn &&
  decide
  ((bif false then (1 : Int)
  else bif false then IntKind.wrap IntKind.i64 cv else (1 : Int)) =
  (0 : Int)) then
  if
  (32767 : Int) <
  IntKind.wrap IntKind.i64
  ((bif false then (1 : Int)
  else bif true then IntKind.wrap IntKind.i64 cv else (1 : Int)) +
  (1 : Int)) then
  (32767 : Int)
  else
  IntKind.wrap IntKind.i64
  ((bif false then (1 : Int)
  else bif true then IntKind.wrap IntKind.i64 cv else (1 : Int)) +
  (1 : Int))
  else
  bif false then (1 : Int)
  else bif true then IntKind.wrap IntKind.i64 cv else (1 : Int))
  0,
  Vl.mk (1 : Int) (one inn) 0]
  [Vl.mk (1 : Int)
  (one
  (decide
  ((bif
  inn &&
  decide
  ((bif false then (1 : Int)
  else bif false then IntKind.wrap IntKind.i64 cv else (1 : Int)) =
  (0 : Int)) then
  if
  (32767 : Int) <
  IntKind.wrap IntKind.i64
  ((bif false then (1 : Int)
  else bif true then IntKind.wrap IntKind.i64 cv else (1 : Int)) +
  (1 : Int)) then
  (32767 : Int)
  else
  IntKind.wrap IntKind.i64
  ((bif false then (1 : Int)
  else bif true then IntKind.wrap IntKind.i64 cv else (1 : Int)) +
  (1 : Int))
  else
  bif false then (1 : Int)
  else bif true then IntKind.wrap IntKind.i64 cv else (1 : Int)) ≥
  IntKind.wrap IntKind.i64 pv)))
  0,
  Vl.mk (2 : Int)
  (bif
  inn &&
  decide
  ((bif false then (1 : Int)
  else bif false then IntKind.wrap IntKind.i64 cv else (1 : Int)) =
  (0 : Int)) then
  if
  (32767 : Int) <
  IntKind.wrap IntKind.i64
  ((bif false then (1 : Int)
  else bif true then IntKind.wrap IntKind.i64 cv else (1 : Int)) +
  (1 : Int)) then
  (32767 : Int)
  else
  IntKind.wrap IntKind.i64
  ((bif false then (1 : Int)
  else bif true then IntKind.wrap IntKind.i64 cv else (1 : Int)) +
  (1 : Int))
  else
  bif false then (1 : Int)
  else bif true then IntKind.wrap IntKind.i64 cv else (1 : Int))
  0,
  Vl.mk (1 : Int) (one inn) 0])
  False
  (br
  (!sameVs
  [Vl.mk (1 : Int)
  (one
  (decide
  ((bif
  inn &&
  decide
  ((bif false then (1 : Int)
  else bif false then IntKind.wrap IntKind.i64 cv else (1 : Int)) =
  (0 : Int)) then
  bif
  decide
  ((bif false then (1 : Int)
  else bif true then IntKind.wrap IntKind.i64 cv else (1 : Int)) ≤
  (0 : Int)) then
  IntKind.wrap IntKind.i64 pv
  else
  IntKind.wrap IntKind.i64
  ((bif false then (1 : Int)
  else bif true then IntKind.wrap IntKind.i64 cv else (1 : Int)) -
  (1 : Int))
  else
  bif false then (1 : Int)
  else bif true then IntKind.wrap IntKind.i64 cv else (1 : Int)) ≤
  (0 : Int))))
  0,
  Vl.mk (2 : Int)
  (bif
  inn &&
  decide
  ((bif false then (1 : Int)
  else bif false then IntKind.wrap IntKind.i64 cv else (1 : Int)) =
  (0 : Int)) then
  bif
  decide
  ((bif false then (1 : Int)
  else bif true then IntKind.wrap IntKind.i64 cv else (1 : Int)) ≤
  (0 : Int)) then
  IntKind.wrap IntKind.i64 pv
  else
  IntKind.wrap IntKind.i64
  ((bif false then (1 : Int)
  else bif true then IntKind.wrap IntKind.i64 cv else (1 : Int)) -
  (1 : Int))
  else
  bif false then (1 : Int)
  else bif true then IntKind.wrap IntKind.i64 cv else (1 : Int))
  0,
  Vl.mk (1 : Int) (one inn) 0]
  [Vl.mk (1 : Int)
  (one
  (decide
  ((bif
  inn &&
  decide
  ((bif false then (1 : Int)
  else bif false then IntKind.wrap IntKind.i64 cv else (1 : Int)) =
  (0 : Int)) then
  bif
  decide
  ((bif false then (1 : Int)
  else bif true then IntKind.wrap IntKind.i64 cv else (1 : Int)) ≤
  (0 : Int)) then
  IntKind.wrap IntKind.i64 pv
  else
  IntKind.wrap IntKind.i64
  ((bif false then (1 : Int)
  else bif true then IntKind.wrap IntKind.i64 cv else (1 : Int)) -
  (1 : Int))
  else
  bif false then (1 : Int)
  else bif true then IntKind.wrap IntKind.i64 cv else (1 : Int)) ≤
  (0 : Int))))
  0,
  Vl.mk (2 : Int)
  (bif
  inn &&
  decide
  ((bif false then (1 : Int)
  else bif false then IntKind.wrap IntKind.i64 cv else (1 : Int)) =
  (0 : Int)) then
  bif
  decide
  ((bif false then (1 : Int)
  else bif true then IntKind.wrap IntKind.i64 cv else (1 : Int)) ≤
  (0 : Int)) then
  IntKind.wrap IntKind.i64 pv
  else
  IntKind.wrap IntKind.i64
  ((bif false then (1 : Int)
  else bif true then IntKind.wrap IntKind.i64 cv else (1 : Int)) -
  (1 : Int))
  else
  bif false then (1 : Int)
  else bif true then IntKind.wrap IntKind.i64 cv else (1 : Int))
  0,
  Vl.mk (1 : Int) (one inn) 0])
  False
  (br
  (!sameVs
  [Vl.mk (1 : Int)
  (bif true then (1 : Int)
  else bif true then IntKind.wrap IntKind.i64 cv else (1 : Int))
  0,
  Vl.mk (2 : Int)
  (bif false then (1 : Int)
  else bif true then IntKind.wrap IntKind.i64 cv else (1 : Int))
  0,
  Vl.mk (1 : Int)
  (bif false then (1 : Int)
  else bif false then IntKind.wrap IntKind.i64 cv else (1 : Int))
  0]
  [Vl.mk (1 : Int)
  (bif true then (1 : Int)
  else bif true then IntKind.wrap IntKind.i64 cv else (1 : Int))
  0,
  Vl.mk (2 : Int)
  (bif false then (1 : Int)
  else bif true then IntKind.wrap IntKind.i64 cv else (1 : Int))
  0,
  Vl.mk (1 : Int)
  (bif false then (1 : Int)
  else bif false then IntKind.wrap IntKind.i64 cv else (1 : Int))
  0])
  False
  (br
  (!sameVs
  [Vl.mk (1 : Int) (one (inn && false)) 0, Vl.mk (1 : Int) (one inn) 0]
  [Vl.mk (1 : Int) (one (inn && false)) 0, Vl.mk (1 : Int) (one inn) 0])
  False
  (br
  (!sameVs
  [Vl.mk (1 : Int)
  (bif true then (1 : Int)
  else bif true then IntKind.wrap IntKind.i64 cv else (1 : Int))
  0,
  Vl.mk (2 : Int)
  (bif false then (1 : Int)
  else bif true then IntKind.wrap IntKind.i64 cv else (1 : Int))
  0,
  Vl.mk (1 : Int)
  (bif false then (1 : Int)
  else bif false then IntKind.wrap IntKind.i64 cv else (1 : Int))
  0]
  [Vl.mk (1 : Int)
  (bif true then (1 : Int)
  else bif true then IntKind.wrap IntKind.i64 cv else (1 : Int))
  0,
  Vl.mk (2 : Int)
  (bif false then (1 : Int)
  else bif true then IntKind.wrap IntKind.i64 cv else (1 : Int))
  0,
  Vl.mk (1 : Int)
  (bif false then (1 : Int)
  else bif false then IntKind.wrap IntKind.i64 cv else (1 : Int))
  0])
  False
  (br
  (!sameVs
  [Vl.mk (1 : Int) (one (!inn && true)) 0,
  Vl.mk (1 : Int) (one inn) 0]
  [Vl.mk (1 : Int) (one (!inn && true)) 0,
  Vl.mk (1 : Int) (one inn) 0])
  False
  (br
  (!sameVs
  [Vl.mk (1 : Int)
  (bif true then (1 : Int)
  else bif true then IntKind.wrap IntKind.i64 cv else (1 : Int))
  0,
  Vl.mk (2 : Int)
  (bif false then (1 : Int)
  else bif true then IntKind.wrap IntKind.i64 cv else (1 : Int))
  0,
  Vl.mk (1 : Int)
  (bif false then (1 : Int)
  else bif false then IntKind.wrap IntKind.i64 cv else (1 : Int))
  0]
  [Vl.mk (1 : Int)
  (bif true then (1 : Int)
  else bif true then IntKind.wrap IntKind.i64 cv else (1 : Int))
  0,
  Vl.mk (2 : Int)
  (bif false then (1 : Int)
  else bif true then IntKind.wrap IntKind.i64 cv else (1 : Int))
  0,
  Vl.mk (1 : Int)
  (bif false then (1 : Int)
  else bif false then IntKind.wrap IntKind.i64 cv else (1 : Int))
  0])
  False
  (br (Int.ofNat (List.length l) == (3 : Int)) True
  (need (true && Nat.ble (0 + List.length l) (List.length l))
  (need
  (okStep (cntOk true)
  [Ta.cell (Td.sc (Value.int IntKind.i64 (9 : Int))),
  Ta.cell
  (Td.fr 3 (List.length l) c fun i => encL l (0 + i)),
  Ta.cell (Td.sc (Value.bool inn)),
  Ta.cell (Td.sc (Value.int IntKind.i64 (IntKind.wrap IntKind.i64 pv)))])
  (need
  (true &&
  Nat.ble
  (0 +
  List.length
  (cntL (9 : Int)
  (listT Vl
  (Td.fr 3 (List.length l) c fun i =>
  encL l (0 + i)))
  inn (IntKind.wrap IntKind.i64 pv)))
  (List.length
  (cntL (9 : Int)
  (listT Vl
  (Td.fr 3 (List.length l) c fun i =>
  encL l (0 + i)))
  inn (IntKind.wrap IntKind.i64 pv))))
  (need (true && Nat.ble (0 + List.length l) (List.length l))
  (need
  (ok2 Vl Vl (fun x x_1 x_2 x_3 => true)
  [Ta.cell
  (Td.fr 3
  (List.length
  (cntL (9 : Int)
  (listT Vl
  (Td.fr 3 (List.length l) c fun i =>
  encL l (0 + i)))
  inn (IntKind.wrap IntKind.i64 pv)))
  (cntC
  (listT Vl
  (Td.fr 3 (List.length l) c fun i =>
  encL l (0 + i)))
  (nilT
  (Td.fr 3 (List.length l) c fun i =>
  encL l (0 + i))))
  fun i =>
  encL
  (cntL (9 : Int)
  (listT Vl
  (Td.fr 3 (List.length l) c fun i =>
  encL l (0 + i)))
  inn (IntKind.wrap IntKind.i64 pv))
  (0 + i)),
  Ta.cell
  (Td.fr 3 (List.length l) c fun i =>
  encL l (0 + i))])
  (need
  (sameVs
  (listT Vl
  (Td.fr 3
  (List.length
  (cntL (9 : Int)
  (listT Vl
  (Td.fr 3 (List.length l) c fun i =>
  encL l (0 + i)))
  inn (IntKind.wrap IntKind.i64 pv)))
  (cntC
  (listT Vl
  (Td.fr 3 (List.length l) c fun i =>
  encL l (0 + i)))
  (nilT
  (Td.fr 3 (List.length l) c fun i =>
  encL l (0 + i))))
  fun i =>
  encL
  (cntL (9 : Int)
  (listT Vl
  (Td.fr 3 (List.length l) c fun i =>
  encL l (0 + i)))
  inn (IntKind.wrap IntKind.i64 pv))
  (0 + i)))
  (listT Vl
  (Td.fr 3 (List.length l) c fun i =>
  encL l (0 + i))))
  True))))))))))))))))))))))
  (need
  (true &&
  Nat.ble
  (0 +
  List.length
  (cntL kind
  [Vl.mk (1 : Int)
  (bif true then (1 : Int) else bif true then IntKind.wrap IntKind.i64 cv else (0 : Int)) 0,
  Vl.mk (2 : Int)
  (bif false then (1 : Int) else bif true then IntKind.wrap IntKind.i64 cv else (0 : Int))
  0,
  Vl.mk (1 : Int)
  (bif false then (1 : Int) else bif false then IntKind.wrap IntKind.i64 cv else (0 : Int))
  0]
  inn (IntKind.wrap IntKind.i64 pv)))
  (List.length
  (cntL kind
  [Vl.mk (1 : Int) (bif true then (1 : Int) else bif true then IntKind.wrap IntKind.i64 cv else (0 : Int))
  0,
  Vl.mk (2 : Int)
  (bif false then (1 : Int) else bif true then IntKind.wrap IntKind.i64 cv else (0 : Int)) 0,
  Vl.mk (1 : Int)
  (bif false then (1 : Int) else bif false then IntKind.wrap IntKind.i64 cv else (0 : Int)) 0]
  inn (IntKind.wrap IntKind.i64 pv))))
  (need
  (true &&
  Nat.ble
  (0 +
  List.length
  (cntL kind
  [Vl.mk (1 : Int)
  (bif true then (1 : Int) else bif true then IntKind.wrap IntKind.i64 cv else (0 : Int))
  0,
  Vl.mk (2 : Int)
  (bif false then (1 : Int) else bif true then IntKind.wrap IntKind.i64 cv else (0 : Int))
  0,
  Vl.mk (1 : Int)
  (bif false then (1 : Int) else bif false then IntKind.wrap IntKind.i64 cv else (0 : Int))
  0]
  inn (IntKind.wrap IntKind.i64 pv)))
  (List.length
  (cntL kind
  [Vl.mk (1 : Int)
  (bif true then (1 : Int) else bif true then IntKind.wrap IntKind.i64 cv else (0 : Int)) 0,
  Vl.mk (2 : Int)
  (bif false then (1 : Int) else bif true then IntKind.wrap IntKind.i64 cv else (0 : Int))
  0,
  Vl.mk (1 : Int)
  (bif false then (1 : Int) else bif false then IntKind.wrap IntKind.i64 cv else (0 : Int))
  0]
  inn (IntKind.wrap IntKind.i64 pv))))
  (need
  (ok2 Vl Vl (fun x x_1 x_2 x_3 => true)
  [Ta.cell
  (Td.fr 3
  (List.length
  (cntL kind
  [Vl.mk (1 : Int)
  (bif true then (1 : Int) else bif true then IntKind.wrap IntKind.i64 cv else (0 : Int))
  0,
  Vl.mk (2 : Int)
  (bif false then (1 : Int) else bif true then IntKind.wrap IntKind.i64 cv else (0 : Int))
  0,
  Vl.mk (1 : Int)
  (bif false then (1 : Int) else bif false then IntKind.wrap IntKind.i64 cv else (0 : Int))
  0]
  inn (IntKind.wrap IntKind.i64 pv)))
  (cntC
  [Vl.mk (1 : Int)
  (bif true then (1 : Int) else bif true then IntKind.wrap IntKind.i64 cv else (0 : Int))
  0,
  Vl.mk (2 : Int)
  (bif false then (1 : Int) else bif true then IntKind.wrap IntKind.i64 cv else (0 : Int))
  0,
  Vl.mk (1 : Int)
  (bif false then (1 : Int) else bif false then IntKind.wrap IntKind.i64 cv else (0 : Int))
  0]
  (nilT
  (Td.fr 3 3 0
  (selT 3 3
  [Td.sc (Value.int IntKind.i64 (1 : Int)), Td.sc (Value.int IntKind.i64 (1 : Int)),
  Td.sc (Value.float FloatKind.f64 0), Td.sc (Value.int IntKind.i64 (2 : Int)),
  Td.sc (Value.int IntKind.i64 (IntKind.wrap IntKind.i64 cv)),
  Td.sc (Value.float FloatKind.f64 0), Td.sc (Value.int IntKind.i64 (1 : Int)),
  Td.sc (Value.int IntKind.i64 (0 : Int)), Td.sc (Value.float FloatKind.f64 0)]))))
  fun i =>
  encL
  (cntL kind
  [Vl.mk (1 : Int)
  (bif true then (1 : Int) else bif true then IntKind.wrap IntKind.i64 cv else (0 : Int))
  0,
  Vl.mk (2 : Int)
  (bif false then (1 : Int) else bif true then IntKind.wrap IntKind.i64 cv else (0 : Int))
  0,
  Vl.mk (1 : Int)
  (bif false then (1 : Int) else bif false then IntKind.wrap IntKind.i64 cv else (0 : Int))
  0]
  inn (IntKind.wrap IntKind.i64 pv))
  (0 + i)),
  Ta.cell
  (Td.fr 3
  (List.length
  (cntL kind
  [Vl.mk (1 : Int)
  (bif true then (1 : Int) else bif true then IntKind.wrap IntKind.i64 cv else (0 : Int))
  0,
  Vl.mk (2 : Int)
  (bif false then (1 : Int) else bif true then IntKind.wrap IntKind.i64 cv else (0 : Int))
  0,
  Vl.mk (1 : Int)
  (bif false then (1 : Int) else bif false then IntKind.wrap IntKind.i64 cv else (0 : Int))
  0]
  inn (IntKind.wrap IntKind.i64 pv)))
  (cntC
  [Vl.mk (1 : Int)
  (bif true then (1 : Int) else bif true then IntKind.wrap IntKind.i64 cv else (0 : Int))
  0,
  Vl.mk (2 : Int)
  (bif false then (1 : Int) else bif true then IntKind.wrap IntKind.i64 cv else (0 : Int))
  0,
  Vl.mk (1 : Int)
  (bif false then (1 : Int) else bif false then IntKind.wrap IntKind.i64 cv else (0 : Int))
  0]
  (nilT
  (Td.fr 3 3 0
  (selT 3 3
  [Td.sc (Value.int IntKind.i64 (1 : Int)), Td.sc (Value.int IntKind.i64 (1 : Int)),
  Td.sc (Value.float FloatKind.f64 0), Td.sc (Value.int IntKind.i64 (2 : Int)),
  Td.sc (Value.int IntKind.i64 (IntKind.wrap IntKind.i64 cv)),
  Td.sc (Value.float FloatKind.f64 0), Td.sc (Value.int IntKind.i64 (1 : Int)),
  Td.sc (Value.int IntKind.i64 (0 : Int)), Td.sc (Value.float FloatKind.f64 0)]))))
  fun i =>
  encL
  (cntL kind
  [Vl.mk (1 : Int)
  (bif true then (1 : Int) else bif true then IntKind.wrap IntKind.i64 cv else (0 : Int))
  0,
  Vl.mk (2 : Int)
  (bif false then (1 : Int) else bif true then IntKind.wrap IntKind.i64 cv else (0 : Int))
  0,
  Vl.mk (1 : Int)
  (bif false then (1 : Int) else bif false then IntKind.wrap IntKind.i64 cv else (0 : Int))
  0]
  inn (IntKind.wrap IntKind.i64 pv))
  (0 + i))])
  (br
  (!sameVs
  (listT Vl
  (Td.fr 3
  (List.length
  (cntL kind
  [Vl.mk (1 : Int)
  (bif true then (1 : Int) else bif true then IntKind.wrap IntKind.i64 cv else (0 : Int))
  0,
  Vl.mk (2 : Int)
  (bif false then (1 : Int) else bif true then IntKind.wrap IntKind.i64 cv else (0 : Int))
  0,
  Vl.mk (1 : Int)
  (bif false then (1 : Int) else bif false then IntKind.wrap IntKind.i64 cv else (0 : Int))
  0]
  inn (IntKind.wrap IntKind.i64 pv)))
  (cntC
  [Vl.mk (1 : Int)
  (bif true then (1 : Int) else bif true then IntKind.wrap IntKind.i64 cv else (0 : Int))
  0,
  Vl.mk (2 : Int)
  (bif false then (1 : Int) else bif true then IntKind.wrap IntKind.i64 cv else (0 : Int))
  0,
  Vl.mk (1 : Int)
  (bif false then (1 : Int) else bif false then IntKind.wrap IntKind.i64 cv else (0 : Int))
  0]
  (nilT
  (Td.fr 3 3 0
  (selT 3 3
  [Td.sc (Value.int IntKind.i64 (1 : Int)), Td.sc (Value.int IntKind.i64 (1 : Int)),
  Td.sc (Value.float FloatKind.f64 0), Td.sc (Value.int IntKind.i64 (2 : Int)),
  Td.sc (Value.int IntKind.i64 (IntKind.wrap IntKind.i64 cv)),
  Td.sc (Value.float FloatKind.f64 0), Td.sc (Value.int IntKind.i64 (1 : Int)),
  Td.sc (Value.int IntKind.i64 (0 : Int)),
  Td.sc (Value.float FloatKind.f64 0)]))))
  fun i =>
  encL
  (cntL kind
  [Vl.mk (1 : Int)
  (bif true then (1 : Int) else bif true then IntKind.wrap IntKind.i64 cv else (0 : Int))
  0,
  Vl.mk (2 : Int)
  (bif false then (1 : Int) else bif true then IntKind.wrap IntKind.i64 cv else (0 : Int))
  0,
  Vl.mk (1 : Int)
  (bif false then (1 : Int) else bif false then IntKind.wrap IntKind.i64 cv else (0 : Int))
  0]
  inn (IntKind.wrap IntKind.i64 pv))
  (0 + i)))
  (listT Vl
  (Td.fr 3
  (List.length
  (cntL kind
  [Vl.mk (1 : Int)
  (bif true then (1 : Int) else bif true then IntKind.wrap IntKind.i64 cv else (0 : Int))
  0,
  Vl.mk (2 : Int)
  (bif false then (1 : Int) else bif true then IntKind.wrap IntKind.i64 cv else (0 : Int))
  0,
  Vl.mk (1 : Int)
  (bif false then (1 : Int) else bif false then IntKind.wrap IntKind.i64 cv else (0 : Int))
  0]
  inn (IntKind.wrap IntKind.i64 pv)))
  (cntC
  [Vl.mk (1 : Int)
  (bif true then (1 : Int) else bif true then IntKind.wrap IntKind.i64 cv else (0 : Int))
  0,
  Vl.mk (2 : Int)
  (bif false then (1 : Int) else bif true then IntKind.wrap IntKind.i64 cv else (0 : Int))
  0,
  Vl.mk (1 : Int)
  (bif false then (1 : Int) else bif false then IntKind.wrap IntKind.i64 cv else (0 : Int))
  0]
  (nilT
  (Td.fr 3 3 0
  (selT 3 3
  [Td.sc (Value.int IntKind.i64 (1 : Int)), Td.sc (Value.int IntKind.i64 (1 : Int)),
  Td.sc (Value.float FloatKind.f64 0), Td.sc (Value.int IntKind.i64 (2 : Int)),
  Td.sc (Value.int IntKind.i64 (IntKind.wrap IntKind.i64 cv)),
  Td.sc (Value.float FloatKind.f64 0), Td.sc (Value.int IntKind.i64 (1 : Int)),
  Td.sc (Value.int IntKind.i64 (0 : Int)),
  Td.sc (Value.float FloatKind.f64 0)]))))
  fun i =>
  encL
  (cntL kind
  [Vl.mk (1 : Int)
  (bif true then (1 : Int) else bif true then IntKind.wrap IntKind.i64 cv else (0 : Int))
  0,
  Vl.mk (2 : Int)
  (bif false then (1 : Int) else bif true then IntKind.wrap IntKind.i64 cv else (0 : Int))
  0,
  Vl.mk (1 : Int)
  (bif false then (1 : Int) else bif false then IntKind.wrap IntKind.i64 cv else (0 : Int))
  0]
  inn (IntKind.wrap IntKind.i64 pv))
  (0 + i))))
  False
  (need
  (true &&
  Nat.ble
  (0 +
  List.length
  (cntL kind [Vl.mk (1 : Int) (1 : Int) 0, Vl.mk (1 : Int) (0 : Int) 0] inn
  (IntKind.wrap IntKind.i64 pv)))
  (List.length
  (cntL kind [Vl.mk (1 : Int) (1 : Int) 0, Vl.mk (1 : Int) (0 : Int) 0] inn
  (IntKind.wrap IntKind.i64 pv))))
  (need
  (true &&
  Nat.ble
  (0 +
  List.length
  (cntL kind [Vl.mk (1 : Int) (1 : Int) 0, Vl.mk (1 : Int) (0 : Int) 0] inn
  (IntKind.wrap IntKind.i64 pv)))
  (List.length
  (cntL kind [Vl.mk (1 : Int) (1 : Int) 0, Vl.mk (1 : Int) (0 : Int) 0] inn
  (IntKind.wrap IntKind.i64 pv))))
  (need
  (ok2 Vl Vl (fun x x_1 x_2 x_3 => true)
  [Ta.cell
  (Td.fr 3
  (List.length
  (cntL kind [Vl.mk (1 : Int) (1 : Int) 0, Vl.mk (1 : Int) (0 : Int) 0] inn
  (IntKind.wrap IntKind.i64 pv)))
  0 fun i =>
  encL
  (cntL kind [Vl.mk (1 : Int) (1 : Int) 0, Vl.mk (1 : Int) (0 : Int) 0] inn
  (IntKind.wrap IntKind.i64 pv))
  (0 + i)),
  Ta.cell
  (Td.fr 3
  (List.length
  (cntL kind [Vl.mk (1 : Int) (1 : Int) 0, Vl.mk (1 : Int) (0 : Int) 0] inn
  (IntKind.wrap IntKind.i64 pv)))
  0 fun i =>
  encL
  (cntL kind [Vl.mk (1 : Int) (1 : Int) 0, Vl.mk (1 : Int) (0 : Int) 0] inn
  (IntKind.wrap IntKind.i64 pv))
  (0 + i))])
  (br
  (!sameVs
  (listT Vl
  (Td.fr 3
  (List.length
  (cntL kind [Vl.mk (1 : Int) (1 : Int) 0, Vl.mk (1 : Int) (0 : Int) 0]
  inn (IntKind.wrap IntKind.i64 pv)))
  0 fun i =>
  encL
  (cntL kind [Vl.mk (1 : Int) (1 : Int) 0, Vl.mk (1 : Int) (0 : Int) 0]
  inn (IntKind.wrap IntKind.i64 pv))
  (0 + i)))
  (listT Vl
  (Td.fr 3
  (List.length
  (cntL kind [Vl.mk (1 : Int) (1 : Int) 0, Vl.mk (1 : Int) (0 : Int) 0]
  inn (IntKind.wrap IntKind.i64 pv)))
  0 fun i =>
  encL
  (cntL kind [Vl.mk (1 : Int) (1 : Int) 0, Vl.mk (1 : Int) (0 : Int) 0]
  inn (IntKind.wrap IntKind.i64 pv))
  (0 + i))))
  False
  (br
  (!sameVs
  [Vl.mk (1 : Int)
  (one
  (decide
  ((bif
  inn &&
  decide
  ((bif false then (1 : Int)
  else bif false then IntKind.wrap IntKind.i64 cv else (0 : Int)) =
  (0 : Int)) then
  if
  (32767 : Int) <
  IntKind.wrap IntKind.i64
  ((bif false then (1 : Int)
  else bif true then IntKind.wrap IntKind.i64 cv else (0 : Int)) +
  (1 : Int)) then
  (32767 : Int)
  else
  IntKind.wrap IntKind.i64
  ((bif false then (1 : Int)
  else bif true then IntKind.wrap IntKind.i64 cv else (0 : Int)) +
  (1 : Int))
  else
  bif false then (1 : Int)
  else bif true then IntKind.wrap IntKind.i64 cv else (0 : Int)) ≥
  IntKind.wrap IntKind.i64 pv)))
  0,
  Vl.mk (2 : Int)
  (bif
  inn &&
  decide
  ((bif false then (1 : Int)
  else bif false then IntKind.wrap IntKind.i64 cv else (0 : Int)) =
  (0 : Int)) then
  if
  (32767 : Int) <
  IntKind.wrap IntKind.i64
  ((bif false then (1 : Int)
  else bif true then IntKind.wrap IntKind.i64 cv else (0 : Int)) +
  (1 : Int)) then
  (32767 : Int)
  else
  IntKind.wrap IntKind.i64
  ((bif false then (1 : Int)
  else bif true then IntKind.wrap IntKind.i64 cv else (0 : Int)) +
  (1 : Int))
  else
  bif false then (1 : Int)
  else bif true then IntKind.wrap IntKind.i64 cv else (0 : Int))
  0,
  Vl.mk (1 : Int) (one inn) 0]
  [Vl.mk (1 : Int)
  (one
  (decide
  ((bif
  inn &&
  decide
  ((bif false then (1 : Int)
  else bif false then IntKind.wrap IntKind.i64 cv else (0 : Int)) =
  (0 : Int)) then
  if
  (32767 : Int) <
  IntKind.wrap IntKind.i64
  ((bif false then (1 : Int)
  else bif true then IntKind.wrap IntKind.i64 cv else (0 : Int)) +
  (1 : Int)) then
  (32767 : Int)
  else
  IntKind.wrap IntKind.i64
  ((bif false then (1 : Int)
  else bif true then IntKind.wrap IntKind.i64 cv else (0 : Int)) +
  (1 : Int))
  else
  bif false then (1 : Int)
  else bif true then IntKind.wrap IntKind.i64 cv else (0 : Int)) ≥
  IntKind.wrap IntKind.i64 pv)))
  0,
  Vl.mk (2 : Int)
  (bif
  inn &&
  decide
  ((bif false then (1 : Int)
  else bif false then IntKind.wrap IntKind.i64 cv else (0 : Int)) =
  (0 : Int)) then
  if
  (32767 : Int) <
  IntKind.wrap IntKind.i64
  ((bif false then (1 : Int)
  else bif true then IntKind.wrap IntKind.i64 cv else (0 : Int)) +
  (1 : Int)) then
  (32767 : Int)
  else
  IntKind.wrap IntKind.i64
  ((bif false then (1 : Int)
  else bif true then IntKind.wrap IntKind.i64 cv else (0 : Int)) +
  (1 : Int))
  else
  bif false then (1 : Int)
  else bif true then IntKind.wrap IntKind.i64 cv else (0 : Int))
  0,
  Vl.mk (1 : Int) (one inn) 0])
  False
  (br
  (!sameVs
  [Vl.mk (1 : Int)
  (one
  (decide
  ((bif
  inn &&
  decide
  ((bif false then (1 : Int)
  else bif false then IntKind.wrap IntKind.i64 cv else (0 : Int)) =
  (0 : Int)) then
  bif
  decide
  ((bif false then (1 : Int)
  else bif true then IntKind.wrap IntKind.i64 cv else (0 : Int)) ≤
  (0 : Int)) then
  IntKind.wrap IntKind.i64 pv
  else
  IntKind.wrap IntKind.i64
  ((bif false then (1 : Int)
  else bif true then IntKind.wrap IntKind.i64 cv else (0 : Int)) -
  (1 : Int))
  else
  bif false then (1 : Int)
  else bif true then IntKind.wrap IntKind.i64 cv else (0 : Int)) ≤
  (0 : Int))))
  0,
  Vl.mk (2 : Int)
  (bif
  inn &&
  decide
  ((bif false then (1 : Int)
  else bif false then IntKind.wrap IntKind.i64 cv else (0 : Int)) =
  (0 : Int)) then
  bif
  decide
  ((bif false then (1 : Int)
  else bif true then IntKind.wrap IntKind.i64 cv else (0 : Int)) ≤
  (0 : Int)) then
  IntKind.wrap IntKind.i64 pv
  else
  IntKind.wrap IntKind.i64
  ((bif false then (1 : Int)
  else bif true then IntKind.wrap IntKind.i64 cv else (0 : Int)) -
  (1 : Int))
  else
  bif false then (1 : Int)
  else bif true then IntKind.wrap IntKind.i64 cv else (0 : Int))
  0,
  Vl.mk (1 : Int) (one inn) 0]
  [Vl.mk (1 : Int)
  (one
  (decide
  ((bif
  inn &&
  decide
  ((bif false then (1 : Int)
  else bif false then IntKind.wrap IntKind.i64 cv else (0 : Int)) =
  (0 : Int)) then
  bif
  decide
  ((bif false then (1 : Int)
  else bif true then IntKind.wrap IntKind.i64 cv else (0 : Int)) ≤
  (0 : Int)) then
  IntKind.wrap IntKind.i64 pv
  else
  IntKind.wrap IntKind.i64
  ((bif false then (1 : Int)
  else bif true then IntKind.wrap IntKind.i64 cv else (0 : Int)) -
  (1 : Int))
  else
  bif false then (1 : Int)
  else bif true then IntKind.wrap IntKind.i64 cv else (0 : Int)) ≤
  (0 : Int))))
  0,
  Vl.mk (2 : Int)
  (bif
  inn &&
  decide
  ((bif false then (1 : Int)
  else bif false then IntKind.wrap IntKind.i64 cv else (0 : Int)) =
  (0 : Int)) then
  bif
  decide
  ((bif false then (1 : Int)
  else bif true then IntKind.wrap IntKind.i64 cv else (0 : Int)) ≤
  (0 : Int)) then
  IntKind.wrap IntKind.i64 pv
  else
  IntKind.wrap IntKind.i64
  ((bif false then (1 : Int)
  else bif true then IntKind.wrap IntKind.i64 cv else (0 : Int)) -
  (1 : Int))
  else
  bif false then (1 : Int)
  else bif true then IntKind.wrap IntKind.i64 cv else (0 : Int))
  0,
  Vl.mk (1 : Int) (one inn) 0])
  False
  (br
  (!sameVs
  [Vl.mk (1 : Int)
  (bif true then (1 : Int)
  else bif true then IntKind.wrap IntKind.i64 cv else (0 : Int))
  0,
  Vl.mk (2 : Int)
  (bif false then (1 : Int)
  else bif true then IntKind.wrap IntKind.i64 cv else (0 : Int))
  0,
  Vl.mk (1 : Int)
  (bif false then (1 : Int)
  else bif false then IntKind.wrap IntKind.i64 cv else (0 : Int))
  0]
  [Vl.mk (1 : Int)
  (bif true then (1 : Int)
  else bif true then IntKind.wrap IntKind.i64 cv else (0 : Int))
  0,
  Vl.mk (2 : Int)
  (bif false then (1 : Int)
  else bif true then IntKind.wrap IntKind.i64 cv else (0 : Int))
  0,
  Vl.mk (1 : Int)
  (bif false then (1 : Int)
  else bif false then IntKind.wrap IntKind.i64 cv else (0 : Int))
  0])
  False
  (br
  (!sameVs
  [Vl.mk (1 : Int) (one (inn && true)) 0, Vl.mk (1 : Int) (one inn) 0]
  [Vl.mk (1 : Int) (one (inn && true)) 0, Vl.mk (1 : Int) (one inn) 0])
  False
  (br
  (!sameVs
  [Vl.mk (1 : Int)
  (bif true then (1 : Int)
  else bif true then IntKind.wrap IntKind.i64 cv else (0 : Int))
  0,
  Vl.mk (2 : Int)
  (bif false then (1 : Int)
  else bif true then IntKind.wrap IntKind.i64 cv else (0 : Int))
  0,
  Vl.mk (1 : Int)
  (bif false then (1 : Int)
  else bif false then IntKind.wrap IntKind.i64 cv else (0 : Int))
  0]
  [Vl.mk (1 : Int)
  (bif true then (1 : Int)
  else bif true then IntKind.wrap IntKind.i64 cv else (0 : Int))
  0,
  Vl.mk (2 : Int)
  (bif false then (1 : Int)
  else bif true then IntKind.wrap IntKind.i64 cv else (0 : Int))
  0,
  Vl.mk (1 : Int)
  (bif false then (1 : Int)
  else bif false then IntKind.wrap IntKind.i64 cv else (0 : Int))
  0])
  False
  (br
  (!sameVs
  [Vl.mk (1 : Int) (one (!inn && false)) 0,
  Vl.mk (1 : Int) (one inn) 0]
  [Vl.mk (1 : Int) (one (!inn && false)) 0,
  Vl.mk (1 : Int) (one inn) 0])
  False
  (br
  (!sameVs
  [Vl.mk (1 : Int)
  (bif true then (1 : Int)
  else bif true then IntKind.wrap IntKind.i64 cv else (0 : Int))
  0,
  Vl.mk (2 : Int)
  (bif false then (1 : Int)
  else bif true then IntKind.wrap IntKind.i64 cv else (0 : Int))
  0,
  Vl.mk (1 : Int)
  (bif false then (1 : Int)
  else bif false then IntKind.wrap IntKind.i64 cv else (0 : Int))
  0]
  [Vl.mk (1 : Int)
  (bif true then (1 : Int)
  else bif true then IntKind.wrap IntKind.i64 cv else (0 : Int))
  0,
  Vl.mk (2 : Int)
  (bif false then (1 : Int)
  else bif true then IntKind.wrap IntKind.i64 cv else (0 : Int))
  0,
  Vl.mk (1 : Int)
  (bif false then (1 : Int)
  else bif false then IntKind.wrap IntKind.i64 cv else (0 : Int))
  0])
  False
  (br (Int.ofNat (List.length l) == (3 : Int)) True
  (need (true && Nat.ble (0 + List.length l) (List.length l))
  (need
  (okStep (cntOk true)
  [Ta.cell (Td.sc (Value.int IntKind.i64 (9 : Int))),
  Ta.cell
  (Td.fr 3 (List.length l) c fun i => encL l (0 + i)),
  Ta.cell (Td.sc (Value.bool inn)),
  Ta.cell (Td.sc (Value.int IntKind.i64 (IntKind.wrap IntKind.i64 pv)))])
  (need
  (true &&
  Nat.ble
  (0 +
  List.length
  (cntL (9 : Int)
  (listT Vl
  (Td.fr 3 (List.length l) c fun i =>
  encL l (0 + i)))
  inn (IntKind.wrap IntKind.i64 pv)))
  (List.length
  (cntL (9 : Int)
  (listT Vl
  (Td.fr 3 (List.length l) c fun i =>
  encL l (0 + i)))
  inn (IntKind.wrap IntKind.i64 pv))))
  (need (true && Nat.ble (0 + List.length l) (List.length l))
  (need
  (ok2 Vl Vl (fun x x_1 x_2 x_3 => true)
  [Ta.cell
  (Td.fr 3
  (List.length
  (cntL (9 : Int)
  (listT Vl
  (Td.fr 3 (List.length l) c fun i =>
  encL l (0 + i)))
  inn (IntKind.wrap IntKind.i64 pv)))
  (cntC
  (listT Vl
  (Td.fr 3 (List.length l) c fun i =>
  encL l (0 + i)))
  (nilT
  (Td.fr 3 (List.length l) c fun i =>
  encL l (0 + i))))
  fun i =>
  encL
  (cntL (9 : Int)
  (listT Vl
  (Td.fr 3 (List.length l) c fun i =>
  encL l (0 + i)))
  inn (IntKind.wrap IntKind.i64 pv))
  (0 + i)),
  Ta.cell
  (Td.fr 3 (List.length l) c fun i =>
  encL l (0 + i))])
  (need
  (sameVs
  (listT Vl
  (Td.fr 3
  (List.length
  (cntL (9 : Int)
  (listT Vl
  (Td.fr 3 (List.length l) c fun i =>
  encL l (0 + i)))
  inn (IntKind.wrap IntKind.i64 pv)))
  (cntC
  (listT Vl
  (Td.fr 3 (List.length l) c fun i =>
  encL l (0 + i)))
  (nilT
  (Td.fr 3 (List.length l) c fun i =>
  encL l (0 + i))))
  fun i =>
  encL
  (cntL (9 : Int)
  (listT Vl
  (Td.fr 3 (List.length l) c fun i =>
  encL l (0 + i)))
  inn (IntKind.wrap IntKind.i64 pv))
  (0 + i)))
  (listT Vl
  (Td.fr 3 (List.length l) c fun i =>
  encL l (0 + i))))
  True)))))))))))))))))))))))
  (br was
  (need
  (true &&
  Nat.ble
  (0 +
  List.length
  (cntL kind
  [Vl.mk (1 : Int)
  (bif true then (0 : Int) else bif true then IntKind.wrap IntKind.i64 cv else (1 : Int)) 0,
  Vl.mk (2 : Int)
  (bif false then (0 : Int) else bif true then IntKind.wrap IntKind.i64 cv else (1 : Int))
  0,
  Vl.mk (1 : Int)
  (bif false then (0 : Int) else bif false then IntKind.wrap IntKind.i64 cv else (1 : Int))
  0]
  inn (IntKind.wrap IntKind.i64 pv)))
  (List.length
  (cntL kind
  [Vl.mk (1 : Int) (bif true then (0 : Int) else bif true then IntKind.wrap IntKind.i64 cv else (1 : Int))
  0,
  Vl.mk (2 : Int)
  (bif false then (0 : Int) else bif true then IntKind.wrap IntKind.i64 cv else (1 : Int)) 0,
  Vl.mk (1 : Int)
  (bif false then (0 : Int) else bif false then IntKind.wrap IntKind.i64 cv else (1 : Int)) 0]
  inn (IntKind.wrap IntKind.i64 pv))))
  (need
  (true &&
  Nat.ble
  (0 +
  List.length
  (cntL kind
  [Vl.mk (1 : Int)
  (bif true then (0 : Int) else bif true then IntKind.wrap IntKind.i64 cv else (1 : Int))
  0,
  Vl.mk (2 : Int)
  (bif false then (0 : Int) else bif true then IntKind.wrap IntKind.i64 cv else (1 : Int))
  0,
  Vl.mk (1 : Int)
  (bif false then (0 : Int) else bif false then IntKind.wrap IntKind.i64 cv else (1 : Int))
  0]
  inn (IntKind.wrap IntKind.i64 pv)))
  (List.length
  (cntL kind
  [Vl.mk (1 : Int)
  (bif true then (0 : Int) else bif true then IntKind.wrap IntKind.i64 cv else (1 : Int)) 0,
  Vl.mk (2 : Int)
  (bif false then (0 : Int) else bif true then IntKind.wrap IntKind.i64 cv else (1 : Int))
  0,
  Vl.mk (1 : Int)
  (bif false then (0 : Int) else bif false then IntKind.wrap IntKind.i64 cv else (1 : Int))
  0]
  inn (IntKind.wrap IntKind.i64 pv))))
  (need
  (ok2 Vl Vl (fun x x_1 x_2 x_3 => true)
  [Ta.cell
  (Td.fr 3
  (List.length
  (cntL kind
  [Vl.mk (1 : Int)
  (bif true then (0 : Int) else bif true then IntKind.wrap IntKind.i64 cv else (1 : Int))
  0,
  Vl.mk (2 : Int)
  (bif false then (0 : Int) else bif true then IntKind.wrap IntKind.i64 cv else (1 : Int))
  0,
  Vl.mk (1 : Int)
  (bif false then (0 : Int) else bif false then IntKind.wrap IntKind.i64 cv else (1 : Int))
  0]
  inn (IntKind.wrap IntKind.i64 pv)))
  (cntC
  [Vl.mk (1 : Int)
  (bif true then (0 : Int) else bif true then IntKind.wrap IntKind.i64 cv else (1 : Int))
  0,
  Vl.mk (2 : Int)
  (bif false then (0 : Int) else bif true then IntKind.wrap IntKind.i64 cv else (1 : Int))
  0,
  Vl.mk (1 : Int)
  (bif false then (0 : Int) else bif false then IntKind.wrap IntKind.i64 cv else (1 : Int))
  0]
  (nilT
  (Td.fr 3 3 0
  (selT 3 3
  [Td.sc (Value.int IntKind.i64 (1 : Int)), Td.sc (Value.int IntKind.i64 (0 : Int)),
  Td.sc (Value.float FloatKind.f64 0), Td.sc (Value.int IntKind.i64 (2 : Int)),
  Td.sc (Value.int IntKind.i64 (IntKind.wrap IntKind.i64 cv)),
  Td.sc (Value.float FloatKind.f64 0), Td.sc (Value.int IntKind.i64 (1 : Int)),
  Td.sc (Value.int IntKind.i64 (1 : Int)), Td.sc (Value.float FloatKind.f64 0)]))))
  fun i =>
  encL
  (cntL kind
  [Vl.mk (1 : Int)
  (bif true then (0 : Int) else bif true then IntKind.wrap IntKind.i64 cv else (1 : Int))
  0,
  Vl.mk (2 : Int)
  (bif false then (0 : Int) else bif true then IntKind.wrap IntKind.i64 cv else (1 : Int))
  0,
  Vl.mk (1 : Int)
  (bif false then (0 : Int) else bif false then IntKind.wrap IntKind.i64 cv else (1 : Int))
  0]
  inn (IntKind.wrap IntKind.i64 pv))
  (0 + i)),
  Ta.cell
  (Td.fr 3
  (List.length
  (cntL kind
  [Vl.mk (1 : Int)
  (bif true then (0 : Int) else bif true then IntKind.wrap IntKind.i64 cv else (1 : Int))
  0,
  Vl.mk (2 : Int)
  (bif false then (0 : Int) else bif true then IntKind.wrap IntKind.i64 cv else (1 : Int))
  0,
  Vl.mk (1 : Int)
  (bif false then (0 : Int) else bif false then IntKind.wrap IntKind.i64 cv else (1 : Int))
  0]
  inn (IntKind.wrap IntKind.i64 pv)))
  (cntC
  [Vl.mk (1 : Int)
  (bif true then (0 : Int) else bif true then IntKind.wrap IntKind.i64 cv else (1 : Int))
  0,
  Vl.mk (2 : Int)
  (bif false then (0 : Int) else bif true then IntKind.wrap IntKind.i64 cv else (1 : Int))
  0,
  Vl.mk (1 : Int)
  (bif false then (0 : Int) else bif false then IntKind.wrap IntKind.i64 cv else (1 : Int))
  0]
  (nilT
  (Td.fr 3 3 0
  (selT 3 3
  [Td.sc (Value.int IntKind.i64 (1 : Int)), Td.sc (Value.int IntKind.i64 (0 : Int)),
  Td.sc (Value.float FloatKind.f64 0), Td.sc (Value.int IntKind.i64 (2 : Int)),
  Td.sc (Value.int IntKind.i64 (IntKind.wrap IntKind.i64 cv)),
  Td.sc (Value.float FloatKind.f64 0), Td.sc (Value.int IntKind.i64 (1 : Int)),
  Td.sc (Value.int IntKind.i64 (1 : Int)), Td.sc (Value.float FloatKind.f64 0)]))))
  fun i =>
  encL
  (cntL kind
  [Vl.mk (1 : Int)
  (bif true then (0 : Int) else bif true then IntKind.wrap IntKind.i64 cv else (1 : Int))
  0,
  Vl.mk (2 : Int)
  (bif false then (0 : Int) else bif true then IntKind.wrap IntKind.i64 cv else (1 : Int))
  0,
  Vl.mk (1 : Int)
  (bif false then (0 : Int) else bif false then IntKind.wrap IntKind.i64 cv else (1 : Int))
  0]
  inn (IntKind.wrap IntKind.i64 pv))
  (0 + i))])
  (br
  (!sameVs
  (listT Vl
  (Td.fr 3
  (List.length
  (cntL kind
  [Vl.mk (1 : Int)
  (bif true then (0 : Int) else bif true then IntKind.wrap IntKind.i64 cv else (1 : Int))
  0,
  Vl.mk (2 : Int)
  (bif false then (0 : Int) else bif true then IntKind.wrap IntKind.i64 cv else (1 : Int))
  0,
  Vl.mk (1 : Int)
  (bif false then (0 : Int) else bif false then IntKind.wrap IntKind.i64 cv else (1 : Int))
  0]
  inn (IntKind.wrap IntKind.i64 pv)))
  (cntC
  [Vl.mk (1 : Int)
  (bif true then (0 : Int) else bif true then IntKind.wrap IntKind.i64 cv else (1 : Int))
  0,
  Vl.mk (2 : Int)
  (bif false then (0 : Int) else bif true then IntKind.wrap IntKind.i64 cv else (1 : Int))
  0,
  Vl.mk (1 : Int)
  (bif false then (0 : Int) else bif false then IntKind.wrap IntKind.i64 cv else (1 : Int))
  0]
  (nilT
  (Td.fr 3 3 0
  (selT 3 3
  [Td.sc (Value.int IntKind.i64 (1 : Int)), Td.sc (Value.int IntKind.i64 (0 : Int)),
  Td.sc (Value.float FloatKind.f64 0), Td.sc (Value.int IntKind.i64 (2 : Int)),
  Td.sc (Value.int IntKind.i64 (IntKind.wrap IntKind.i64 cv)),
  Td.sc (Value.float FloatKind.f64 0), Td.sc (Value.int IntKind.i64 (1 : Int)),
  Td.sc (Value.int IntKind.i64 (1 : Int)),
  Td.sc (Value.float FloatKind.f64 0)]))))
  fun i =>
  encL
  (cntL kind
  [Vl.mk (1 : Int)
  (bif true then (0 : Int) else bif true then IntKind.wrap IntKind.i64 cv else (1 : Int))
  0,
  Vl.mk (2 : Int)
  (bif false then (0 : Int) else bif true then IntKind.wrap IntKind.i64 cv else (1 : Int))
  0,
  Vl.mk (1 : Int)
  (bif false then (0 : Int) else bif false then IntKind.wrap IntKind.i64 cv else (1 : Int))
  0]
  inn (IntKind.wrap IntKind.i64 pv))
  (0 + i)))
  (listT Vl
  (Td.fr 3
  (List.length
  (cntL kind
  [Vl.mk (1 : Int)
  (bif true then (0 : Int) else bif true then IntKind.wrap IntKind.i64 cv else (1 : Int))
  0,
  Vl.mk (2 : Int)
  (bif false then (0 : Int) else bif true then IntKind.wrap IntKind.i64 cv else (1 : Int))
  0,
  Vl.mk (1 : Int)
  (bif false then (0 : Int) else bif false then IntKind.wrap IntKind.i64 cv else (1 : Int))
  0]
  inn (IntKind.wrap IntKind.i64 pv)))
  (cntC
  [Vl.mk (1 : Int)
  (bif true then (0 : Int) else bif true then IntKind.wrap IntKind.i64 cv else (1 : Int))
  0,
  Vl.mk (2 : Int)
  (bif false then (0 : Int) else bif true then IntKind.wrap IntKind.i64 cv else (1 : Int))
  0,
  Vl.mk (1 : Int)
  (bif false then (0 : Int) else bif false then IntKind.wrap IntKind.i64 cv else (1 : Int))
  0]
  (nilT
  (Td.fr 3 3 0
  (selT 3 3
  [Td.sc (Value.int IntKind.i64 (1 : Int)), Td.sc (Value.int IntKind.i64 (0 : Int)),
  Td.sc (Value.float FloatKind.f64 0), Td.sc (Value.int IntKind.i64 (2 : Int)),
  Td.sc (Value.int IntKind.i64 (IntKind.wrap IntKind.i64 cv)),
  Td.sc (Value.float FloatKind.f64 0), Td.sc (Value.int IntKind.i64 (1 : Int)),
  Td.sc (Value.int IntKind.i64 (1 : Int)),
  Td.sc (Value.float FloatKind.f64 0)]))))
  fun i =>
  encL
  (cntL kind
  [Vl.mk (1 : Int)
  (bif true then (0 : Int) else bif true then IntKind.wrap IntKind.i64 cv else (1 : Int))
  0,
  Vl.mk (2 : Int)
  (bif false then (0 : Int) else bif true then IntKind.wrap IntKind.i64 cv else (1 : Int))
  0,
  Vl.mk (1 : Int)
  (bif false then (0 : Int) else bif false then IntKind.wrap IntKind.i64 cv else (1 : Int))
  0]
  inn (IntKind.wrap IntKind.i64 pv))
  (0 + i))))
  False
  (need
  (true &&
  Nat.ble
  (0 +
  List.length
  (cntL kind [Vl.mk (1 : Int) (0 : Int) 0, Vl.mk (1 : Int) (1 : Int) 0] inn
  (IntKind.wrap IntKind.i64 pv)))
  (List.length
  (cntL kind [Vl.mk (1 : Int) (0 : Int) 0, Vl.mk (1 : Int) (1 : Int) 0] inn
  (IntKind.wrap IntKind.i64 pv))))
  (need
  (true &&
  Nat.ble
  (0 +
  List.length
  (cntL kind [Vl.mk (1 : Int) (0 : Int) 0, Vl.mk (1 : Int) (1 : Int) 0] inn
  (IntKind.wrap IntKind.i64 pv)))
  (List.length
  (cntL kind [Vl.mk (1 : Int) (0 : Int) 0, Vl.mk (1 : Int) (1 : Int) 0] inn
  (IntKind.wrap IntKind.i64 pv))))
  (need
  (ok2 Vl Vl (fun x x_1 x_2 x_3 => true)
  [Ta.cell
  (Td.fr 3
  (List.length
  (cntL kind [Vl.mk (1 : Int) (0 : Int) 0, Vl.mk (1 : Int) (1 : Int) 0] inn
  (IntKind.wrap IntKind.i64 pv)))
  0 fun i =>
  encL
  (cntL kind [Vl.mk (1 : Int) (0 : Int) 0, Vl.mk (1 : Int) (1 : Int) 0] inn
  (IntKind.wrap IntKind.i64 pv))
  (0 + i)),
  Ta.cell
  (Td.fr 3
  (List.length
  (cntL kind [Vl.mk (1 : Int) (0 : Int) 0, Vl.mk (1 : Int) (1 : Int) 0] inn
  (IntKind.wrap IntKind.i64 pv)))
  0 fun i =>
  encL
  (cntL kind [Vl.mk (1 : Int) (0 : Int) 0, Vl.mk (1 : Int) (1 : Int) 0] inn
  (IntKind.wrap IntKind.i64 pv))
  (0 + i))])
  (br
  (!sameVs
  (listT Vl
  (Td.fr 3
  (List.length
  (cntL kind [Vl.mk (1 : Int) (0 : Int) 0, Vl.mk (1 : Int) (1 : Int) 0]
  inn (IntKind.wrap IntKind.i64 pv)))
  0 fun i =>
  encL
  (cntL kind [Vl.mk (1 : Int) (0 : Int) 0, Vl.mk (1 : Int) (1 : Int) 0]
  inn (IntKind.wrap IntKind.i64 pv))
  (0 + i)))
  (listT Vl
  (Td.fr 3
  (List.length
  (cntL kind [Vl.mk (1 : Int) (0 : Int) 0, Vl.mk (1 : Int) (1 : Int) 0]
  inn (IntKind.wrap IntKind.i64 pv)))
  0 fun i =>
  encL
  (cntL kind [Vl.mk (1 : Int) (0 : Int) 0, Vl.mk (1 : Int) (1 : Int) 0]
  inn (IntKind.wrap IntKind.i64 pv))
  (0 + i))))
  False
  (br
  (!sameVs
  [Vl.mk (1 : Int)
  (one
  (decide
  ((bif
  inn &&
  decide
  ((bif false then (0 : Int)
  else bif false then IntKind.wrap IntKind.i64 cv else (1 : Int)) =
  (0 : Int)) then
  if
  (32767 : Int) <
  IntKind.wrap IntKind.i64
  ((bif false then (0 : Int)
  else bif true then IntKind.wrap IntKind.i64 cv else (1 : Int)) +
  (1 : Int)) then
  (32767 : Int)
  else
  IntKind.wrap IntKind.i64
  ((bif false then (0 : Int)
  else bif true then IntKind.wrap IntKind.i64 cv else (1 : Int)) +
  (1 : Int))
  else
  bif false then (0 : Int)
  else bif true then IntKind.wrap IntKind.i64 cv else (1 : Int)) ≥
  IntKind.wrap IntKind.i64 pv)))
  0,
  Vl.mk (2 : Int)
  (bif
  inn &&
  decide
  ((bif false then (0 : Int)
  else bif false then IntKind.wrap IntKind.i64 cv else (1 : Int)) =
  (0 : Int)) then
  if
  (32767 : Int) <
  IntKind.wrap IntKind.i64
  ((bif false then (0 : Int)
  else bif true then IntKind.wrap IntKind.i64 cv else (1 : Int)) +
  (1 : Int)) then
  (32767 : Int)
  else
  IntKind.wrap IntKind.i64
  ((bif false then (0 : Int)
  else bif true then IntKind.wrap IntKind.i64 cv else (1 : Int)) +
  (1 : Int))
  else
  bif false then (0 : Int)
  else bif true then IntKind.wrap IntKind.i64 cv else (1 : Int))
  0,
  Vl.mk (1 : Int) (one inn) 0]
  [Vl.mk (1 : Int)
  (one
  (decide
  ((bif
  inn &&
  decide
  ((bif false then (0 : Int)
  else bif false then IntKind.wrap IntKind.i64 cv else (1 : Int)) =
  (0 : Int)) then
  if
  (32767 : Int) <
  IntKind.wrap IntKind.i64
  ((bif false then (0 : Int)
  else bif true then IntKind.wrap IntKind.i64 cv else (1 : Int)) +
  (1 : Int)) then
  (32767 : Int)
  else
  IntKind.wrap IntKind.i64
  ((bif false then (0 : Int)
  else bif true then IntKind.wrap IntKind.i64 cv else (1 : Int)) +
  (1 : Int))
  else
  bif false then (0 : Int)
  else bif true then IntKind.wrap IntKind.i64 cv else (1 : Int)) ≥
  IntKind.wrap IntKind.i64 pv)))
  0,
  Vl.mk (2 : Int)
  (bif
  inn &&
  decide
  ((bif false then (0 : Int)
  else bif false then IntKind.wrap IntKind.i64 cv else (1 : Int)) =
  (0 : Int)) then
  if
  (32767 : Int) <
  IntKind.wrap IntKind.i64
  ((bif false then (0 : Int)
  else bif true then IntKind.wrap IntKind.i64 cv else (1 : Int)) +
  (1 : Int)) then
  (32767 : Int)
  else
  IntKind.wrap IntKind.i64
  ((bif false then (0 : Int)
  else bif true then IntKind.wrap IntKind.i64 cv else (1 : Int)) +
  (1 : Int))
  else
  bif false then (0 : Int)
  else bif true then IntKind.wrap IntKind.i64 cv else (1 : Int))
  0,
  Vl.mk (1 : Int) (one inn) 0])
  False
  (br
  (!sameVs
  [Vl.mk (1 : Int)
  (one
  (decide
  ((bif
  inn &&
  decide
  ((bif false then (0 : Int)
  else bif false then IntKind.wrap IntKind.i64 cv else (1 : Int)) =
  (0 : Int)) then
  bif
  decide
  ((bif false then (0 : Int)
  else bif true then IntKind.wrap IntKind.i64 cv else (1 : Int)) ≤
  (0 : Int)) then
  IntKind.wrap IntKind.i64 pv
  else
  IntKind.wrap IntKind.i64
  ((bif false then (0 : Int)
  else bif true then IntKind.wrap IntKind.i64 cv else (1 : Int)) -
  (1 : Int))
  else
  bif false then (0 : Int)
  else bif true then IntKind.wrap IntKind.i64 cv else (1 : Int)) ≤
  (0 : Int))))
  0,
  Vl.mk (2 : Int)
  (bif
  inn &&
  decide
  ((bif false then (0 : Int)
  else bif false then IntKind.wrap IntKind.i64 cv else (1 : Int)) =
  (0 : Int)) then
  bif
  decide
  ((bif false then (0 : Int)
  else bif true then IntKind.wrap IntKind.i64 cv else (1 : Int)) ≤
  (0 : Int)) then
  IntKind.wrap IntKind.i64 pv
  else
  IntKind.wrap IntKind.i64
  ((bif false then (0 : Int)
  else bif true then IntKind.wrap IntKind.i64 cv else (1 : Int)) -
  (1 : Int))
  else
  bif false then (0 : Int)
  else bif true then IntKind.wrap IntKind.i64 cv else (1 : Int))
  0,
  Vl.mk (1 : Int) (one inn) 0]
  [Vl.mk (1 : Int)
  (one
  (decide
  ((bif
  inn &&
  decide
  ((bif false then (0 : Int)
  else bif false then IntKind.wrap IntKind.i64 cv else (1 : Int)) =
  (0 : Int)) then
  bif
  decide
  ((bif false then (0 : Int)
  else bif true then IntKind.wrap IntKind.i64 cv else (1 : Int)) ≤
  (0 : Int)) then
  IntKind.wrap IntKind.i64 pv
  else
  IntKind.wrap IntKind.i64
  ((bif false then (0 : Int)
  else bif true then IntKind.wrap IntKind.i64 cv else (1 : Int)) -
  (1 : Int))
  else
  bif false then (0 : Int)
  else bif true then IntKind.wrap IntKind.i64 cv else (1 : Int)) ≤
  (0 : Int))))
  0,
  Vl.mk (2 : Int)
  (bif
  inn &&
  decide
  ((bif false then (0 : Int)
  else bif false then IntKind.wrap IntKind.i64 cv else (1 : Int)) =
  (0 : Int)) then
  bif
  decide
  ((bif false then (0 : Int)
  else bif true then IntKind.wrap IntKind.i64 cv else (1 : Int)) ≤
  (0 : Int)) then
  IntKind.wrap IntKind.i64 pv
  else
  IntKind.wrap IntKind.i64
  ((bif false then (0 : Int)
  else bif true then IntKind.wrap IntKind.i64 cv else (1 : Int)) -
  (1 : Int))
  else
  bif false then (0 : Int)
  else bif true then IntKind.wrap IntKind.i64 cv else (1 : Int))
  0,
  Vl.mk (1 : Int) (one inn) 0])
  False
  (br
  (!sameVs
  [Vl.mk (1 : Int)
  (bif true then (0 : Int)
  else bif true then IntKind.wrap IntKind.i64 cv else (1 : Int))
  0,
  Vl.mk (2 : Int)
  (bif false then (0 : Int)
  else bif true then IntKind.wrap IntKind.i64 cv else (1 : Int))
  0,
  Vl.mk (1 : Int)
  (bif false then (0 : Int)
  else bif false then IntKind.wrap IntKind.i64 cv else (1 : Int))
  0]
  [Vl.mk (1 : Int)
  (bif true then (0 : Int)
  else bif true then IntKind.wrap IntKind.i64 cv else (1 : Int))
  0,
  Vl.mk (2 : Int)
  (bif false then (0 : Int)
  else bif true then IntKind.wrap IntKind.i64 cv else (1 : Int))
  0,
  Vl.mk (1 : Int)
  (bif false then (0 : Int)
  else bif false then IntKind.wrap IntKind.i64 cv else (1 : Int))
  0])
  False
  (br
  (!sameVs
  [Vl.mk (1 : Int) (one (inn && false)) 0, Vl.mk (1 : Int) (one inn) 0]
  [Vl.mk (1 : Int) (one (inn && false)) 0, Vl.mk (1 : Int) (one inn) 0])
  False
  (br
  (!sameVs
  [Vl.mk (1 : Int)
  (bif true then (0 : Int)
  else bif true then IntKind.wrap IntKind.i64 cv else (1 : Int))
  0,
  Vl.mk (2 : Int)
  (bif false then (0 : Int)
  else bif true then IntKind.wrap IntKind.i64 cv else (1 : Int))
  0,
  Vl.mk (1 : Int)
  (bif false then (0 : Int)
  else bif false then IntKind.wrap IntKind.i64 cv else (1 : Int))
  0]
  [Vl.mk (1 : Int)
  (bif true then (0 : Int)
  else bif true then IntKind.wrap IntKind.i64 cv else (1 : Int))
  0,
  Vl.mk (2 : Int)
  (bif false then (0 : Int)
  else bif true then IntKind.wrap IntKind.i64 cv else (1 : Int))
  0,
  Vl.mk (1 : Int)
  (bif false then (0 : Int)
  else bif false then IntKind.wrap IntKind.i64 cv else (1 : Int))
  0])
  False
  (br
  (!sameVs
  [Vl.mk (1 : Int) (one (!inn && true)) 0,
  Vl.mk (1 : Int) (one inn) 0]
  [Vl.mk (1 : Int) (one (!inn && true)) 0,
  Vl.mk (1 : Int) (one inn) 0])
  False
  (br
  (!sameVs
  [Vl.mk (1 : Int)
  (bif true then (0 : Int)
  else bif true then IntKind.wrap IntKind.i64 cv else (1 : Int))
  0,
  Vl.mk (2 : Int)
  (bif false then (0 : Int)
  else bif true then IntKind.wrap IntKind.i64 cv else (1 : Int))
  0,
  Vl.mk (1 : Int)
  (bif false then (0 : Int)
  else bif false then IntKind.wrap IntKind.i64 cv else (1 : Int))
  0]
  [Vl.mk (1 : Int)
  (bif true then (0 : Int)
  else bif true then IntKind.wrap IntKind.i64 cv else (1 : Int))
  0,
  Vl.mk (2 : Int)
  (bif false then (0 : Int)
  else bif true then IntKind.wrap IntKind.i64 cv else (1 : Int))
  0,
  Vl.mk (1 : Int)
  (bif false then (0 : Int)
  else bif false then IntKind.wrap IntKind.i64 cv else (1 : Int))
  0])
  False
  (br (Int.ofNat (List.length l) == (3 : Int)) True
  (need (true && Nat.ble (0 + List.length l) (List.length l))
  (need
  (okStep (cntOk true)
  [Ta.cell (Td.sc (Value.int IntKind.i64 (9 : Int))),
  Ta.cell
  (Td.fr 3 (List.length l) c fun i => encL l (0 + i)),
  Ta.cell (Td.sc (Value.bool inn)),
  Ta.cell (Td.sc (Value.int IntKind.i64 (IntKind.wrap IntKind.i64 pv)))])
  (need
  (true &&
  Nat.ble
  (0 +
  List.length
  (cntL (9 : Int)
  (listT Vl
  (Td.fr 3 (List.length l) c fun i =>
  encL l (0 + i)))
  inn (IntKind.wrap IntKind.i64 pv)))
  (List.length
  (cntL (9 : Int)
  (listT Vl
  (Td.fr 3 (List.length l) c fun i =>
  encL l (0 + i)))
  inn (IntKind.wrap IntKind.i64 pv))))
  (need (true && Nat.ble (0 + List.length l) (List.length l))
  (need
  (ok2 Vl Vl (fun x x_1 x_2 x_3 => true)
  [Ta.cell
  (Td.fr 3
  (List.length
  (cntL (9 : Int)
  (listT Vl
  (Td.fr 3 (List.length l) c fun i =>
  encL l (0 + i)))
  inn (IntKind.wrap IntKind.i64 pv)))
  (cntC
  (listT Vl
  (Td.fr 3 (List.length l) c fun i =>
  encL l (0 + i)))
  (nilT
  (Td.fr 3 (List.length l) c fun i =>
  encL l (0 + i))))
  fun i =>
  encL
  (cntL (9 : Int)
  (listT Vl
  (Td.fr 3 (List.length l) c fun i =>
  encL l (0 + i)))
  inn (IntKind.wrap IntKind.i64 pv))
  (0 + i)),
  Ta.cell
  (Td.fr 3 (List.length l) c fun i =>
  encL l (0 + i))])
  (need
  (sameVs
  (listT Vl
  (Td.fr 3
  (List.length
  (cntL (9 : Int)
  (listT Vl
  (Td.fr 3 (List.length l) c fun i =>
  encL l (0 + i)))
  inn (IntKind.wrap IntKind.i64 pv)))
  (cntC
  (listT Vl
  (Td.fr 3 (List.length l) c fun i =>
  encL l (0 + i)))
  (nilT
  (Td.fr 3 (List.length l) c fun i =>
  encL l (0 + i))))
  fun i =>
  encL
  (cntL (9 : Int)
  (listT Vl
  (Td.fr 3 (List.length l) c fun i =>
  encL l (0 + i)))
  inn (IntKind.wrap IntKind.i64 pv))
  (0 + i)))
  (listT Vl
  (Td.fr 3 (List.length l) c fun i =>
  encL l (0 + i))))
  True))))))))))))))))))))))
  (need
  (true &&
  Nat.ble
  (0 +
  List.length
  (cntL kind
  [Vl.mk (1 : Int)
  (bif true then (0 : Int) else bif true then IntKind.wrap IntKind.i64 cv else (0 : Int)) 0,
  Vl.mk (2 : Int)
  (bif false then (0 : Int) else bif true then IntKind.wrap IntKind.i64 cv else (0 : Int))
  0,
  Vl.mk (1 : Int)
  (bif false then (0 : Int) else bif false then IntKind.wrap IntKind.i64 cv else (0 : Int))
  0]
  inn (IntKind.wrap IntKind.i64 pv)))
  (List.length
  (cntL kind
  [Vl.mk (1 : Int) (bif true then (0 : Int) else bif true then IntKind.wrap IntKind.i64 cv else (0 : Int))
  0,
  Vl.mk (2 : Int)
  (bif false then (0 : Int) else bif true then IntKind.wrap IntKind.i64 cv else (0 : Int)) 0,
  Vl.mk (1 : Int)
  (bif false then (0 : Int) else bif false then IntKind.wrap IntKind.i64 cv else (0 : Int)) 0]
  inn (IntKind.wrap IntKind.i64 pv))))
  (need
  (true &&
  Nat.ble
  (0 +
  List.length
  (cntL kind
  [Vl.mk (1 : Int)
  (bif true then (0 : Int) else bif true then IntKind.wrap IntKind.i64 cv else (0 : Int))
  0,
  Vl.mk (2 : Int)
  (bif false then (0 : Int) else bif true then IntKind.wrap IntKind.i64 cv else (0 : Int))
  0,
  Vl.mk (1 : Int)
  (bif false then (0 : Int) else bif false then IntKind.wrap IntKind.i64 cv else (0 : Int))
  0]
  inn (IntKind.wrap IntKind.i64 pv)))
  (List.length
  (cntL kind
  [Vl.mk (1 : Int)
  (bif true then (0 : Int) else bif true then IntKind.wrap IntKind.i64 cv else (0 : Int)) 0,
  Vl.mk (2 : Int)
  (bif false then (0 : Int) else bif true then IntKind.wrap IntKind.i64 cv else (0 : Int))
  0,
  Vl.mk (1 : Int)
  (bif false then (0 : Int) else bif false then IntKind.wrap IntKind.i64 cv else (0 : Int))
  0]
  inn (IntKind.wrap IntKind.i64 pv))))
  (need
  (ok2 Vl Vl (fun x x_1 x_2 x_3 => true)
  [Ta.cell
  (Td.fr 3
  (List.length
  (cntL kind
  [Vl.mk (1 : Int)
  (bif true then (0 : Int) else bif true then IntKind.wrap IntKind.i64 cv else (0 : Int))
  0,
  Vl.mk (2 : Int)
  (bif false then (0 : Int) else bif true then IntKind.wrap IntKind.i64 cv else (0 : Int))
  0,
  Vl.mk (1 : Int)
  (bif false then (0 : Int) else bif false then IntKind.wrap IntKind.i64 cv else (0 : Int))
  0]
  inn (IntKind.wrap IntKind.i64 pv)))
  (cntC
  [Vl.mk (1 : Int)
  (bif true then (0 : Int) else bif true then IntKind.wrap IntKind.i64 cv else (0 : Int))
  0,
  Vl.mk (2 : Int)
  (bif false then (0 : Int) else bif true then IntKind.wrap IntKind.i64 cv else (0 : Int))
  0,
  Vl.mk (1 : Int)
  (bif false then (0 : Int) else bif false then IntKind.wrap IntKind.i64 cv else (0 : Int))
  0]
  (nilT
  (Td.fr 3 3 0
  (selT 3 3
  [Td.sc (Value.int IntKind.i64 (1 : Int)), Td.sc (Value.int IntKind.i64 (0 : Int)),
  Td.sc (Value.float FloatKind.f64 0), Td.sc (Value.int IntKind.i64 (2 : Int)),
  Td.sc (Value.int IntKind.i64 (IntKind.wrap IntKind.i64 cv)),
  Td.sc (Value.float FloatKind.f64 0), Td.sc (Value.int IntKind.i64 (1 : Int)),
  Td.sc (Value.int IntKind.i64 (0 : Int)), Td.sc (Value.float FloatKind.f64 0)]))))
  fun i =>
  encL
  (cntL kind
  [Vl.mk (1 : Int)
  (bif true then (0 : Int) else bif true then IntKind.wrap IntKind.i64 cv else (0 : Int))
  0,
  Vl.mk (2 : Int)
  (bif false then (0 : Int) else bif true then IntKind.wrap IntKind.i64 cv else (0 : Int))
  0,
  Vl.mk (1 : Int)
  (bif false then (0 : Int) else bif false then IntKind.wrap IntKind.i64 cv else (0 : Int))
  0]
  inn (IntKind.wrap IntKind.i64 pv))
  (0 + i)),
  Ta.cell
  (Td.fr 3
  (List.length
  (cntL kind
  [Vl.mk (1 : Int)
  (bif true then (0 : Int) else bif true then IntKind.wrap IntKind.i64 cv else (0 : Int))
  0,
  Vl.mk (2 : Int)
  (bif false then (0 : Int) else bif true then IntKind.wrap IntKind.i64 cv else (0 : Int))
  0,
  Vl.mk (1 : Int)
  (bif false then (0 : Int) else bif false then IntKind.wrap IntKind.i64 cv else (0 : Int))
  0]
  inn (IntKind.wrap IntKind.i64 pv)))
  (cntC
  [Vl.mk (1 : Int)
  (bif true then (0 : Int) else bif true then IntKind.wrap IntKind.i64 cv else (0 : Int))
  0,
  Vl.mk (2 : Int)
  (bif false then (0 : Int) else bif true then IntKind.wrap IntKind.i64 cv else (0 : Int))
  0,
  Vl.mk (1 : Int)
  (bif false then (0 : Int) else bif false then IntKind.wrap IntKind.i64 cv else (0 : Int))
  0]
  (nilT
  (Td.fr 3 3 0
  (selT 3 3
  [Td.sc (Value.int IntKind.i64 (1 : Int)), Td.sc (Value.int IntKind.i64 (0 : Int)),
  Td.sc (Value.float FloatKind.f64 0), Td.sc (Value.int IntKind.i64 (2 : Int)),
  Td.sc (Value.int IntKind.i64 (IntKind.wrap IntKind.i64 cv)),
  Td.sc (Value.float FloatKind.f64 0), Td.sc (Value.int IntKind.i64 (1 : Int)),
  Td.sc (Value.int IntKind.i64 (0 : Int)), Td.sc (Value.float FloatKind.f64 0)]))))
  fun i =>
  encL
  (cntL kind
  [Vl.mk (1 : Int)
  (bif true then (0 : Int) else bif true then IntKind.wrap IntKind.i64 cv else (0 : Int))
  0,
  Vl.mk (2 : Int)
  (bif false then (0 : Int) else bif true then IntKind.wrap IntKind.i64 cv else (0 : Int))
  0,
  Vl.mk (1 : Int)
  (bif false then (0 : Int) else bif false then IntKind.wrap IntKind.i64 cv else (0 : Int))
  0]
  inn (IntKind.wrap IntKind.i64 pv))
  (0 + i))])
  (br
  (!sameVs
  (listT Vl
  (Td.fr 3
  (List.length
  (cntL kind
  [Vl.mk (1 : Int)
  (bif true then (0 : Int) else bif true then IntKind.wrap IntKind.i64 cv else (0 : Int))
  0,
  Vl.mk (2 : Int)
  (bif false then (0 : Int) else bif true then IntKind.wrap IntKind.i64 cv else (0 : Int))
  0,
  Vl.mk (1 : Int)
  (bif false then (0 : Int) else bif false then IntKind.wrap IntKind.i64 cv else (0 : Int))
  0]
  inn (IntKind.wrap IntKind.i64 pv)))
  (cntC
  [Vl.mk (1 : Int)
  (bif true then (0 : Int) else bif true then IntKind.wrap IntKind.i64 cv else (0 : Int))
  0,
  Vl.mk (2 : Int)
  (bif false then (0 : Int) else bif true then IntKind.wrap IntKind.i64 cv else (0 : Int))
  0,
  Vl.mk (1 : Int)
  (bif false then (0 : Int) else bif false then IntKind.wrap IntKind.i64 cv else (0 : Int))
  0]
  (nilT
  (Td.fr 3 3 0
  (selT 3 3
  [Td.sc (Value.int IntKind.i64 (1 : Int)), Td.sc (Value.int IntKind.i64 (0 : Int)),
  Td.sc (Value.float FloatKind.f64 0), Td.sc (Value.int IntKind.i64 (2 : Int)),
  Td.sc (Value.int IntKind.i64 (IntKind.wrap IntKind.i64 cv)),
  Td.sc (Value.float FloatKind.f64 0), Td.sc (Value.int IntKind.i64 (1 : Int)),
  Td.sc (Value.int IntKind.i64 (0 : Int)),
  Td.sc (Value.float FloatKind.f64 0)]))))
  fun i =>
  encL
  (cntL kind
  [Vl.mk (1 : Int)
  (bif true then (0 : Int) else bif true then IntKind.wrap IntKind.i64 cv else (0 : Int))
  0,
  Vl.mk (2 : Int)
  (bif false then (0 : Int) else bif true then IntKind.wrap IntKind.i64 cv else (0 : Int))
  0,
  Vl.mk (1 : Int)
  (bif false then (0 : Int) else bif false then IntKind.wrap IntKind.i64 cv else (0 : Int))
  0]
  inn (IntKind.wrap IntKind.i64 pv))
  (0 + i)))
  (listT Vl
  (Td.fr 3
  (List.length
  (cntL kind
  [Vl.mk (1 : Int)
  (bif true then (0 : Int) else bif true then IntKind.wrap IntKind.i64 cv else (0 : Int))
  0,
  Vl.mk (2 : Int)
  (bif false then (0 : Int) else bif true then IntKind.wrap IntKind.i64 cv else (0 : Int))
  0,
  Vl.mk (1 : Int)
  (bif false then (0 : Int) else bif false then IntKind.wrap IntKind.i64 cv else (0 : Int))
  0]
  inn (IntKind.wrap IntKind.i64 pv)))
  (cntC
  [Vl.mk (1 : Int)
  (bif true then (0 : Int) else bif true then IntKind.wrap IntKind.i64 cv else (0 : Int))
  0,
  Vl.mk (2 : Int)
  (bif false then (0 : Int) else bif true then IntKind.wrap IntKind.i64 cv else (0 : Int))
  0,
  Vl.mk (1 : Int)
  (bif false then (0 : Int) else bif false then IntKind.wrap IntKind.i64 cv else (0 : Int))
  0]
  (nilT
  (Td.fr 3 3 0
  (selT 3 3
  [Td.sc (Value.int IntKind.i64 (1 : Int)), Td.sc (Value.int IntKind.i64 (0 : Int)),
  Td.sc (Value.float FloatKind.f64 0), Td.sc (Value.int IntKind.i64 (2 : Int)),
  Td.sc (Value.int IntKind.i64 (IntKind.wrap IntKind.i64 cv)),
  Td.sc (Value.float FloatKind.f64 0), Td.sc (Value.int IntKind.i64 (1 : Int)),
  Td.sc (Value.int IntKind.i64 (0 : Int)),
  Td.sc (Value.float FloatKind.f64 0)]))))
  fun i =>
  encL
  (cntL kind
  [Vl.mk (1 : Int)
  (bif true then (0 : Int) else bif true then IntKind.wrap IntKind.i64 cv else (0 : Int))
  0,
  Vl.mk (2 : Int)
  (bif false then (0 : Int) else bif true then IntKind.wrap IntKind.i64 cv else (0 : Int))
  0,
  Vl.mk (1 : Int)
  (bif false then (0 : Int) else bif false then IntKind.wrap IntKind.i64 cv else (0 : Int))
  0]
  inn (IntKind.wrap IntKind.i64 pv))
  (0 + i))))
  False
  (need
  (true &&
  Nat.ble
  (0 +
  List.length
  (cntL kind [Vl.mk (1 : Int) (0 : Int) 0, Vl.mk (1 : Int) (0 : Int) 0] inn
  (IntKind.wrap IntKind.i64 pv)))
  (List.length
  (cntL kind [Vl.mk (1 : Int) (0 : Int) 0, Vl.mk (1 : Int) (0 : Int) 0] inn
  (IntKind.wrap IntKind.i64 pv))))
  (need
  (true &&
  Nat.ble
  (0 +
  List.length
  (cntL kind [Vl.mk (1 : Int) (0 : Int) 0, Vl.mk (1 : Int) (0 : Int) 0] inn
  (IntKind.wrap IntKind.i64 pv)))
  (List.length
  (cntL kind [Vl.mk (1 : Int) (0 : Int) 0, Vl.mk (1 : Int) (0 : Int) 0] inn
  (IntKind.wrap IntKind.i64 pv))))
  (need
  (ok2 Vl Vl (fun x x_1 x_2 x_3 => true)
  [Ta.cell
  (Td.fr 3
  (List.length
  (cntL kind [Vl.mk (1 : Int) (0 : Int) 0, Vl.mk (1 : Int) (0 : Int) 0] inn
  (IntKind.wrap IntKind.i64 pv)))
  0 fun i =>
  encL
  (cntL kind [Vl.mk (1 : Int) (0 : Int) 0, Vl.mk (1 : Int) (0 : Int) 0] inn
  (IntKind.wrap IntKind.i64 pv))
  (0 + i)),
  Ta.cell
  (Td.fr 3
  (List.length
  (cntL kind [Vl.mk (1 : Int) (0 : Int) 0, Vl.mk (1 : Int) (0 : Int) 0] inn
  (IntKind.wrap IntKind.i64 pv)))
  0 fun i =>
  encL
  (cntL kind [Vl.mk (1 : Int) (0 : Int) 0, Vl.mk (1 : Int) (0 : Int) 0] inn
  (IntKind.wrap IntKind.i64 pv))
  (0 + i))])
  (br
  (!sameVs
  (listT Vl
  (Td.fr 3
  (List.length
  (cntL kind [Vl.mk (1 : Int) (0 : Int) 0, Vl.mk (1 : Int) (0 : Int) 0]
  inn (IntKind.wrap IntKind.i64 pv)))
  0 fun i =>
  encL
  (cntL kind [Vl.mk (1 : Int) (0 : Int) 0, Vl.mk (1 : Int) (0 : Int) 0]
  inn (IntKind.wrap IntKind.i64 pv))
  (0 + i)))
  (listT Vl
  (Td.fr 3
  (List.length
  (cntL kind [Vl.mk (1 : Int) (0 : Int) 0, Vl.mk (1 : Int) (0 : Int) 0]
  inn (IntKind.wrap IntKind.i64 pv)))
  0 fun i =>
  encL
  (cntL kind [Vl.mk (1 : Int) (0 : Int) 0, Vl.mk (1 : Int) (0 : Int) 0]
  inn (IntKind.wrap IntKind.i64 pv))
  (0 + i))))
  False
  (br
  (!sameVs
  [Vl.mk (1 : Int)
  (one
  (decide
  ((bif
  inn &&
  decide
  ((bif false then (0 : Int)
  else bif false then IntKind.wrap IntKind.i64 cv else (0 : Int)) =
  (0 : Int)) then
  if
  (32767 : Int) <
  IntKind.wrap IntKind.i64
  ((bif false then (0 : Int)
  else bif true then IntKind.wrap IntKind.i64 cv else (0 : Int)) +
  (1 : Int)) then
  (32767 : Int)
  else
  IntKind.wrap IntKind.i64
  ((bif false then (0 : Int)
  else bif true then IntKind.wrap IntKind.i64 cv else (0 : Int)) +
  (1 : Int))
  else
  bif false then (0 : Int)
  else bif true then IntKind.wrap IntKind.i64 cv else (0 : Int)) ≥
  IntKind.wrap IntKind.i64 pv)))
  0,
  Vl.mk (2 : Int)
  (bif
  inn &&
  decide
  ((bif false then (0 : Int)
  else bif false then IntKind.wrap IntKind.i64 cv else (0 : Int)) =
  (0 : Int)) then
  if
  (32767 : Int) <
  IntKind.wrap IntKind.i64
  ((bif false then (0 : Int)
  else bif true then IntKind.wrap IntKind.i64 cv else (0 : Int)) +
  (1 : Int)) then
  (32767 : Int)
  else
  IntKind.wrap IntKind.i64
  ((bif false then (0 : Int)
  else bif true then IntKind.wrap IntKind.i64 cv else (0 : Int)) +
  (1 : Int))
  else
  bif false then (0 : Int)
  else bif true then IntKind.wrap IntKind.i64 cv else (0 : Int))
  0,
  Vl.mk (1 : Int) (one inn) 0]
  [Vl.mk (1 : Int)
  (one
  (decide
  ((bif
  inn &&
  decide
  ((bif false then (0 : Int)
  else bif false then IntKind.wrap IntKind.i64 cv else (0 : Int)) =
  (0 : Int)) then
  if
  (32767 : Int) <
  IntKind.wrap IntKind.i64
  ((bif false then (0 : Int)
  else bif true then IntKind.wrap IntKind.i64 cv else (0 : Int)) +
  (1 : Int)) then
  (32767 : Int)
  else
  IntKind.wrap IntKind.i64
  ((bif false then (0 : Int)
  else bif true then IntKind.wrap IntKind.i64 cv else (0 : Int)) +
  (1 : Int))
  else
  bif false then (0 : Int)
  else bif true then IntKind.wrap IntKind.i64 cv else (0 : Int)) ≥
  IntKind.wrap IntKind.i64 pv)))
  0,
  Vl.mk (2 : Int)
  (bif
  inn &&
  decide
  ((bif false then (0 : Int)
  else bif false then IntKind.wrap IntKind.i64 cv else (0 : Int)) =
  (0 : Int)) then
  if
  (32767 : Int) <
  IntKind.wrap IntKind.i64
  ((bif false then (0 : Int)
  else bif true then IntKind.wrap IntKind.i64 cv else (0 : Int)) +
  (1 : Int)) then
  (32767 : Int)
  else
  IntKind.wrap IntKind.i64
  ((bif false then (0 : Int)
  else bif true then IntKind.wrap IntKind.i64 cv else (0 : Int)) +
  (1 : Int))
  else
  bif false then (0 : Int)
  else bif true then IntKind.wrap IntKind.i64 cv else (0 : Int))
  0,
  Vl.mk (1 : Int) (one inn) 0])
  False
  (br
  (!sameVs
  [Vl.mk (1 : Int)
  (one
  (decide
  ((bif
  inn &&
  decide
  ((bif false then (0 : Int)
  else bif false then IntKind.wrap IntKind.i64 cv else (0 : Int)) =
  (0 : Int)) then
  bif
  decide
  ((bif false then (0 : Int)
  else bif true then IntKind.wrap IntKind.i64 cv else (0 : Int)) ≤
  (0 : Int)) then
  IntKind.wrap IntKind.i64 pv
  else
  IntKind.wrap IntKind.i64
  ((bif false then (0 : Int)
  else bif true then IntKind.wrap IntKind.i64 cv else (0 : Int)) -
  (1 : Int))
  else
  bif false then (0 : Int)
  else bif true then IntKind.wrap IntKind.i64 cv else (0 : Int)) ≤
  (0 : Int))))
  0,
  Vl.mk (2 : Int)
  (bif
  inn &&
  decide
  ((bif false then (0 : Int)
  else bif false then IntKind.wrap IntKind.i64 cv else (0 : Int)) =
  (0 : Int)) then
  bif
  decide
  ((bif false then (0 : Int)
  else bif true then IntKind.wrap IntKind.i64 cv else (0 : Int)) ≤
  (0 : Int)) then
  IntKind.wrap IntKind.i64 pv
  else
  IntKind.wrap IntKind.i64
  ((bif false then (0 : Int)
  else bif true then IntKind.wrap IntKind.i64 cv else (0 : Int)) -
  (1 : Int))
  else
  bif false then (0 : Int)
  else bif true then IntKind.wrap IntKind.i64 cv else (0 : Int))
  0,
  Vl.mk (1 : Int) (one inn) 0]
  [Vl.mk (1 : Int)
  (one
  (decide
  ((bif
  inn &&
  decide
  ((bif false then (0 : Int)
  else bif false then IntKind.wrap IntKind.i64 cv else (0 : Int)) =
  (0 : Int)) then
  bif
  decide
  ((bif false then (0 : Int)
  else bif true then IntKind.wrap IntKind.i64 cv else (0 : Int)) ≤
  (0 : Int)) then
  IntKind.wrap IntKind.i64 pv
  else
  IntKind.wrap IntKind.i64
  ((bif false then (0 : Int)
  else bif true then IntKind.wrap IntKind.i64 cv else (0 : Int)) -
  (1 : Int))
  else
  bif false then (0 : Int)
  else bif true then IntKind.wrap IntKind.i64 cv else (0 : Int)) ≤
  (0 : Int))))
  0,
  Vl.mk (2 : Int)
  (bif
  inn &&
  decide
  ((bif false then (0 : Int)
  else bif false then IntKind.wrap IntKind.i64 cv else (0 : Int)) =
  (0 : Int)) then
  bif
  decide
  ((bif false then (0 : Int)
  else bif true then IntKind.wrap IntKind.i64 cv else (0 : Int)) ≤
  (0 : Int)) then
  IntKind.wrap IntKind.i64 pv
  else
  IntKind.wrap IntKind.i64
  ((bif false then (0 : Int)
  else bif true then IntKind.wrap IntKind.i64 cv else (0 : Int)) -
  (1 : Int))
  else
  bif false then (0 : Int)
  else bif true then IntKind.wrap IntKind.i64 cv else (0 : Int))
  0,
  Vl.mk (1 : Int) (one inn) 0])
  False
  (br
  (!sameVs
  [Vl.mk (1 : Int)
  (bif true then (0 : Int)
  else bif true then IntKind.wrap IntKind.i64 cv else (0 : Int))
  0,
  Vl.mk (2 : Int)
  (bif false then (0 : Int)
  else bif true then IntKind.wrap IntKind.i64 cv else (0 : Int))
  0,
  Vl.mk (1 : Int)
  (bif false then (0 : Int)
  else bif false then IntKind.wrap IntKind.i64 cv else (0 : Int))
  0]
  [Vl.mk (1 : Int)
  (bif true then (0 : Int)
  else bif true then IntKind.wrap IntKind.i64 cv else (0 : Int))
  0,
  Vl.mk (2 : Int)
  (bif false then (0 : Int)
  else bif true then IntKind.wrap IntKind.i64 cv else (0 : Int))
  0,
  Vl.mk (1 : Int)
  (bif false then (0 : Int)
  else bif false then IntKind.wrap IntKind.i64 cv else (0 : Int))
  0])
  False
  (br
  (!sameVs
  [Vl.mk (1 : Int) (one (inn && true)) 0, Vl.mk (1 : Int) (one inn) 0]
  [Vl.mk (1 : Int) (one (inn && true)) 0, Vl.mk (1 : Int) (one inn) 0])
  False
  (br
  (!sameVs
  [Vl.mk (1 : Int)
  (bif true then (0 : Int)
  else bif true then IntKind.wrap IntKind.i64 cv else (0 : Int))
  0,
  Vl.mk (2 : Int)
  (bif false then (0 : Int)
  else bif true then IntKind.wrap IntKind.i64 cv else (0 : Int))
  0,
  Vl.mk (1 : Int)
  (bif false then (0 : Int)
  else bif false then IntKind.wrap IntKind.i64 cv else (0 : Int))
  0]
  [Vl.mk (1 : Int)
  (bif true then (0 : Int)
  else bif true then IntKind.wrap IntKind.i64 cv else (0 : Int))
  0,
  Vl.mk (2 : Int)
  (bif false then (0 : Int)
  else bif true then IntKind.wrap IntKind.i64 cv else (0 : Int))
  0,
  Vl.mk (1 : Int)
  (bif false then (0 : Int)
  else bif false then IntKind.wrap IntKind.i64 cv else (0 : Int))
  0])
  False
  (br
  (!sameVs
  [Vl.mk (1 : Int) (one (!inn && false)) 0,
  Vl.mk (1 : Int) (one inn) 0]
  [Vl.mk (1 : Int) (one (!inn && false)) 0,
  Vl.mk (1 : Int) (one inn) 0])
  False
  (br
  (!sameVs
  [Vl.mk (1 : Int)
  (bif true then (0 : Int)
  else bif true then IntKind.wrap IntKind.i64 cv else (0 : Int))
  0,
  Vl.mk (2 : Int)
  (bif false then (0 : Int)
  else bif true then IntKind.wrap IntKind.i64 cv else (0 : Int))
  0,
  Vl.mk (1 : Int)
  (bif false then (0 : Int)
  else bif false then IntKind.wrap IntKind.i64 cv else (0 : Int))
  0]
  [Vl.mk (1 : Int)
  (bif true then (0 : Int)
  else bif true then IntKind.wrap IntKind.i64 cv else (0 : Int))
  0,
  Vl.mk (2 : Int)
  (bif false then (0 : Int)
  else bif true then IntKind.wrap IntKind.i64 cv else (0 : Int))
  0,
  Vl.mk (1 : Int)
  (bif false then (0 : Int)
  else bif false then IntKind.wrap IntKind.i64 cv else (0 : Int))
  0])
  False
  (br (Int.ofNat (List.length l) == (3 : Int)) True
  (need (true && Nat.ble (0 + List.length l) (List.length l))
  (need
  (okStep (cntOk true)
  [Ta.cell (Td.sc (Value.int IntKind.i64 (9 : Int))),
  Ta.cell
  (Td.fr 3 (List.length l) c fun i => encL l (0 + i)),
  Ta.cell (Td.sc (Value.bool inn)),
  Ta.cell (Td.sc (Value.int IntKind.i64 (IntKind.wrap IntKind.i64 pv)))])
  (need
  (true &&
  Nat.ble
  (0 +
  List.length
  (cntL (9 : Int)
  (listT Vl
  (Td.fr 3 (List.length l) c fun i =>
  encL l (0 + i)))
  inn (IntKind.wrap IntKind.i64 pv)))
  (List.length
  (cntL (9 : Int)
  (listT Vl
  (Td.fr 3 (List.length l) c fun i =>
  encL l (0 + i)))
  inn (IntKind.wrap IntKind.i64 pv))))
  (need (true && Nat.ble (0 + List.length l) (List.length l))
  (need
  (ok2 Vl Vl (fun x x_1 x_2 x_3 => true)
  [Ta.cell
  (Td.fr 3
  (List.length
  (cntL (9 : Int)
  (listT Vl
  (Td.fr 3 (List.length l) c fun i =>
  encL l (0 + i)))
  inn (IntKind.wrap IntKind.i64 pv)))
  (cntC
  (listT Vl
  (Td.fr 3 (List.length l) c fun i =>
  encL l (0 + i)))
  (nilT
  (Td.fr 3 (List.length l) c fun i =>
  encL l (0 + i))))
  fun i =>
  encL
  (cntL (9 : Int)
  (listT Vl
  (Td.fr 3 (List.length l) c fun i =>
  encL l (0 + i)))
  inn (IntKind.wrap IntKind.i64 pv))
  (0 + i)),
  Ta.cell
  (Td.fr 3 (List.length l) c fun i =>
  encL l (0 + i))])
  (need
  (sameVs
  (listT Vl
  (Td.fr 3
  (List.length
  (cntL (9 : Int)
  (listT Vl
  (Td.fr 3 (List.length l) c fun i =>
  encL l (0 + i)))
  inn (IntKind.wrap IntKind.i64 pv)))
  (cntC
  (listT Vl
  (Td.fr 3 (List.length l) c fun i =>
  encL l (0 + i)))
  (nilT
  (Td.fr 3 (List.length l) c fun i =>
  encL l (0 + i))))
  fun i =>
  encL
  (cntL (9 : Int)
  (listT Vl
  (Td.fr 3 (List.length l) c fun i =>
  encL l (0 + i)))
  inn (IntKind.wrap IntKind.i64 pv))
  (0 + i)))
  (listT Vl
  (Td.fr 3 (List.length l) c fun i =>
  encL l (0 + i))))
  True))))))))))))))))))))))))) := by kernel_rfl
end Go.Proofs.Ytcdbodpmcnebiaa.Ev
