/-
  What has to hold: printed by the evaluator.
-/
import Derived.Test.YtiodkfbmcnfooaaFrPu
set_option linter.unusedVariables false
set_option maxRecDepth 1000000
namespace Go.Proofs.Ytiodkfbmcnfooaa.Ev
open Go Go.Proofs
theorem vc_take (l : List U8) (c : Nat) (β : Bs) (K : AE → List (Option AObj) → Prop) : lawE Try.prog toldP 100 20 β (fun _ => 8) (cnOf 1 fun _ => []) (fun _ _ => False) 10 [.slice (some ⟨0, 0, some 0⟩) l.length c] (mkS [some (rowO .look l)]) (outK K) =
(  br (decide (Int.ofNat (List.length l) < (2 : Int)))
  (K
  (AE.returned
  (Value.tuple
  (Array.mk
  [Value.slice none 0 0, Value.int IntKind.i64 (0 : Int), Value.int IntKind.i64 (11 : Int)])))
  [some (AObj.row Rk.look 1 0 (List.length l) (encL l)),
  some (AObj.cells [Value.slice none 0 0] true 0),
  some (AObj.cells [Value.int IntKind.i64 (0 : Int)] true 0),
  some (AObj.cells [Value.int IntKind.i64 (11 : Int)] true 0)])
  (need (Nat.ble 2 (List.length l))
  (need (true && Nat.blt 0 (List.length l))
  (need (true && Nat.blt 1 (List.length l))
  (br
  (decide
  (IntKind.wrap IntKind.i64
  (Int.ofNat
  (BitVec.toNat
  (BitVec.ofInt 64
  (IntKind.wrap IntKind.i64
  (IntKind.wrap IntKind.i64 (U8.v (List.getD l 0 Enc.dflt)) * (256 : Int))) |||
  BitVec.ofInt 64 (IntKind.wrap IntKind.i64 (U8.v (List.getD l 1 Enc.dflt)))))) >
  (200 : Int)))
  (K
  (AE.returned
  (Value.tuple
  (Array.mk
  [Value.slice none 0 0, Value.int IntKind.i64 (0 : Int),
  Value.int IntKind.i64 (2 : Int)])))
  [some (AObj.row Rk.look 1 0 (List.length l) (encL l)),
  some (AObj.cells [Value.slice none 0 0] true 0),
  some (AObj.cells [Value.int IntKind.i64 (0 : Int)] true 0),
  some (AObj.cells [Value.int IntKind.i64 (2 : Int)] true 0)])
  (br
  (decide
  (Int.ofNat (List.length l) <
  IntKind.wrap IntKind.i64
  (IntKind.wrap IntKind.i64
  ((2 : Int) +
  IntKind.wrap IntKind.i64
  (Int.ofNat
  (BitVec.toNat
  (BitVec.ofInt 64
  (IntKind.wrap IntKind.i64
  (IntKind.wrap IntKind.i64 (U8.v (List.getD l 0 Enc.dflt)) *
  (256 : Int))) |||
  BitVec.ofInt 64
  (IntKind.wrap IntKind.i64 (U8.v (List.getD l 1 Enc.dflt))))))) +
  (4 : Int))))
  (K
  (AE.returned
  (Value.tuple
  (Array.mk
  [Value.slice none 0 0, Value.int IntKind.i64 (0 : Int),
  Value.int IntKind.i64 (11 : Int)])))
  [some (AObj.row Rk.look 1 0 (List.length l) (encL l)),
  some (AObj.cells [Value.slice none 0 0] true 0),
  some (AObj.cells [Value.int IntKind.i64 (0 : Int)] true 0),
  some (AObj.cells [Value.int IntKind.i64 (11 : Int)] true 0)])
  (need
  (decide
  ((0 : Int) ≤
  IntKind.wrap IntKind.i64
  (IntKind.wrap IntKind.i64
  ((2 : Int) +
  IntKind.wrap IntKind.i64
  (Int.ofNat
  (BitVec.toNat
  (BitVec.ofInt 64
  (IntKind.wrap IntKind.i64
  (IntKind.wrap IntKind.i64 (U8.v (List.getD l 0 Enc.dflt)) *
  (256 : Int))) |||
  BitVec.ofInt 64
  (IntKind.wrap IntKind.i64 (U8.v (List.getD l 1 Enc.dflt))))))) +
  (4 : Int))))
  (need
  (Nat.ble
  (Int.toNat
  (IntKind.wrap IntKind.i64
  (IntKind.wrap IntKind.i64
  ((2 : Int) +
  IntKind.wrap IntKind.i64
  (Int.ofNat
  (BitVec.toNat
  (BitVec.ofInt 64
  (IntKind.wrap IntKind.i64
  (IntKind.wrap IntKind.i64 (U8.v (List.getD l 0 Enc.dflt)) *
  (256 : Int))) |||
  BitVec.ofInt 64
  (IntKind.wrap IntKind.i64 (U8.v (List.getD l 1 Enc.dflt))))))) +
  (4 : Int))))
  (List.length l))
  (need
  (decide
  ((0 : Int) ≤
  IntKind.wrap IntKind.i64
  (IntKind.wrap IntKind.i64
  (IntKind.wrap IntKind.i64
  ((2 : Int) +
  IntKind.wrap IntKind.i64
  (Int.ofNat
  (BitVec.toNat
  (BitVec.ofInt 64
  (IntKind.wrap IntKind.i64
  (IntKind.wrap IntKind.i64 (U8.v (List.getD l 0 Enc.dflt)) *
  (256 : Int))) |||
  BitVec.ofInt 64
  (IntKind.wrap IntKind.i64 (U8.v (List.getD l 1 Enc.dflt))))))) +
  (4 : Int)) -
  (4 : Int))))
  (need
  (Nat.ble
  (Int.toNat
  (IntKind.wrap IntKind.i64
  (IntKind.wrap IntKind.i64
  (IntKind.wrap IntKind.i64
  ((2 : Int) +
  IntKind.wrap IntKind.i64
  (Int.ofNat
  (BitVec.toNat
  (BitVec.ofInt 64
  (IntKind.wrap IntKind.i64
  (IntKind.wrap IntKind.i64 (U8.v (List.getD l 0 Enc.dflt)) *
  (256 : Int))) |||
  BitVec.ofInt 64
  (IntKind.wrap IntKind.i64 (U8.v (List.getD l 1 Enc.dflt))))))) +
  (4 : Int)) -
  (4 : Int))))
  (Int.toNat
  (IntKind.wrap IntKind.i64
  (IntKind.wrap IntKind.i64
  ((2 : Int) +
  IntKind.wrap IntKind.i64
  (Int.ofNat
  (BitVec.toNat
  (BitVec.ofInt 64
  (IntKind.wrap IntKind.i64
  (IntKind.wrap IntKind.i64 (U8.v (List.getD l 0 Enc.dflt)) *
  (256 : Int))) |||
  BitVec.ofInt 64
  (IntKind.wrap IntKind.i64 (U8.v (List.getD l 1 Enc.dflt))))))) +
  (4 : Int))) -
  0))
  (need
  (true &&
  Nat.ble
  (0 +
  (Int.toNat
  (IntKind.wrap IntKind.i64
  (IntKind.wrap IntKind.i64
  (IntKind.wrap IntKind.i64
  ((2 : Int) +
  IntKind.wrap IntKind.i64
  (Int.ofNat
  (BitVec.toNat
  (BitVec.ofInt 64
  (IntKind.wrap IntKind.i64
  (IntKind.wrap IntKind.i64
  (U8.v (List.getD l 0 Enc.dflt)) *
  (256 : Int))) |||
  BitVec.ofInt 64
  (IntKind.wrap IntKind.i64
  (U8.v (List.getD l 1 Enc.dflt))))))) +
  (4 : Int)) -
  (4 : Int))) -
  0))
  (List.length l))
  (need
  (ok1 U8 (fun l x => List.all l (okA U8))
  [Ta.cell
  (Td.fr 1
  (Int.toNat
  (IntKind.wrap IntKind.i64
  (IntKind.wrap IntKind.i64
  (IntKind.wrap IntKind.i64
  ((2 : Int) +
  IntKind.wrap IntKind.i64
  (Int.ofNat
  (BitVec.toNat
  (BitVec.ofInt 64
  (IntKind.wrap IntKind.i64
  (IntKind.wrap IntKind.i64
  (U8.v (List.getD l 0 Enc.dflt)) *
  (256 : Int))) |||
  BitVec.ofInt 64
  (IntKind.wrap IntKind.i64
  (U8.v (List.getD l 1 Enc.dflt))))))) +
  (4 : Int)) -
  (4 : Int))) -
  0)
  (bif
  Nat.beq
  (Int.toNat
  (IntKind.wrap IntKind.i64
  (IntKind.wrap IntKind.i64
  ((2 : Int) +
  IntKind.wrap IntKind.i64
  (Int.ofNat
  (BitVec.toNat
  (BitVec.ofInt 64
  (IntKind.wrap IntKind.i64
  (IntKind.wrap IntKind.i64
  (U8.v (List.getD l 0 Enc.dflt)) *
  (256 : Int))) |||
  BitVec.ofInt 64
  (IntKind.wrap IntKind.i64
  (U8.v (List.getD l 1 Enc.dflt))))))) +
  (4 : Int))) -
  0)
  0 then
  bif Nat.beq (List.length l) 0 then c else 0
  else 0)
  fun i => encL l (0 + i))])
  (need
  (decide
  ((0 : Int) ≤
  IntKind.wrap IntKind.i64
  (IntKind.wrap IntKind.i64
  (IntKind.wrap IntKind.i64
  ((2 : Int) +
  IntKind.wrap IntKind.i64
  (Int.ofNat
  (BitVec.toNat
  (BitVec.ofInt 64
  (IntKind.wrap IntKind.i64
  (IntKind.wrap IntKind.i64
  (U8.v (List.getD l 0 Enc.dflt)) *
  (256 : Int))) |||
  BitVec.ofInt 64
  (IntKind.wrap IntKind.i64
  (U8.v (List.getD l 1 Enc.dflt))))))) +
  (4 : Int)) -
  (4 : Int))))
  (need
  (Nat.ble
  (Int.toNat
  (IntKind.wrap IntKind.i64
  (IntKind.wrap IntKind.i64
  (IntKind.wrap IntKind.i64
  ((2 : Int) +
  IntKind.wrap IntKind.i64
  (Int.ofNat
  (BitVec.toNat
  (BitVec.ofInt 64
  (IntKind.wrap IntKind.i64
  (IntKind.wrap IntKind.i64
  (U8.v (List.getD l 0 Enc.dflt)) *
  (256 : Int))) |||
  BitVec.ofInt 64
  (IntKind.wrap IntKind.i64
  (U8.v (List.getD l 1 Enc.dflt))))))) +
  (4 : Int)) -
  (4 : Int))))
  (Int.toNat
  (IntKind.wrap IntKind.i64
  (IntKind.wrap IntKind.i64
  ((2 : Int) +
  IntKind.wrap IntKind.i64
  (Int.ofNat
  (BitVec.toNat
  (BitVec.ofInt 64
  (IntKind.wrap IntKind.i64
  (IntKind.wrap IntKind.i64
  (U8.v (List.getD l 0 Enc.dflt)) *
  (256 : Int))) |||
  BitVec.ofInt 64
  (IntKind.wrap IntKind.i64
  (U8.v (List.getD l 1 Enc.dflt))))))) +
  (4 : Int))) -
  0))
  (need
  (Nat.ble 0
  (0 +
  Int.toNat
  (IntKind.wrap IntKind.i64
  (IntKind.wrap IntKind.i64
  (IntKind.wrap IntKind.i64
  ((2 : Int) +
  IntKind.wrap IntKind.i64
  (Int.ofNat
  (BitVec.toNat
  (BitVec.ofInt 64
  (IntKind.wrap IntKind.i64
  (IntKind.wrap IntKind.i64
  (U8.v (List.getD l 0 Enc.dflt)) *
  (256 : Int))) |||
  BitVec.ofInt 64
  (IntKind.wrap IntKind.i64
  (U8.v (List.getD l 1 Enc.dflt))))))) +
  (4 : Int)) -
  (4 : Int)))) &&
  Nat.ble
  (0 +
  Int.toNat
  (IntKind.wrap IntKind.i64
  (IntKind.wrap IntKind.i64
  (IntKind.wrap IntKind.i64
  ((2 : Int) +
  IntKind.wrap IntKind.i64
  (Int.ofNat
  (BitVec.toNat
  (BitVec.ofInt 64
  (IntKind.wrap IntKind.i64
  (IntKind.wrap IntKind.i64
  (U8.v (List.getD l 0 Enc.dflt)) *
  (256 : Int))) |||
  BitVec.ofInt 64
  (IntKind.wrap IntKind.i64
  (U8.v (List.getD l 1 Enc.dflt))))))) +
  (4 : Int)) -
  (4 : Int))) +
  (Int.toNat
  (IntKind.wrap IntKind.i64
  (IntKind.wrap IntKind.i64
  ((2 : Int) +
  IntKind.wrap IntKind.i64
  (Int.ofNat
  (BitVec.toNat
  (BitVec.ofInt 64
  (IntKind.wrap IntKind.i64
  (IntKind.wrap IntKind.i64
  (U8.v (List.getD l 0 Enc.dflt)) *
  (256 : Int))) |||
  BitVec.ofInt 64
  (IntKind.wrap IntKind.i64
  (U8.v (List.getD l 1 Enc.dflt))))))) +
  (4 : Int))) -
  0 -
  Int.toNat
  (IntKind.wrap IntKind.i64
  (IntKind.wrap IntKind.i64
  (IntKind.wrap IntKind.i64
  ((2 : Int) +
  IntKind.wrap IntKind.i64
  (Int.ofNat
  (BitVec.toNat
  (BitVec.ofInt 64
  (IntKind.wrap IntKind.i64
  (IntKind.wrap IntKind.i64
  (U8.v (List.getD l 0 Enc.dflt)) *
  (256 : Int))) |||
  BitVec.ofInt 64
  (IntKind.wrap IntKind.i64
  (U8.v (List.getD l 1 Enc.dflt))))))) +
  (4 : Int)) -
  (4 : Int)))))
  (List.length l))
  (need
  (ok2 U8 U8 (fun x x_1 x_2 x_3 => true)
  [Ta.cell
  (Td.fr 1 (1 + 1 + 1 + 1) 0
  (selT 1 (1 + 1 + 1 + 1)
  [Td.sc
  (Value.int IntKind.u8
  (IntKind.wrap IntKind.u8
  (Int.fdiv
  (Int.ofNat
  (refSum
  (natsU
  (listT U8
  (Td.fr 1
  (Int.toNat
  (IntKind.wrap IntKind.i64
  (IntKind.wrap IntKind.i64
  (IntKind.wrap IntKind.i64
  ((2 : Int) +
  IntKind.wrap IntKind.i64
  (Int.ofNat
  (BitVec.toNat
  (BitVec.ofInt 64
  (IntKind.wrap IntKind.i64
  (IntKind.wrap IntKind.i64
  (U8.v
  (List.getD l 0
  Enc.dflt)) *
  (256 : Int))) |||
  BitVec.ofInt 64
  (IntKind.wrap IntKind.i64
  (U8.v
  (List.getD l 1
  Enc.dflt))))))) +
  (4 : Int)) -
  (4 : Int))) -
  0)
  (bif
  Nat.beq
  (Int.toNat
  (IntKind.wrap IntKind.i64
  (IntKind.wrap IntKind.i64
  ((2 : Int) +
  IntKind.wrap IntKind.i64
  (Int.ofNat
  (BitVec.toNat
  (BitVec.ofInt 64
  (IntKind.wrap IntKind.i64
  (IntKind.wrap IntKind.i64
  (U8.v
  (List.getD l 0
  Enc.dflt)) *
  (256 : Int))) |||
  BitVec.ofInt 64
  (IntKind.wrap IntKind.i64
  (U8.v
  (List.getD l 1
  Enc.dflt))))))) +
  (4 : Int))) -
  0)
  0 then
  bif Nat.beq (List.length l) 0 then c
  else 0
  else 0)
  fun i => encL l (0 + i))))))
  (16777216 : Int)))),
  Td.sc
  (Value.int IntKind.u8
  (IntKind.wrap IntKind.u8
  (Int.fdiv
  (Int.ofNat
  (refSum
  (natsU
  (listT U8
  (Td.fr 1
  (Int.toNat
  (IntKind.wrap IntKind.i64
  (IntKind.wrap IntKind.i64
  (IntKind.wrap IntKind.i64
  ((2 : Int) +
  IntKind.wrap IntKind.i64
  (Int.ofNat
  (BitVec.toNat
  (BitVec.ofInt 64
  (IntKind.wrap IntKind.i64
  (IntKind.wrap IntKind.i64
  (U8.v
  (List.getD l 0
  Enc.dflt)) *
  (256 : Int))) |||
  BitVec.ofInt 64
  (IntKind.wrap IntKind.i64
  (U8.v
  (List.getD l 1
  Enc.dflt))))))) +
  (4 : Int)) -
  (4 : Int))) -
  0)
  (bif
  Nat.beq
  (Int.toNat
  (IntKind.wrap IntKind.i64
  (IntKind.wrap IntKind.i64
  ((2 : Int) +
  IntKind.wrap IntKind.i64
  (Int.ofNat
  (BitVec.toNat
  (BitVec.ofInt 64
  (IntKind.wrap IntKind.i64
  (IntKind.wrap IntKind.i64
  (U8.v
  (List.getD l 0
  Enc.dflt)) *
  (256 : Int))) |||
  BitVec.ofInt 64
  (IntKind.wrap IntKind.i64
  (U8.v
  (List.getD l 1
  Enc.dflt))))))) +
  (4 : Int))) -
  0)
  0 then
  bif Nat.beq (List.length l) 0 then c
  else 0
  else 0)
  fun i => encL l (0 + i))))))
  (65536 : Int)))),
  Td.sc
  (Value.int IntKind.u8
  (IntKind.wrap IntKind.u8
  (Int.fdiv
  (Int.ofNat
  (refSum
  (natsU
  (listT U8
  (Td.fr 1
  (Int.toNat
  (IntKind.wrap IntKind.i64
  (IntKind.wrap IntKind.i64
  (IntKind.wrap IntKind.i64
  ((2 : Int) +
  IntKind.wrap IntKind.i64
  (Int.ofNat
  (BitVec.toNat
  (BitVec.ofInt 64
  (IntKind.wrap IntKind.i64
  (IntKind.wrap IntKind.i64
  (U8.v
  (List.getD l 0
  Enc.dflt)) *
  (256 : Int))) |||
  BitVec.ofInt 64
  (IntKind.wrap IntKind.i64
  (U8.v
  (List.getD l 1
  Enc.dflt))))))) +
  (4 : Int)) -
  (4 : Int))) -
  0)
  (bif
  Nat.beq
  (Int.toNat
  (IntKind.wrap IntKind.i64
  (IntKind.wrap IntKind.i64
  ((2 : Int) +
  IntKind.wrap IntKind.i64
  (Int.ofNat
  (BitVec.toNat
  (BitVec.ofInt 64
  (IntKind.wrap IntKind.i64
  (IntKind.wrap IntKind.i64
  (U8.v
  (List.getD l 0
  Enc.dflt)) *
  (256 : Int))) |||
  BitVec.ofInt 64
  (IntKind.wrap IntKind.i64
  (U8.v
  (List.getD l 1
  Enc.dflt))))))) +
  (4 : Int))) -
  0)
  0 then
  bif Nat.beq (List.length l) 0 then c
  else 0
  else 0)
  fun i => encL l (0 + i))))))
  (256 : Int)))),
  Td.sc
  (Value.int IntKind.u8
  (IntKind.wrap IntKind.u8
  (Int.fdiv
  (Int.ofNat
  (refSum
  (natsU
  (listT U8
  (Td.fr 1
  (Int.toNat
  (IntKind.wrap IntKind.i64
  (IntKind.wrap IntKind.i64
  (IntKind.wrap IntKind.i64
  ((2 : Int) +
  IntKind.wrap IntKind.i64
  (Int.ofNat
  (BitVec.toNat
  (BitVec.ofInt 64
  (IntKind.wrap IntKind.i64
  (IntKind.wrap IntKind.i64
  (U8.v
  (List.getD l 0
  Enc.dflt)) *
  (256 : Int))) |||
  BitVec.ofInt 64
  (IntKind.wrap IntKind.i64
  (U8.v
  (List.getD l 1
  Enc.dflt))))))) +
  (4 : Int)) -
  (4 : Int))) -
  0)
  (bif
  Nat.beq
  (Int.toNat
  (IntKind.wrap IntKind.i64
  (IntKind.wrap IntKind.i64
  ((2 : Int) +
  IntKind.wrap IntKind.i64
  (Int.ofNat
  (BitVec.toNat
  (BitVec.ofInt 64
  (IntKind.wrap IntKind.i64
  (IntKind.wrap IntKind.i64
  (U8.v
  (List.getD l 0
  Enc.dflt)) *
  (256 : Int))) |||
  BitVec.ofInt 64
  (IntKind.wrap IntKind.i64
  (U8.v
  (List.getD l 1
  Enc.dflt))))))) +
  (4 : Int))) -
  0)
  0 then
  bif Nat.beq (List.length l) 0 then c
  else 0
  else 0)
  fun i => encL l (0 + i))))))
  (1 : Int))))])),
  Ta.cell
  (Td.fr 1
  (Int.toNat
  (IntKind.wrap IntKind.i64
  (IntKind.wrap IntKind.i64
  ((2 : Int) +
  IntKind.wrap IntKind.i64
  (Int.ofNat
  (BitVec.toNat
  (BitVec.ofInt 64
  (IntKind.wrap IntKind.i64
  (IntKind.wrap IntKind.i64
  (U8.v (List.getD l 0 Enc.dflt)) *
  (256 : Int))) |||
  BitVec.ofInt 64
  (IntKind.wrap IntKind.i64
  (U8.v (List.getD l 1 Enc.dflt))))))) +
  (4 : Int))) -
  0 -
  Int.toNat
  (IntKind.wrap IntKind.i64
  (IntKind.wrap IntKind.i64
  (IntKind.wrap IntKind.i64
  ((2 : Int) +
  IntKind.wrap IntKind.i64
  (Int.ofNat
  (BitVec.toNat
  (BitVec.ofInt 64
  (IntKind.wrap IntKind.i64
  (IntKind.wrap IntKind.i64
  (U8.v (List.getD l 0 Enc.dflt)) *
  (256 : Int))) |||
  BitVec.ofInt 64
  (IntKind.wrap IntKind.i64
  (U8.v (List.getD l 1 Enc.dflt))))))) +
  (4 : Int)) -
  (4 : Int))))
  (bif
  Nat.beq
  (Int.toNat
  (IntKind.wrap IntKind.i64
  (IntKind.wrap IntKind.i64
  ((2 : Int) +
  IntKind.wrap IntKind.i64
  (Int.ofNat
  (BitVec.toNat
  (BitVec.ofInt 64
  (IntKind.wrap IntKind.i64
  (IntKind.wrap IntKind.i64
  (U8.v (List.getD l 0 Enc.dflt)) *
  (256 : Int))) |||
  BitVec.ofInt 64
  (IntKind.wrap IntKind.i64
  (U8.v (List.getD l 1 Enc.dflt))))))) +
  (4 : Int))) -
  0)
  0 then
  bif Nat.beq (List.length l) 0 then c else 0
  else 0)
  fun i =>
  encL l
  (0 +
  Int.toNat
  (IntKind.wrap IntKind.i64
  (IntKind.wrap IntKind.i64
  (IntKind.wrap IntKind.i64
  ((2 : Int) +
  IntKind.wrap IntKind.i64
  (Int.ofNat
  (BitVec.toNat
  (BitVec.ofInt 64
  (IntKind.wrap IntKind.i64
  (IntKind.wrap IntKind.i64
  (U8.v (List.getD l 0 Enc.dflt)) *
  (256 : Int))) |||
  BitVec.ofInt 64
  (IntKind.wrap IntKind.i64
  (U8.v (List.getD l 1 Enc.dflt))))))) +
  (4 : Int)) -
  (4 : Int))) +
  i))])
  (br
  (!sameU
  [U8.mk
  (bif true then
  IntKind.wrap IntKind.u8
  (Int.fdiv
  (Int.ofNat
  (refSum
  (natsU
  (listT U8
  (Td.fr 1
  (Int.toNat
  (IntKind.wrap IntKind.i64
  (IntKind.wrap IntKind.i64
  (IntKind.wrap IntKind.i64
  ((2 : Int) +
  IntKind.wrap IntKind.i64
  (Int.ofNat
  (BitVec.toNat
  (BitVec.ofInt 64
  (IntKind.wrap IntKind.i64
  (IntKind.wrap IntKind.i64
  (U8.v
  (List.getD l 0
  Enc.dflt)) *
  (256 : Int))) |||
  BitVec.ofInt 64
  (IntKind.wrap IntKind.i64
  (U8.v
  (List.getD l 1
  Enc.dflt))))))) +
  (4 : Int)) -
  (4 : Int))) -
  0)
  (bif
  Nat.beq
  (Int.toNat
  (IntKind.wrap IntKind.i64
  (IntKind.wrap IntKind.i64
  ((2 : Int) +
  IntKind.wrap IntKind.i64
  (Int.ofNat
  (BitVec.toNat
  (BitVec.ofInt 64
  (IntKind.wrap IntKind.i64
  (IntKind.wrap IntKind.i64
  (U8.v
  (List.getD l 0
  Enc.dflt)) *
  (256 : Int))) |||
  BitVec.ofInt 64
  (IntKind.wrap IntKind.i64
  (U8.v
  (List.getD l 1
  Enc.dflt))))))) +
  (4 : Int))) -
  0)
  0 then
  bif Nat.beq (List.length l) 0 then c else 0
  else 0)
  fun i => encL l (0 + i))))))
  (16777216 : Int))
  else
  bif true then
  IntKind.wrap IntKind.u8
  (Int.fdiv
  (Int.ofNat
  (refSum
  (natsU
  (listT U8
  (Td.fr 1
  (Int.toNat
  (IntKind.wrap IntKind.i64
  (IntKind.wrap IntKind.i64
  (IntKind.wrap IntKind.i64
  ((2 : Int) +
  IntKind.wrap IntKind.i64
  (Int.ofNat
  (BitVec.toNat
  (BitVec.ofInt 64
  (IntKind.wrap IntKind.i64
  (IntKind.wrap IntKind.i64
  (U8.v
  (List.getD l 0
  Enc.dflt)) *
  (256 : Int))) |||
  BitVec.ofInt 64
  (IntKind.wrap IntKind.i64
  (U8.v
  (List.getD l 1
  Enc.dflt))))))) +
  (4 : Int)) -
  (4 : Int))) -
  0)
  (bif
  Nat.beq
  (Int.toNat
  (IntKind.wrap IntKind.i64
  (IntKind.wrap IntKind.i64
  ((2 : Int) +
  IntKind.wrap IntKind.i64
  (Int.ofNat
  (BitVec.toNat
  (BitVec.ofInt 64
  (IntKind.wrap IntKind.i64
  (IntKind.wrap IntKind.i64
  (U8.v
  (List.getD l 0
  Enc.dflt)) *
  (256 : Int))) |||
  BitVec.ofInt 64
  (IntKind.wrap IntKind.i64
  (U8.v
  (List.getD l 1
  Enc.dflt))))))) +
  (4 : Int))) -
  0)
  0 then
  bif Nat.beq (List.length l) 0 then c
  else 0
  else 0)
  fun i => encL l (0 + i))))))
  (65536 : Int))
  else
  bif true then
  IntKind.wrap IntKind.u8
  (Int.fdiv
  (Int.ofNat
  (refSum
  (natsU
  (listT U8
  (Td.fr 1
  (Int.toNat
  (IntKind.wrap IntKind.i64
  (IntKind.wrap IntKind.i64
  (IntKind.wrap IntKind.i64
  ((2 : Int) +
  IntKind.wrap IntKind.i64
  (Int.ofNat
  (BitVec.toNat
  (BitVec.ofInt 64
  (IntKind.wrap IntKind.i64
  (IntKind.wrap IntKind.i64
  (U8.v
  (List.getD l 0
  Enc.dflt)) *
  (256 : Int))) |||
  BitVec.ofInt 64
  (IntKind.wrap IntKind.i64
  (U8.v
  (List.getD l 1
  Enc.dflt))))))) +
  (4 : Int)) -
  (4 : Int))) -
  0)
  (bif
  Nat.beq
  (Int.toNat
  (IntKind.wrap IntKind.i64
  (IntKind.wrap IntKind.i64
  ((2 : Int) +
  IntKind.wrap IntKind.i64
  (Int.ofNat
  (BitVec.toNat
  (BitVec.ofInt 64
  (IntKind.wrap IntKind.i64
  (IntKind.wrap IntKind.i64
  (U8.v
  (List.getD l 0
  Enc.dflt)) *
  (256 : Int))) |||
  BitVec.ofInt 64
  (IntKind.wrap IntKind.i64
  (U8.v
  (List.getD l 1
  Enc.dflt))))))) +
  (4 : Int))) -
  0)
  0 then
  bif Nat.beq (List.length l) 0 then c
  else 0
  else 0)
  fun i => encL l (0 + i))))))
  (256 : Int))
  else
  IntKind.wrap IntKind.u8
  (Int.fdiv
  (Int.ofNat
  (refSum
  (natsU
  (listT U8
  (Td.fr 1
  (Int.toNat
  (IntKind.wrap IntKind.i64
  (IntKind.wrap IntKind.i64
  (IntKind.wrap IntKind.i64
  ((2 : Int) +
  IntKind.wrap IntKind.i64
  (Int.ofNat
  (BitVec.toNat
  (BitVec.ofInt 64
  (IntKind.wrap IntKind.i64
  (IntKind.wrap IntKind.i64
  (U8.v
  (List.getD l 0
  Enc.dflt)) *
  (256 : Int))) |||
  BitVec.ofInt 64
  (IntKind.wrap IntKind.i64
  (U8.v
  (List.getD l 1
  Enc.dflt))))))) +
  (4 : Int)) -
  (4 : Int))) -
  0)
  (bif
  Nat.beq
  (Int.toNat
  (IntKind.wrap IntKind.i64
  (IntKind.wrap IntKind.i64
  ((2 : Int) +
  IntKind.wrap IntKind.i64
  (Int.ofNat
  (BitVec.toNat
  (BitVec.ofInt 64
  (IntKind.wrap IntKind.i64
  (IntKind.wrap IntKind.i64
  (U8.v
  (List.getD l 0
  Enc.dflt)) *
  (256 : Int))) |||
  BitVec.ofInt 64
  (IntKind.wrap IntKind.i64
  (U8.v
  (List.getD l 1
  Enc.dflt))))))) +
  (4 : Int))) -
  0)
  0 then
  bif Nat.beq (List.length l) 0 then c
  else 0
  else 0)
  fun i => encL l (0 + i))))))
  (1 : Int))),
  U8.mk
  (bif false then
  IntKind.wrap IntKind.u8
  (Int.fdiv
  (Int.ofNat
  (refSum
  (natsU
  (listT U8
  (Td.fr 1
  (Int.toNat
  (IntKind.wrap IntKind.i64
  (IntKind.wrap IntKind.i64
  (IntKind.wrap IntKind.i64
  ((2 : Int) +
  IntKind.wrap IntKind.i64
  (Int.ofNat
  (BitVec.toNat
  (BitVec.ofInt 64
  (IntKind.wrap IntKind.i64
  (IntKind.wrap IntKind.i64
  (U8.v
  (List.getD l 0
  Enc.dflt)) *
  (256 : Int))) |||
  BitVec.ofInt 64
  (IntKind.wrap IntKind.i64
  (U8.v
  (List.getD l 1
  Enc.dflt))))))) +
  (4 : Int)) -
  (4 : Int))) -
  0)
  (bif
  Nat.beq
  (Int.toNat
  (IntKind.wrap IntKind.i64
  (IntKind.wrap IntKind.i64
  ((2 : Int) +
  IntKind.wrap IntKind.i64
  (Int.ofNat
  (BitVec.toNat
  (BitVec.ofInt 64
  (IntKind.wrap IntKind.i64
  (IntKind.wrap IntKind.i64
  (U8.v
  (List.getD l 0
  Enc.dflt)) *
  (256 : Int))) |||
  BitVec.ofInt 64
  (IntKind.wrap IntKind.i64
  (U8.v
  (List.getD l 1
  Enc.dflt))))))) +
  (4 : Int))) -
  0)
  0 then
  bif Nat.beq (List.length l) 0 then c else 0
  else 0)
  fun i => encL l (0 + i))))))
  (16777216 : Int))
  else
  bif true then
  IntKind.wrap IntKind.u8
  (Int.fdiv
  (Int.ofNat
  (refSum
  (natsU
  (listT U8
  (Td.fr 1
  (Int.toNat
  (IntKind.wrap IntKind.i64
  (IntKind.wrap IntKind.i64
  (IntKind.wrap IntKind.i64
  ((2 : Int) +
  IntKind.wrap IntKind.i64
  (Int.ofNat
  (BitVec.toNat
  (BitVec.ofInt 64
  (IntKind.wrap IntKind.i64
  (IntKind.wrap IntKind.i64
  (U8.v
  (List.getD l 0
  Enc.dflt)) *
  (256 : Int))) |||
  BitVec.ofInt 64
  (IntKind.wrap IntKind.i64
  (U8.v
  (List.getD l 1
  Enc.dflt))))))) +
  (4 : Int)) -
  (4 : Int))) -
  0)
  (bif
  Nat.beq
  (Int.toNat
  (IntKind.wrap IntKind.i64
  (IntKind.wrap IntKind.i64
  ((2 : Int) +
  IntKind.wrap IntKind.i64
  (Int.ofNat
  (BitVec.toNat
  (BitVec.ofInt 64
  (IntKind.wrap IntKind.i64
  (IntKind.wrap IntKind.i64
  (U8.v
  (List.getD l 0
  Enc.dflt)) *
  (256 : Int))) |||
  BitVec.ofInt 64
  (IntKind.wrap IntKind.i64
  (U8.v
  (List.getD l 1
  Enc.dflt))))))) +
  (4 : Int))) -
  0)
  0 then
  bif Nat.beq (List.length l) 0 then c
  else 0
  else 0)
  fun i => encL l (0 + i))))))
  (65536 : Int))
  else
  bif true then
  IntKind.wrap IntKind.u8
  (Int.fdiv
  (Int.ofNat
  (refSum
  (natsU
  (listT U8
  (Td.fr 1
  (Int.toNat
  (IntKind.wrap IntKind.i64
  (IntKind.wrap IntKind.i64
  (IntKind.wrap IntKind.i64
  ((2 : Int) +
  IntKind.wrap IntKind.i64
  (Int.ofNat
  (BitVec.toNat
  (BitVec.ofInt 64
  (IntKind.wrap IntKind.i64
  (IntKind.wrap IntKind.i64
  (U8.v
  (List.getD l 0
  Enc.dflt)) *
  (256 : Int))) |||
  BitVec.ofInt 64
  (IntKind.wrap IntKind.i64
  (U8.v
  (List.getD l 1
  Enc.dflt))))))) +
  (4 : Int)) -
  (4 : Int))) -
  0)
  (bif
  Nat.beq
  (Int.toNat
  (IntKind.wrap IntKind.i64
  (IntKind.wrap IntKind.i64
  ((2 : Int) +
  IntKind.wrap IntKind.i64
  (Int.ofNat
  (BitVec.toNat
  (BitVec.ofInt 64
  (IntKind.wrap IntKind.i64
  (IntKind.wrap IntKind.i64
  (U8.v
  (List.getD l 0
  Enc.dflt)) *
  (256 : Int))) |||
  BitVec.ofInt 64
  (IntKind.wrap IntKind.i64
  (U8.v
  (List.getD l 1
  Enc.dflt))))))) +
  (4 : Int))) -
  0)
  0 then
  bif Nat.beq (List.length l) 0 then c
  else 0
  else 0)
  fun i => encL l (0 + i))))))
  (256 : Int))
  else
  IntKind.wrap IntKind.u8
  (Int.fdiv
  (Int.ofNat
  (refSum
  (natsU
  (listT U8
  (Td.fr 1
  (Int.toNat
  (IntKind.wrap IntKind.i64
  (IntKind.wrap IntKind.i64
  (IntKind.wrap IntKind.i64
  ((2 : Int) +
  IntKind.wrap IntKind.i64
  (Int.ofNat
  (BitVec.toNat
  (BitVec.ofInt 64
  (IntKind.wrap IntKind.i64
  (IntKind.wrap IntKind.i64
  (U8.v
  (List.getD l 0
  Enc.dflt)) *
  (256 : Int))) |||
  BitVec.ofInt 64
  (IntKind.wrap IntKind.i64
  (U8.v
  (List.getD l 1
  Enc.dflt))))))) +
  (4 : Int)) -
  (4 : Int))) -
  0)
  (bif
  Nat.beq
  (Int.toNat
  (IntKind.wrap IntKind.i64
  (IntKind.wrap IntKind.i64
  ((2 : Int) +
  IntKind.wrap IntKind.i64
  (Int.ofNat
  (BitVec.toNat
  (BitVec.ofInt 64
  (IntKind.wrap IntKind.i64
  (IntKind.wrap IntKind.i64
  (U8.v
  (List.getD l 0
  Enc.dflt)) *
  (256 : Int))) |||
  BitVec.ofInt 64
  (IntKind.wrap IntKind.i64
  (U8.v
  (List.getD l 1
  Enc.dflt))))))) +
  (4 : Int))) -
  0)
  0 then
  bif Nat.beq (List.length l) 0 then c
  else 0
  else 0)
  fun i => encL l (0 + i))))))
  (1 : Int))),
  U8.mk
  (bif false then
  IntKind.wrap IntKind.u8
  (Int.fdiv
  (Int.ofNat
  (refSum
  (natsU
  (listT U8
  (Td.fr 1
  (Int.toNat
  (IntKind.wrap IntKind.i64
  (IntKind.wrap IntKind.i64
  (IntKind.wrap IntKind.i64
  ((2 : Int) +
  IntKind.wrap IntKind.i64
  (Int.ofNat
  (BitVec.toNat
  (BitVec.ofInt 64
  (IntKind.wrap IntKind.i64
  (IntKind.wrap IntKind.i64
  (U8.v
  (List.getD l 0
  Enc.dflt)) *
  (256 : Int))) |||
  BitVec.ofInt 64
  (IntKind.wrap IntKind.i64
  (U8.v
  (List.getD l 1
  Enc.dflt))))))) +
  (4 : Int)) -
  (4 : Int))) -
  0)
  (bif
  Nat.beq
  (Int.toNat
  (IntKind.wrap IntKind.i64
  (IntKind.wrap IntKind.i64
  ((2 : Int) +
  IntKind.wrap IntKind.i64
  (Int.ofNat
  (BitVec.toNat
  (BitVec.ofInt 64
  (IntKind.wrap IntKind.i64
  (IntKind.wrap IntKind.i64
  (U8.v
  (List.getD l 0
  Enc.dflt)) *
  (256 : Int))) |||
  BitVec.ofInt 64
  (IntKind.wrap IntKind.i64
  (U8.v
  (List.getD l 1
  Enc.dflt))))))) +
  (4 : Int))) -
  0)
  0 then
  bif Nat.beq (List.length l) 0 then c else 0
  else 0)
  fun i => encL l (0 + i))))))
  (16777216 : Int))
  else
  bif false then
  IntKind.wrap IntKind.u8
  (Int.fdiv
  (Int.ofNat
  (refSum
  (natsU
  (listT U8
  (Td.fr 1
  (Int.toNat
  (IntKind.wrap IntKind.i64
  (IntKind.wrap IntKind.i64
  (IntKind.wrap IntKind.i64
  ((2 : Int) +
  IntKind.wrap IntKind.i64
  (Int.ofNat
  (BitVec.toNat
  (BitVec.ofInt 64
  (IntKind.wrap IntKind.i64
  (IntKind.wrap IntKind.i64
  (U8.v
  (List.getD l 0
  Enc.dflt)) *
  (256 : Int))) |||
  BitVec.ofInt 64
  (IntKind.wrap IntKind.i64
  (U8.v
  (List.getD l 1
  Enc.dflt))))))) +
  (4 : Int)) -
  (4 : Int))) -
  0)
  (bif
  Nat.beq
  (Int.toNat
  (IntKind.wrap IntKind.i64
  (IntKind.wrap IntKind.i64
  ((2 : Int) +
  IntKind.wrap IntKind.i64
  (Int.ofNat
  (BitVec.toNat
  (BitVec.ofInt 64
  (IntKind.wrap IntKind.i64
  (IntKind.wrap IntKind.i64
  (U8.v
  (List.getD l 0
  Enc.dflt)) *
  (256 : Int))) |||
  BitVec.ofInt 64
  (IntKind.wrap IntKind.i64
  (U8.v
  (List.getD l 1
  Enc.dflt))))))) +
  (4 : Int))) -
  0)
  0 then
  bif Nat.beq (List.length l) 0 then c
  else 0
  else 0)
  fun i => encL l (0 + i))))))
  (65536 : Int))
  else
  bif true then
  IntKind.wrap IntKind.u8
  (Int.fdiv
  (Int.ofNat
  (refSum
  (natsU
  (listT U8
  (Td.fr 1
  (Int.toNat
  (IntKind.wrap IntKind.i64
  (IntKind.wrap IntKind.i64
  (IntKind.wrap IntKind.i64
  ((2 : Int) +
  IntKind.wrap IntKind.i64
  (Int.ofNat
  (BitVec.toNat
  (BitVec.ofInt 64
  (IntKind.wrap IntKind.i64
  (IntKind.wrap IntKind.i64
  (U8.v
  (List.getD l 0
  Enc.dflt)) *
  (256 : Int))) |||
  BitVec.ofInt 64
  (IntKind.wrap IntKind.i64
  (U8.v
  (List.getD l 1
  Enc.dflt))))))) +
  (4 : Int)) -
  (4 : Int))) -
  0)
  (bif
  Nat.beq
  (Int.toNat
  (IntKind.wrap IntKind.i64
  (IntKind.wrap IntKind.i64
  ((2 : Int) +
  IntKind.wrap IntKind.i64
  (Int.ofNat
  (BitVec.toNat
  (BitVec.ofInt 64
  (IntKind.wrap IntKind.i64
  (IntKind.wrap IntKind.i64
  (U8.v
  (List.getD l 0
  Enc.dflt)) *
  (256 : Int))) |||
  BitVec.ofInt 64
  (IntKind.wrap IntKind.i64
  (U8.v
  (List.getD l 1
  Enc.dflt))))))) +
  (4 : Int))) -
  0)
  0 then
  bif Nat.beq (List.length l) 0 then c
  else 0
  else 0)
  fun i => encL l (0 + i))))))
  (256 : Int))
  else
  IntKind.wrap IntKind.u8
  (Int.fdiv
  (Int.ofNat
  (refSum
  (natsU
  (listT U8
  (Td.fr 1
  (Int.toNat
  (IntKind.wrap IntKind.i64
  (IntKind.wrap IntKind.i64
  (IntKind.wrap IntKind.i64
  ((2 : Int) +
  IntKind.wrap IntKind.i64
  (Int.ofNat
  (BitVec.toNat
  (BitVec.ofInt 64
  (IntKind.wrap IntKind.i64
  (IntKind.wrap IntKind.i64
  (U8.v
  (List.getD l 0
  Enc.dflt)) *
  (256 : Int))) |||
  BitVec.ofInt 64
  (IntKind.wrap IntKind.i64
  (U8.v
  (List.getD l 1
  Enc.dflt))))))) +
  (4 : Int)) -
  (4 : Int))) -
  0)
  (bif
  Nat.beq
  (Int.toNat
  (IntKind.wrap IntKind.i64
  (IntKind.wrap IntKind.i64
  ((2 : Int) +
  IntKind.wrap IntKind.i64
  (Int.ofNat
  (BitVec.toNat
  (BitVec.ofInt 64
  (IntKind.wrap IntKind.i64
  (IntKind.wrap IntKind.i64
  (U8.v
  (List.getD l 0
  Enc.dflt)) *
  (256 : Int))) |||
  BitVec.ofInt 64
  (IntKind.wrap IntKind.i64
  (U8.v
  (List.getD l 1
  Enc.dflt))))))) +
  (4 : Int))) -
  0)
  0 then
  bif Nat.beq (List.length l) 0 then c
  else 0
  else 0)
  fun i => encL l (0 + i))))))
  (1 : Int))),
  U8.mk
  (bif false then
  IntKind.wrap IntKind.u8
  (Int.fdiv
  (Int.ofNat
  (refSum
  (natsU
  (listT U8
  (Td.fr 1
  (Int.toNat
  (IntKind.wrap IntKind.i64
  (IntKind.wrap IntKind.i64
  (IntKind.wrap IntKind.i64
  ((2 : Int) +
  IntKind.wrap IntKind.i64
  (Int.ofNat
  (BitVec.toNat
  (BitVec.ofInt 64
  (IntKind.wrap IntKind.i64
  (IntKind.wrap IntKind.i64
  (U8.v
  (List.getD l 0
  Enc.dflt)) *
  (256 : Int))) |||
  BitVec.ofInt 64
  (IntKind.wrap IntKind.i64
  (U8.v
  (List.getD l 1
  Enc.dflt))))))) +
  (4 : Int)) -
  (4 : Int))) -
  0)
  (bif
  Nat.beq
  (Int.toNat
  (IntKind.wrap IntKind.i64
  (IntKind.wrap IntKind.i64
  ((2 : Int) +
  IntKind.wrap IntKind.i64
  (Int.ofNat
  (BitVec.toNat
  (BitVec.ofInt 64
  (IntKind.wrap IntKind.i64
  (IntKind.wrap IntKind.i64
  (U8.v
  (List.getD l 0
  Enc.dflt)) *
  (256 : Int))) |||
  BitVec.ofInt 64
  (IntKind.wrap IntKind.i64
  (U8.v
  (List.getD l 1
  Enc.dflt))))))) +
  (4 : Int))) -
  0)
  0 then
  bif Nat.beq (List.length l) 0 then c else 0
  else 0)
  fun i => encL l (0 + i))))))
  (16777216 : Int))
  else
  bif false then
  IntKind.wrap IntKind.u8
  (Int.fdiv
  (Int.ofNat
  (refSum
  (natsU
  (listT U8
  (Td.fr 1
  (Int.toNat
  (IntKind.wrap IntKind.i64
  (IntKind.wrap IntKind.i64
  (IntKind.wrap IntKind.i64
  ((2 : Int) +
  IntKind.wrap IntKind.i64
  (Int.ofNat
  (BitVec.toNat
  (BitVec.ofInt 64
  (IntKind.wrap IntKind.i64
  (IntKind.wrap IntKind.i64
  (U8.v
  (List.getD l 0
  Enc.dflt)) *
  (256 : Int))) |||
  BitVec.ofInt 64
  (IntKind.wrap IntKind.i64
  (U8.v
  (List.getD l 1
  Enc.dflt))))))) +
  (4 : Int)) -
  (4 : Int))) -
  0)
  (bif
  Nat.beq
  (Int.toNat
  (IntKind.wrap IntKind.i64
  (IntKind.wrap IntKind.i64
  ((2 : Int) +
  IntKind.wrap IntKind.i64
  (Int.ofNat
  (BitVec.toNat
  (BitVec.ofInt 64
  (IntKind.wrap IntKind.i64
  (IntKind.wrap IntKind.i64
  (U8.v
  (List.getD l 0
  Enc.dflt)) *
  (256 : Int))) |||
  BitVec.ofInt 64
  (IntKind.wrap IntKind.i64
  (U8.v
  (List.getD l 1
  Enc.dflt))))))) +
  (4 : Int))) -
  0)
  0 then
  bif Nat.beq (List.length l) 0 then c
  else 0
  else 0)
  fun i => encL l (0 + i))))))
  (65536 : Int))
  else
  bif false then
  IntKind.wrap IntKind.u8
  (Int.fdiv
  (Int.ofNat
  (refSum
  (natsU
  (listT U8
  (Td.fr 1
  (Int.toNat
  (IntKind.wrap IntKind.i64
  (IntKind.wrap IntKind.i64
  (IntKind.wrap IntKind.i64
  ((2 : Int) +
  IntKind.wrap IntKind.i64
  (Int.ofNat
  (BitVec.toNat
  (BitVec.ofInt 64
  (IntKind.wrap IntKind.i64
  (IntKind.wrap IntKind.i64
  (U8.v
  (List.getD l 0
  Enc.dflt)) *
  (256 : Int))) |||
  BitVec.ofInt 64
  (IntKind.wrap IntKind.i64
  (U8.v
  (List.getD l 1
  Enc.dflt))))))) +
  (4 : Int)) -
  (4 : Int))) -
  0)
  (bif
  Nat.beq
  (Int.toNat
  (IntKind.wrap IntKind.i64
  (IntKind.wrap IntKind.i64
  ((2 : Int) +
  IntKind.wrap IntKind.i64
  (Int.ofNat
  (BitVec.toNat
  (BitVec.ofInt 64
  (IntKind.wrap IntKind.i64
  (IntKind.wrap IntKind.i64
  (U8.v
  (List.getD l 0
  Enc.dflt)) *
  (256 : Int))) |||
  BitVec.ofInt 64
  (IntKind.wrap IntKind.i64
  (U8.v
  (List.getD l 1
  Enc.dflt))))))) +
  (4 : Int))) -
  0)
  0 then
  bif Nat.beq (List.length l) 0 then c
  else 0
  else 0)
  fun i => encL l (0 + i))))))
  (256 : Int))
  else
  IntKind.wrap IntKind.u8
  (Int.fdiv
  (Int.ofNat
  (refSum
  (natsU
  (listT U8
  (Td.fr 1
  (Int.toNat
  (IntKind.wrap IntKind.i64
  (IntKind.wrap IntKind.i64
  (IntKind.wrap IntKind.i64
  ((2 : Int) +
  IntKind.wrap IntKind.i64
  (Int.ofNat
  (BitVec.toNat
  (BitVec.ofInt 64
  (IntKind.wrap IntKind.i64
  (IntKind.wrap IntKind.i64
  (U8.v
  (List.getD l 0
  Enc.dflt)) *
  (256 : Int))) |||
  BitVec.ofInt 64
  (IntKind.wrap IntKind.i64
  (U8.v
  (List.getD l 1
  Enc.dflt))))))) +
  (4 : Int)) -
  (4 : Int))) -
  0)
  (bif
  Nat.beq
  (Int.toNat
  (IntKind.wrap IntKind.i64
  (IntKind.wrap IntKind.i64
  ((2 : Int) +
  IntKind.wrap IntKind.i64
  (Int.ofNat
  (BitVec.toNat
  (BitVec.ofInt 64
  (IntKind.wrap IntKind.i64
  (IntKind.wrap IntKind.i64
  (U8.v
  (List.getD l 0
  Enc.dflt)) *
  (256 : Int))) |||
  BitVec.ofInt 64
  (IntKind.wrap IntKind.i64
  (U8.v
  (List.getD l 1
  Enc.dflt))))))) +
  (4 : Int))) -
  0)
  0 then
  bif Nat.beq (List.length l) 0 then c
  else 0
  else 0)
  fun i => encL l (0 + i))))))
  (1 : Int)))]
  (listT U8
  (Td.fr 1
  (Int.toNat
  (IntKind.wrap IntKind.i64
  (IntKind.wrap IntKind.i64
  ((2 : Int) +
  IntKind.wrap IntKind.i64
  (Int.ofNat
  (BitVec.toNat
  (BitVec.ofInt 64
  (IntKind.wrap IntKind.i64
  (IntKind.wrap IntKind.i64
  (U8.v (List.getD l 0 Enc.dflt)) *
  (256 : Int))) |||
  BitVec.ofInt 64
  (IntKind.wrap IntKind.i64
  (U8.v (List.getD l 1 Enc.dflt))))))) +
  (4 : Int))) -
  0 -
  Int.toNat
  (IntKind.wrap IntKind.i64
  (IntKind.wrap IntKind.i64
  (IntKind.wrap IntKind.i64
  ((2 : Int) +
  IntKind.wrap IntKind.i64
  (Int.ofNat
  (BitVec.toNat
  (BitVec.ofInt 64
  (IntKind.wrap IntKind.i64
  (IntKind.wrap IntKind.i64
  (U8.v (List.getD l 0 Enc.dflt)) *
  (256 : Int))) |||
  BitVec.ofInt 64
  (IntKind.wrap IntKind.i64
  (U8.v (List.getD l 1 Enc.dflt))))))) +
  (4 : Int)) -
  (4 : Int))))
  (bif
  Nat.beq
  (Int.toNat
  (IntKind.wrap IntKind.i64
  (IntKind.wrap IntKind.i64
  ((2 : Int) +
  IntKind.wrap IntKind.i64
  (Int.ofNat
  (BitVec.toNat
  (BitVec.ofInt 64
  (IntKind.wrap IntKind.i64
  (IntKind.wrap IntKind.i64
  (U8.v (List.getD l 0 Enc.dflt)) *
  (256 : Int))) |||
  BitVec.ofInt 64
  (IntKind.wrap IntKind.i64
  (U8.v (List.getD l 1 Enc.dflt))))))) +
  (4 : Int))) -
  0)
  0 then
  bif Nat.beq (List.length l) 0 then c else 0
  else 0)
  fun i =>
  encL l
  (0 +
  Int.toNat
  (IntKind.wrap IntKind.i64
  (IntKind.wrap IntKind.i64
  (IntKind.wrap IntKind.i64
  ((2 : Int) +
  IntKind.wrap IntKind.i64
  (Int.ofNat
  (BitVec.toNat
  (BitVec.ofInt 64
  (IntKind.wrap IntKind.i64
  (IntKind.wrap IntKind.i64
  (U8.v (List.getD l 0 Enc.dflt)) *
  (256 : Int))) |||
  BitVec.ofInt 64
  (IntKind.wrap IntKind.i64
  (U8.v (List.getD l 1 Enc.dflt))))))) +
  (4 : Int)) -
  (4 : Int))) +
  i))))
  (K
  (AE.returned
  (Value.tuple
  (Array.mk
  [Value.slice none 0 0, Value.int IntKind.i64 (0 : Int),
  Value.int IntKind.i64 (2 : Int)])))
  [some (AObj.row Rk.look 1 0 (List.length l) (encL l)),
  some (AObj.cells [Value.slice none 0 0] true 0),
  some (AObj.cells [Value.int IntKind.i64 (0 : Int)] true 0),
  some (AObj.cells [Value.int IntKind.i64 (2 : Int)] true 0), none,
  some
  (AObj.cells
  [Value.int IntKind.u8
  (IntKind.wrap IntKind.u8
  (Int.fdiv
  (Int.ofNat
  (refSum
  (natsU
  (listT U8
  (Td.fr 1
  (Int.toNat
  (IntKind.wrap IntKind.i64
  (IntKind.wrap IntKind.i64
  (IntKind.wrap IntKind.i64
  ((2 : Int) +
  IntKind.wrap IntKind.i64
  (Int.ofNat
  (BitVec.toNat
  (BitVec.ofInt 64
  (IntKind.wrap IntKind.i64
  (IntKind.wrap IntKind.i64
  (U8.v
  (List.getD l 0
  Enc.dflt)) *
  (256 : Int))) |||
  BitVec.ofInt 64
  (IntKind.wrap IntKind.i64
  (U8.v
  (List.getD l 1
  Enc.dflt))))))) +
  (4 : Int)) -
  (4 : Int))) -
  0)
  (bif
  Nat.beq
  (Int.toNat
  (IntKind.wrap IntKind.i64
  (IntKind.wrap IntKind.i64
  ((2 : Int) +
  IntKind.wrap IntKind.i64
  (Int.ofNat
  (BitVec.toNat
  (BitVec.ofInt 64
  (IntKind.wrap IntKind.i64
  (IntKind.wrap IntKind.i64
  (U8.v
  (List.getD l 0
  Enc.dflt)) *
  (256 : Int))) |||
  BitVec.ofInt 64
  (IntKind.wrap IntKind.i64
  (U8.v
  (List.getD l 1
  Enc.dflt))))))) +
  (4 : Int))) -
  0)
  0 then
  bif Nat.beq (List.length l) 0 then c
  else 0
  else 0)
  fun i => encL l (0 + i))))))
  (16777216 : Int)))]
  true 1),
  none,
  some
  (AObj.cells
  [Value.int IntKind.u8
  (IntKind.wrap IntKind.u8
  (Int.fdiv
  (Int.ofNat
  (refSum
  (natsU
  (listT U8
  (Td.fr 1
  (Int.toNat
  (IntKind.wrap IntKind.i64
  (IntKind.wrap IntKind.i64
  (IntKind.wrap IntKind.i64
  ((2 : Int) +
  IntKind.wrap IntKind.i64
  (Int.ofNat
  (BitVec.toNat
  (BitVec.ofInt 64
  (IntKind.wrap IntKind.i64
  (IntKind.wrap IntKind.i64
  (U8.v
  (List.getD l 0
  Enc.dflt)) *
  (256 : Int))) |||
  BitVec.ofInt 64
  (IntKind.wrap IntKind.i64
  (U8.v
  (List.getD l 1
  Enc.dflt))))))) +
  (4 : Int)) -
  (4 : Int))) -
  0)
  (bif
  Nat.beq
  (Int.toNat
  (IntKind.wrap IntKind.i64
  (IntKind.wrap IntKind.i64
  ((2 : Int) +
  IntKind.wrap IntKind.i64
  (Int.ofNat
  (BitVec.toNat
  (BitVec.ofInt 64
  (IntKind.wrap IntKind.i64
  (IntKind.wrap IntKind.i64
  (U8.v
  (List.getD l 0
  Enc.dflt)) *
  (256 : Int))) |||
  BitVec.ofInt 64
  (IntKind.wrap IntKind.i64
  (U8.v
  (List.getD l 1
  Enc.dflt))))))) +
  (4 : Int))) -
  0)
  0 then
  bif Nat.beq (List.length l) 0 then c
  else 0
  else 0)
  fun i => encL l (0 + i))))))
  (65536 : Int)))]
  true 1),
  none,
  some
  (AObj.cells
  [Value.int IntKind.u8
  (IntKind.wrap IntKind.u8
  (Int.fdiv
  (Int.ofNat
  (refSum
  (natsU
  (listT U8
  (Td.fr 1
  (Int.toNat
  (IntKind.wrap IntKind.i64
  (IntKind.wrap IntKind.i64
  (IntKind.wrap IntKind.i64
  ((2 : Int) +
  IntKind.wrap IntKind.i64
  (Int.ofNat
  (BitVec.toNat
  (BitVec.ofInt 64
  (IntKind.wrap IntKind.i64
  (IntKind.wrap IntKind.i64
  (U8.v
  (List.getD l 0
  Enc.dflt)) *
  (256 : Int))) |||
  BitVec.ofInt 64
  (IntKind.wrap IntKind.i64
  (U8.v
  (List.getD l 1
  Enc.dflt))))))) +
  (4 : Int)) -
  (4 : Int))) -
  0)
  (bif
  Nat.beq
  (Int.toNat
  (IntKind.wrap IntKind.i64
  (IntKind.wrap IntKind.i64
  ((2 : Int) +
  IntKind.wrap IntKind.i64
  (Int.ofNat
  (BitVec.toNat
  (BitVec.ofInt 64
  (IntKind.wrap IntKind.i64
  (IntKind.wrap IntKind.i64
  (U8.v
  (List.getD l 0
  Enc.dflt)) *
  (256 : Int))) |||
  BitVec.ofInt 64
  (IntKind.wrap IntKind.i64
  (U8.v
  (List.getD l 1
  Enc.dflt))))))) +
  (4 : Int))) -
  0)
  0 then
  bif Nat.beq (List.length l) 0 then c
  else 0
  else 0)
  fun i => encL l (0 + i))))))
  (256 : Int)))]
  true 1),
  none,
  some
  (AObj.cells
  [Value.int IntKind.u8
  (IntKind.wrap IntKind.u8
  (Int.fdiv
  (Int.ofNat
  (refSum
  (natsU
  (listT U8
  (Td.fr 1
  (Int.toNat
  (IntKind.wrap IntKind.i64
  (IntKind.wrap IntKind.i64
  (IntKind.wrap IntKind.i64
  ((2 : Int) +
  IntKind.wrap IntKind.i64
  (Int.ofNat
  (BitVec.toNat
  (BitVec.ofInt 64
  (IntKind.wrap IntKind.i64
  (IntKind.wrap IntKind.i64
  (U8.v
  (List.getD l 0
  Enc.dflt)) *
  (256 : Int))) |||
  BitVec.ofInt 64
  (IntKind.wrap IntKind.i64
  (U8.v
  (List.getD l 1
  Enc.dflt))))))) +
  (4 : Int)) -
  (4 : Int))) -
  0)
  (bif
  Nat.beq
  (Int.toNat
  (IntKind.wrap IntKind.i64
  (IntKind.wrap IntKind.i64
  ((2 : Int) +
  IntKind.wrap IntKind.i64
  (Int.ofNat
  (BitVec.toNat
  (BitVec.ofInt 64
  (IntKind.wrap IntKind.i64
  (IntKind.wrap IntKind.i64
  (U8.v
  (List.getD l 0
  Enc.dflt)) *
  (256 : Int))) |||
  BitVec.ofInt 64
  (IntKind.wrap IntKind.i64
  (U8.v
  (List.getD l 1
  Enc.dflt))))))) +
  (4 : Int))) -
  0)
  0 then
  bif Nat.beq (List.length l) 0 then c
  else 0
  else 0)
  fun i => encL l (0 + i))))))
  (1 : Int)))]
  true 1),
  some
  (AObj.cells
  [Value.int IntKind.u8
  (IntKind.wrap IntKind.u8
  (Int.fdiv
  (Int.ofNat
  (refSum
  (natsU
  (listT U8
  (Td.fr 1
  (Int.toNat
  (IntKind.wrap IntKind.i64
  (IntKind.wrap IntKind.i64
  (IntKind.wrap IntKind.i64
  ((2 : Int) +
  IntKind.wrap IntKind.i64
  (Int.ofNat
  (BitVec.toNat
  (BitVec.ofInt 64
  (IntKind.wrap IntKind.i64
  (IntKind.wrap IntKind.i64
  (U8.v
  (List.getD l 0
  Enc.dflt)) *
  (256 : Int))) |||
  BitVec.ofInt 64
  (IntKind.wrap IntKind.i64
  (U8.v
  (List.getD l 1
  Enc.dflt))))))) +
  (4 : Int)) -
  (4 : Int))) -
  0)
  (bif
  Nat.beq
  (Int.toNat
  (IntKind.wrap IntKind.i64
  (IntKind.wrap IntKind.i64
  ((2 : Int) +
  IntKind.wrap IntKind.i64
  (Int.ofNat
  (BitVec.toNat
  (BitVec.ofInt 64
  (IntKind.wrap IntKind.i64
  (IntKind.wrap IntKind.i64
  (U8.v
  (List.getD l 0
  Enc.dflt)) *
  (256 : Int))) |||
  BitVec.ofInt 64
  (IntKind.wrap IntKind.i64
  (U8.v
  (List.getD l 1
  Enc.dflt))))))) +
  (4 : Int))) -
  0)
  0 then
  bif Nat.beq (List.length l) 0 then c
  else 0
  else 0)
  fun i => encL l (0 + i))))))
  (16777216 : Int))),
  Value.int IntKind.u8
  (IntKind.wrap IntKind.u8
  (Int.fdiv
  (Int.ofNat
  (refSum
  (natsU
  (listT U8
  (Td.fr 1
  (Int.toNat
  (IntKind.wrap IntKind.i64
  (IntKind.wrap IntKind.i64
  (IntKind.wrap IntKind.i64
  ((2 : Int) +
  IntKind.wrap IntKind.i64
  (Int.ofNat
  (BitVec.toNat
  (BitVec.ofInt 64
  (IntKind.wrap IntKind.i64
  (IntKind.wrap IntKind.i64
  (U8.v
  (List.getD l 0
  Enc.dflt)) *
  (256 : Int))) |||
  BitVec.ofInt 64
  (IntKind.wrap IntKind.i64
  (U8.v
  (List.getD l 1
  Enc.dflt))))))) +
  (4 : Int)) -
  (4 : Int))) -
  0)
  (bif
  Nat.beq
  (Int.toNat
  (IntKind.wrap IntKind.i64
  (IntKind.wrap IntKind.i64
  ((2 : Int) +
  IntKind.wrap IntKind.i64
  (Int.ofNat
  (BitVec.toNat
  (BitVec.ofInt 64
  (IntKind.wrap IntKind.i64
  (IntKind.wrap IntKind.i64
  (U8.v
  (List.getD l 0
  Enc.dflt)) *
  (256 : Int))) |||
  BitVec.ofInt 64
  (IntKind.wrap IntKind.i64
  (U8.v
  (List.getD l 1
  Enc.dflt))))))) +
  (4 : Int))) -
  0)
  0 then
  bif Nat.beq (List.length l) 0 then c
  else 0
  else 0)
  fun i => encL l (0 + i))))))
  (65536 : Int))),
  Value.int IntKind.u8
  (IntKind.wrap IntKind.u8
  (Int.fdiv
  (Int.ofNat
  (refSum
  (natsU
  (listT U8
  (Td.fr 1
  (Int.toNat
  (IntKind.wrap IntKind.i64
  (IntKind.wrap IntKind.i64
  (IntKind.wrap IntKind.i64
  ((2 : Int) +
  IntKind.wrap IntKind.i64
  (Int.ofNat
  (BitVec.toNat
  (BitVec.ofInt 64
  (IntKind.wrap IntKind.i64
  (IntKind.wrap IntKind.i64
  (U8.v
  (List.getD l 0
  Enc.dflt)) *
  (256 : Int))) |||
  BitVec.ofInt 64
  (IntKind.wrap IntKind.i64
  (U8.v
  (List.getD l 1
  Enc.dflt))))))) +
  (4 : Int)) -
  (4 : Int))) -
  0)
  (bif
  Nat.beq
  (Int.toNat
  (IntKind.wrap IntKind.i64
  (IntKind.wrap IntKind.i64
  ((2 : Int) +
  IntKind.wrap IntKind.i64
  (Int.ofNat
  (BitVec.toNat
  (BitVec.ofInt 64
  (IntKind.wrap IntKind.i64
  (IntKind.wrap IntKind.i64
  (U8.v
  (List.getD l 0
  Enc.dflt)) *
  (256 : Int))) |||
  BitVec.ofInt 64
  (IntKind.wrap IntKind.i64
  (U8.v
  (List.getD l 1
  Enc.dflt))))))) +
  (4 : Int))) -
  0)
  0 then
  bif Nat.beq (List.length l) 0 then c
  else 0
  else 0)
  fun i => encL l (0 + i))))))
  (256 : Int))),
  Value.int IntKind.u8
  (IntKind.wrap IntKind.u8
  (Int.fdiv
  (Int.ofNat
  (refSum
  (natsU
  (listT U8
  (Td.fr 1
  (Int.toNat
  (IntKind.wrap IntKind.i64
  (IntKind.wrap IntKind.i64
  (IntKind.wrap IntKind.i64
  ((2 : Int) +
  IntKind.wrap IntKind.i64
  (Int.ofNat
  (BitVec.toNat
  (BitVec.ofInt 64
  (IntKind.wrap IntKind.i64
  (IntKind.wrap IntKind.i64
  (U8.v
  (List.getD l 0
  Enc.dflt)) *
  (256 : Int))) |||
  BitVec.ofInt 64
  (IntKind.wrap IntKind.i64
  (U8.v
  (List.getD l 1
  Enc.dflt))))))) +
  (4 : Int)) -
  (4 : Int))) -
  0)
  (bif
  Nat.beq
  (Int.toNat
  (IntKind.wrap IntKind.i64
  (IntKind.wrap IntKind.i64
  ((2 : Int) +
  IntKind.wrap IntKind.i64
  (Int.ofNat
  (BitVec.toNat
  (BitVec.ofInt 64
  (IntKind.wrap IntKind.i64
  (IntKind.wrap IntKind.i64
  (U8.v
  (List.getD l 0
  Enc.dflt)) *
  (256 : Int))) |||
  BitVec.ofInt 64
  (IntKind.wrap IntKind.i64
  (U8.v
  (List.getD l 1
  Enc.dflt))))))) +
  (4 : Int))) -
  0)
  0 then
  bif Nat.beq (List.length l) 0 then c
  else 0
  else 0)
  fun i => encL l (0 + i))))))
  (1 : Int)))]
  false 1),
  none])
  (need
  (decide
  ((0 : Int) ≤
  IntKind.wrap IntKind.i64
  (IntKind.wrap IntKind.i64
  (IntKind.wrap IntKind.i64
  ((2 : Int) +
  IntKind.wrap IntKind.i64
  (Int.ofNat
  (BitVec.toNat
  (BitVec.ofInt 64
  (IntKind.wrap IntKind.i64
  (IntKind.wrap IntKind.i64
  (U8.v (List.getD l 0 Enc.dflt)) *
  (256 : Int))) |||
  BitVec.ofInt 64
  (IntKind.wrap IntKind.i64
  (U8.v (List.getD l 1 Enc.dflt))))))) +
  (4 : Int)) -
  (4 : Int))))
  (need
  (Nat.ble
  (Int.toNat
  (IntKind.wrap IntKind.i64
  (IntKind.wrap IntKind.i64
  (IntKind.wrap IntKind.i64
  ((2 : Int) +
  IntKind.wrap IntKind.i64
  (Int.ofNat
  (BitVec.toNat
  (BitVec.ofInt 64
  (IntKind.wrap IntKind.i64
  (IntKind.wrap IntKind.i64
  (U8.v (List.getD l 0 Enc.dflt)) *
  (256 : Int))) |||
  BitVec.ofInt 64
  (IntKind.wrap IntKind.i64
  (U8.v (List.getD l 1 Enc.dflt))))))) +
  (4 : Int)) -
  (4 : Int))))
  (Int.toNat
  (IntKind.wrap IntKind.i64
  (IntKind.wrap IntKind.i64
  ((2 : Int) +
  IntKind.wrap IntKind.i64
  (Int.ofNat
  (BitVec.toNat
  (BitVec.ofInt 64
  (IntKind.wrap IntKind.i64
  (IntKind.wrap IntKind.i64
  (U8.v (List.getD l 0 Enc.dflt)) *
  (256 : Int))) |||
  BitVec.ofInt 64
  (IntKind.wrap IntKind.i64
  (U8.v (List.getD l 1 Enc.dflt))))))) +
  (4 : Int))) -
  0))
  (need
  (Nat.ble 2
  (Int.toNat
  (IntKind.wrap IntKind.i64
  (IntKind.wrap IntKind.i64
  (IntKind.wrap IntKind.i64
  ((2 : Int) +
  IntKind.wrap IntKind.i64
  (Int.ofNat
  (BitVec.toNat
  (BitVec.ofInt 64
  (IntKind.wrap IntKind.i64
  (IntKind.wrap IntKind.i64
  (U8.v (List.getD l 0 Enc.dflt)) *
  (256 : Int))) |||
  BitVec.ofInt 64
  (IntKind.wrap IntKind.i64
  (U8.v (List.getD l 1 Enc.dflt))))))) +
  (4 : Int)) -
  (4 : Int)))))
  (need
  (true &&
  Nat.ble
  (2 +
  (Int.toNat
  (IntKind.wrap IntKind.i64
  (IntKind.wrap IntKind.i64
  (IntKind.wrap IntKind.i64
  ((2 : Int) +
  IntKind.wrap IntKind.i64
  (Int.ofNat
  (BitVec.toNat
  (BitVec.ofInt 64
  (IntKind.wrap IntKind.i64
  (IntKind.wrap IntKind.i64
  (U8.v
  (List.getD l 0 Enc.dflt)) *
  (256 : Int))) |||
  BitVec.ofInt 64
  (IntKind.wrap IntKind.i64
  (U8.v
  (List.getD l 1 Enc.dflt))))))) +
  (4 : Int)) -
  (4 : Int))) -
  2))
  (List.length l))
  (need
  (okC 1
  [Ta.cell
  (Td.fr 1
  (Int.toNat
  (IntKind.wrap IntKind.i64
  (IntKind.wrap IntKind.i64
  (IntKind.wrap IntKind.i64
  ((2 : Int) +
  IntKind.wrap IntKind.i64
  (Int.ofNat
  (BitVec.toNat
  (BitVec.ofInt 64
  (IntKind.wrap IntKind.i64
  (IntKind.wrap IntKind.i64
  (U8.v
  (List.getD l 0
  Enc.dflt)) *
  (256 : Int))) |||
  BitVec.ofInt 64
  (IntKind.wrap IntKind.i64
  (U8.v
  (List.getD l 1
  Enc.dflt))))))) +
  (4 : Int)) -
  (4 : Int))) -
  2)
  (bif
  Nat.beq
  (Int.toNat
  (IntKind.wrap IntKind.i64
  (IntKind.wrap IntKind.i64
  ((2 : Int) +
  IntKind.wrap IntKind.i64
  (Int.ofNat
  (BitVec.toNat
  (BitVec.ofInt 64
  (IntKind.wrap IntKind.i64
  (IntKind.wrap IntKind.i64
  (U8.v
  (List.getD l 0
  Enc.dflt)) *
  (256 : Int))) |||
  BitVec.ofInt 64
  (IntKind.wrap IntKind.i64
  (U8.v
  (List.getD l 1
  Enc.dflt))))))) +
  (4 : Int))) -
  0)
  0 then
  bif Nat.beq (List.length l) 0 then c else 0
  else 0)
  fun i => encL l (2 + i))])
  (K
  (AE.returned
  (Value.tuple
  (Array.mk
  [Value.slice (some (Addr.mk 15 0 (some 0)))
  (Int.toNat
  (IntKind.wrap IntKind.i64
  (IntKind.wrap IntKind.i64
  (IntKind.wrap IntKind.i64
  ((2 : Int) +
  IntKind.wrap IntKind.i64
  (Int.ofNat
  (BitVec.toNat
  (BitVec.ofInt 64
  (IntKind.wrap IntKind.i64
  (IntKind.wrap IntKind.i64
  (U8.v
  (List.getD l 0
  Enc.dflt)) *
  (256 : Int))) |||
  BitVec.ofInt 64
  (IntKind.wrap IntKind.i64
  (U8.v
  (List.getD l 1
  Enc.dflt))))))) +
  (4 : Int)) -
  (4 : Int))) -
  2)
  (bif
  Nat.beq
  (Int.toNat
  (IntKind.wrap IntKind.i64
  (IntKind.wrap IntKind.i64
  ((2 : Int) +
  IntKind.wrap IntKind.i64
  (Int.ofNat
  (BitVec.toNat
  (BitVec.ofInt 64
  (IntKind.wrap IntKind.i64
  (IntKind.wrap IntKind.i64
  (U8.v
  (List.getD l 0
  Enc.dflt)) *
  (256 : Int))) |||
  BitVec.ofInt 64
  (IntKind.wrap IntKind.i64
  (U8.v
  (List.getD l 1
  Enc.dflt))))))) +
  (4 : Int))) -
  0)
  0 then
  bif Nat.beq (List.length l) 0 then c else 0
  else 0),
  Value.int IntKind.i64
  (IntKind.wrap IntKind.i64
  (IntKind.wrap IntKind.i64
  ((2 : Int) +
  IntKind.wrap IntKind.i64
  (Int.ofNat
  (BitVec.toNat
  (BitVec.ofInt 64
  (IntKind.wrap IntKind.i64
  (IntKind.wrap IntKind.i64
  (U8.v
  (List.getD l 0 Enc.dflt)) *
  (256 : Int))) |||
  BitVec.ofInt 64
  (IntKind.wrap IntKind.i64
  (U8.v
  (List.getD l 1 Enc.dflt))))))) +
  (4 : Int))),
  Value.int IntKind.i64 (0 : Int)])))
  [some (AObj.row Rk.look 1 0 (List.length l) (encL l)),
  some
  (AObj.cells
  [Value.slice (some (Addr.mk 15 0 (some 0)))
  (Int.toNat
  (IntKind.wrap IntKind.i64
  (IntKind.wrap IntKind.i64
  (IntKind.wrap IntKind.i64
  ((2 : Int) +
  IntKind.wrap IntKind.i64
  (Int.ofNat
  (BitVec.toNat
  (BitVec.ofInt 64
  (IntKind.wrap IntKind.i64
  (IntKind.wrap IntKind.i64
  (U8.v
  (List.getD l 0
  Enc.dflt)) *
  (256 : Int))) |||
  BitVec.ofInt 64
  (IntKind.wrap IntKind.i64
  (U8.v
  (List.getD l 1
  Enc.dflt))))))) +
  (4 : Int)) -
  (4 : Int))) -
  2)
  (bif
  Nat.beq
  (Int.toNat
  (IntKind.wrap IntKind.i64
  (IntKind.wrap IntKind.i64
  ((2 : Int) +
  IntKind.wrap IntKind.i64
  (Int.ofNat
  (BitVec.toNat
  (BitVec.ofInt 64
  (IntKind.wrap IntKind.i64
  (IntKind.wrap IntKind.i64
  (U8.v
  (List.getD l 0
  Enc.dflt)) *
  (256 : Int))) |||
  BitVec.ofInt 64
  (IntKind.wrap IntKind.i64
  (U8.v
  (List.getD l 1
  Enc.dflt))))))) +
  (4 : Int))) -
  0)
  0 then
  bif Nat.beq (List.length l) 0 then c else 0
  else 0)]
  true 0),
  some
  (AObj.cells
  [Value.int IntKind.i64
  (IntKind.wrap IntKind.i64
  (IntKind.wrap IntKind.i64
  ((2 : Int) +
  IntKind.wrap IntKind.i64
  (Int.ofNat
  (BitVec.toNat
  (BitVec.ofInt 64
  (IntKind.wrap IntKind.i64
  (IntKind.wrap IntKind.i64
  (U8.v
  (List.getD l 0 Enc.dflt)) *
  (256 : Int))) |||
  BitVec.ofInt 64
  (IntKind.wrap IntKind.i64
  (U8.v
  (List.getD l 1 Enc.dflt))))))) +
  (4 : Int)))]
  true 0),
  some (AObj.cells [Value.int IntKind.i64 (0 : Int)] true 0),
  none,
  some
  (AObj.cells
  [Value.int IntKind.u8
  (IntKind.wrap IntKind.u8
  (Int.fdiv
  (Int.ofNat
  (refSum
  (natsU
  (listT U8
  (Td.fr 1
  (Int.toNat
  (IntKind.wrap IntKind.i64
  (IntKind.wrap IntKind.i64
  (IntKind.wrap IntKind.i64
  ((2 : Int) +
  IntKind.wrap IntKind.i64
  (Int.ofNat
  (BitVec.toNat
  (BitVec.ofInt 64
  (IntKind.wrap
  IntKind.i64
  (IntKind.wrap
  IntKind.i64
  (U8.v
  (List.getD l
  0
  Enc.dflt)) *
  (256 : Int))) |||
  BitVec.ofInt 64
  (IntKind.wrap
  IntKind.i64
  (U8.v
  (List.getD l
  1
  Enc.dflt))))))) +
  (4 : Int)) -
  (4 : Int))) -
  0)
  (bif
  Nat.beq
  (Int.toNat
  (IntKind.wrap IntKind.i64
  (IntKind.wrap IntKind.i64
  ((2 : Int) +
  IntKind.wrap IntKind.i64
  (Int.ofNat
  (BitVec.toNat
  (BitVec.ofInt 64
  (IntKind.wrap
  IntKind.i64
  (IntKind.wrap
  IntKind.i64
  (U8.v
  (List.getD l
  0
  Enc.dflt)) *
  (256 : Int))) |||
  BitVec.ofInt 64
  (IntKind.wrap
  IntKind.i64
  (U8.v
  (List.getD l
  1
  Enc.dflt))))))) +
  (4 : Int))) -
  0)
  0 then
  bif Nat.beq (List.length l) 0 then c
  else 0
  else 0)
  fun i => encL l (0 + i))))))
  (16777216 : Int)))]
  true 1),
  none,
  some
  (AObj.cells
  [Value.int IntKind.u8
  (IntKind.wrap IntKind.u8
  (Int.fdiv
  (Int.ofNat
  (refSum
  (natsU
  (listT U8
  (Td.fr 1
  (Int.toNat
  (IntKind.wrap IntKind.i64
  (IntKind.wrap IntKind.i64
  (IntKind.wrap IntKind.i64
  ((2 : Int) +
  IntKind.wrap IntKind.i64
  (Int.ofNat
  (BitVec.toNat
  (BitVec.ofInt 64
  (IntKind.wrap
  IntKind.i64
  (IntKind.wrap
  IntKind.i64
  (U8.v
  (List.getD l
  0
  Enc.dflt)) *
  (256 : Int))) |||
  BitVec.ofInt 64
  (IntKind.wrap
  IntKind.i64
  (U8.v
  (List.getD l
  1
  Enc.dflt))))))) +
  (4 : Int)) -
  (4 : Int))) -
  0)
  (bif
  Nat.beq
  (Int.toNat
  (IntKind.wrap IntKind.i64
  (IntKind.wrap IntKind.i64
  ((2 : Int) +
  IntKind.wrap IntKind.i64
  (Int.ofNat
  (BitVec.toNat
  (BitVec.ofInt 64
  (IntKind.wrap
  IntKind.i64
  (IntKind.wrap
  IntKind.i64
  (U8.v
  (List.getD l
  0
  Enc.dflt)) *
  (256 : Int))) |||
  BitVec.ofInt 64
  (IntKind.wrap
  IntKind.i64
  (U8.v
  (List.getD l
  1
  Enc.dflt))))))) +
  (4 : Int))) -
  0)
  0 then
  bif Nat.beq (List.length l) 0 then c
  else 0
  else 0)
  fun i => encL l (0 + i))))))
  (65536 : Int)))]
  true 1),
  none,
  some
  (AObj.cells
  [Value.int IntKind.u8
  (IntKind.wrap IntKind.u8
  (Int.fdiv
  (Int.ofNat
  (refSum
  (natsU
  (listT U8
  (Td.fr 1
  (Int.toNat
  (IntKind.wrap IntKind.i64
  (IntKind.wrap IntKind.i64
  (IntKind.wrap IntKind.i64
  ((2 : Int) +
  IntKind.wrap IntKind.i64
  (Int.ofNat
  (BitVec.toNat
  (BitVec.ofInt 64
  (IntKind.wrap
  IntKind.i64
  (IntKind.wrap
  IntKind.i64
  (U8.v
  (List.getD l
  0
  Enc.dflt)) *
  (256 : Int))) |||
  BitVec.ofInt 64
  (IntKind.wrap
  IntKind.i64
  (U8.v
  (List.getD l
  1
  Enc.dflt))))))) +
  (4 : Int)) -
  (4 : Int))) -
  0)
  (bif
  Nat.beq
  (Int.toNat
  (IntKind.wrap IntKind.i64
  (IntKind.wrap IntKind.i64
  ((2 : Int) +
  IntKind.wrap IntKind.i64
  (Int.ofNat
  (BitVec.toNat
  (BitVec.ofInt 64
  (IntKind.wrap
  IntKind.i64
  (IntKind.wrap
  IntKind.i64
  (U8.v
  (List.getD l
  0
  Enc.dflt)) *
  (256 : Int))) |||
  BitVec.ofInt 64
  (IntKind.wrap
  IntKind.i64
  (U8.v
  (List.getD l
  1
  Enc.dflt))))))) +
  (4 : Int))) -
  0)
  0 then
  bif Nat.beq (List.length l) 0 then c
  else 0
  else 0)
  fun i => encL l (0 + i))))))
  (256 : Int)))]
  true 1),
  none,
  some
  (AObj.cells
  [Value.int IntKind.u8
  (IntKind.wrap IntKind.u8
  (Int.fdiv
  (Int.ofNat
  (refSum
  (natsU
  (listT U8
  (Td.fr 1
  (Int.toNat
  (IntKind.wrap IntKind.i64
  (IntKind.wrap IntKind.i64
  (IntKind.wrap IntKind.i64
  ((2 : Int) +
  IntKind.wrap IntKind.i64
  (Int.ofNat
  (BitVec.toNat
  (BitVec.ofInt 64
  (IntKind.wrap
  IntKind.i64
  (IntKind.wrap
  IntKind.i64
  (U8.v
  (List.getD l
  0
  Enc.dflt)) *
  (256 : Int))) |||
  BitVec.ofInt 64
  (IntKind.wrap
  IntKind.i64
  (U8.v
  (List.getD l
  1
  Enc.dflt))))))) +
  (4 : Int)) -
  (4 : Int))) -
  0)
  (bif
  Nat.beq
  (Int.toNat
  (IntKind.wrap IntKind.i64
  (IntKind.wrap IntKind.i64
  ((2 : Int) +
  IntKind.wrap IntKind.i64
  (Int.ofNat
  (BitVec.toNat
  (BitVec.ofInt 64
  (IntKind.wrap
  IntKind.i64
  (IntKind.wrap
  IntKind.i64
  (U8.v
  (List.getD l
  0
  Enc.dflt)) *
  (256 : Int))) |||
  BitVec.ofInt 64
  (IntKind.wrap
  IntKind.i64
  (U8.v
  (List.getD l
  1
  Enc.dflt))))))) +
  (4 : Int))) -
  0)
  0 then
  bif Nat.beq (List.length l) 0 then c
  else 0
  else 0)
  fun i => encL l (0 + i))))))
  (1 : Int)))]
  true 1),
  some
  (AObj.cells
  [Value.int IntKind.u8
  (IntKind.wrap IntKind.u8
  (Int.fdiv
  (Int.ofNat
  (refSum
  (natsU
  (listT U8
  (Td.fr 1
  (Int.toNat
  (IntKind.wrap IntKind.i64
  (IntKind.wrap IntKind.i64
  (IntKind.wrap IntKind.i64
  ((2 : Int) +
  IntKind.wrap IntKind.i64
  (Int.ofNat
  (BitVec.toNat
  (BitVec.ofInt 64
  (IntKind.wrap
  IntKind.i64
  (IntKind.wrap
  IntKind.i64
  (U8.v
  (List.getD l
  0
  Enc.dflt)) *
  (256 : Int))) |||
  BitVec.ofInt 64
  (IntKind.wrap
  IntKind.i64
  (U8.v
  (List.getD l
  1
  Enc.dflt))))))) +
  (4 : Int)) -
  (4 : Int))) -
  0)
  (bif
  Nat.beq
  (Int.toNat
  (IntKind.wrap IntKind.i64
  (IntKind.wrap IntKind.i64
  ((2 : Int) +
  IntKind.wrap IntKind.i64
  (Int.ofNat
  (BitVec.toNat
  (BitVec.ofInt 64
  (IntKind.wrap
  IntKind.i64
  (IntKind.wrap
  IntKind.i64
  (U8.v
  (List.getD l
  0
  Enc.dflt)) *
  (256 : Int))) |||
  BitVec.ofInt 64
  (IntKind.wrap
  IntKind.i64
  (U8.v
  (List.getD l
  1
  Enc.dflt))))))) +
  (4 : Int))) -
  0)
  0 then
  bif Nat.beq (List.length l) 0 then c
  else 0
  else 0)
  fun i => encL l (0 + i))))))
  (16777216 : Int))),
  Value.int IntKind.u8
  (IntKind.wrap IntKind.u8
  (Int.fdiv
  (Int.ofNat
  (refSum
  (natsU
  (listT U8
  (Td.fr 1
  (Int.toNat
  (IntKind.wrap IntKind.i64
  (IntKind.wrap IntKind.i64
  (IntKind.wrap IntKind.i64
  ((2 : Int) +
  IntKind.wrap IntKind.i64
  (Int.ofNat
  (BitVec.toNat
  (BitVec.ofInt 64
  (IntKind.wrap
  IntKind.i64
  (IntKind.wrap
  IntKind.i64
  (U8.v
  (List.getD l
  0
  Enc.dflt)) *
  (256 : Int))) |||
  BitVec.ofInt 64
  (IntKind.wrap
  IntKind.i64
  (U8.v
  (List.getD l
  1
  Enc.dflt))))))) +
  (4 : Int)) -
  (4 : Int))) -
  0)
  (bif
  Nat.beq
  (Int.toNat
  (IntKind.wrap IntKind.i64
  (IntKind.wrap IntKind.i64
  ((2 : Int) +
  IntKind.wrap IntKind.i64
  (Int.ofNat
  (BitVec.toNat
  (BitVec.ofInt 64
  (IntKind.wrap
  IntKind.i64
  (IntKind.wrap
  IntKind.i64
  (U8.v
  (List.getD l
  0
  Enc.dflt)) *
  (256 : Int))) |||
  BitVec.ofInt 64
  (IntKind.wrap
  IntKind.i64
  (U8.v
  (List.getD l
  1
  Enc.dflt))))))) +
  (4 : Int))) -
  0)
  0 then
  bif Nat.beq (List.length l) 0 then c
  else 0
  else 0)
  fun i => encL l (0 + i))))))
  (65536 : Int))),
  Value.int IntKind.u8
  (IntKind.wrap IntKind.u8
  (Int.fdiv
  (Int.ofNat
  (refSum
  (natsU
  (listT U8
  (Td.fr 1
  (Int.toNat
  (IntKind.wrap IntKind.i64
  (IntKind.wrap IntKind.i64
  (IntKind.wrap IntKind.i64
  ((2 : Int) +
  IntKind.wrap IntKind.i64
  (Int.ofNat
  (BitVec.toNat
  (BitVec.ofInt 64
  (IntKind.wrap
  IntKind.i64
  (IntKind.wrap
  IntKind.i64
  (U8.v
  (List.getD l
  0
  Enc.dflt)) *
  (256 : Int))) |||
  BitVec.ofInt 64
  (IntKind.wrap
  IntKind.i64
  (U8.v
  (List.getD l
  1
  Enc.dflt))))))) +
  (4 : Int)) -
  (4 : Int))) -
  0)
  (bif
  Nat.beq
  (Int.toNat
  (IntKind.wrap IntKind.i64
  (IntKind.wrap IntKind.i64
  ((2 : Int) +
  IntKind.wrap IntKind.i64
  (Int.ofNat
  (BitVec.toNat
  (BitVec.ofInt 64
  (IntKind.wrap
  IntKind.i64
  (IntKind.wrap
  IntKind.i64
  (U8.v
  (List.getD l
  0
  Enc.dflt)) *
  (256 : Int))) |||
  BitVec.ofInt 64
  (IntKind.wrap
  IntKind.i64
  (U8.v
  (List.getD l
  1
  Enc.dflt))))))) +
  (4 : Int))) -
  0)
  0 then
  bif Nat.beq (List.length l) 0 then c
  else 0
  else 0)
  fun i => encL l (0 + i))))))
  (256 : Int))),
  Value.int IntKind.u8
  (IntKind.wrap IntKind.u8
  (Int.fdiv
  (Int.ofNat
  (refSum
  (natsU
  (listT U8
  (Td.fr 1
  (Int.toNat
  (IntKind.wrap IntKind.i64
  (IntKind.wrap IntKind.i64
  (IntKind.wrap IntKind.i64
  ((2 : Int) +
  IntKind.wrap IntKind.i64
  (Int.ofNat
  (BitVec.toNat
  (BitVec.ofInt 64
  (IntKind.wrap
  IntKind.i64
  (IntKind.wrap
  IntKind.i64
  (U8.v
  (List.getD l
  0
  Enc.dflt)) *
  (256 : Int))) |||
  BitVec.ofInt 64
  (IntKind.wrap
  IntKind.i64
  (U8.v
  (List.getD l
  1
  Enc.dflt))))))) +
  (4 : Int)) -
  (4 : Int))) -
  0)
  (bif
  Nat.beq
  (Int.toNat
  (IntKind.wrap IntKind.i64
  (IntKind.wrap IntKind.i64
  ((2 : Int) +
  IntKind.wrap IntKind.i64
  (Int.ofNat
  (BitVec.toNat
  (BitVec.ofInt 64
  (IntKind.wrap
  IntKind.i64
  (IntKind.wrap
  IntKind.i64
  (U8.v
  (List.getD l
  0
  Enc.dflt)) *
  (256 : Int))) |||
  BitVec.ofInt 64
  (IntKind.wrap
  IntKind.i64
  (U8.v
  (List.getD l
  1
  Enc.dflt))))))) +
  (4 : Int))) -
  0)
  0 then
  bif Nat.beq (List.length l) 0 then c
  else 0
  else 0)
  fun i => encL l (0 + i))))))
  (1 : Int)))]
  false 1),
  none, none,
  some
  (AObj.row Rk.mine 1 0
  (Int.toNat
  (IntKind.wrap IntKind.i64
  (IntKind.wrap IntKind.i64
  (IntKind.wrap IntKind.i64
  ((2 : Int) +
  IntKind.wrap IntKind.i64
  (Int.ofNat
  (BitVec.toNat
  (BitVec.ofInt 64
  (IntKind.wrap IntKind.i64
  (IntKind.wrap IntKind.i64
  (U8.v
  (List.getD l 0
  Enc.dflt)) *
  (256 : Int))) |||
  BitVec.ofInt 64
  (IntKind.wrap IntKind.i64
  (U8.v
  (List.getD l 1
  Enc.dflt))))))) +
  (4 : Int)) -
  (4 : Int))) -
  2)
  fun i => encL l (2 + i))]))))))))))))))))))))))) := by kernel_rfl
end Go.Proofs.Ytiodkfbmcnfooaa.Ev
