/-
  What has to hold: printed by the evaluator.
-/
import Derived.Test.YtiodkfbmcnfooaaEqU
set_option linter.unusedVariables false
set_option maxRecDepth 1000000
namespace Go.Proofs.Ytiodkfbmcnfooaa.Ev
open Go Go.Proofs
theorem vc_put (l : List U8) (c : Nat) (β : Bs) (K : AE → List (Option AObj) → Prop) : lawE Try.prog toldE 100 20 β (fun _ => 8) (cnOf 1 fun _ => []) (fun _ _ => False) 8 [.slice (some ⟨0, 0, some 0⟩) l.length c] (mkS [some (rowO .look l)]) (outK K) =
(  br (decide (Int.ofNat (List.length l) > (200 : Int)))
  (K (AE.returned (Value.tuple (Array.mk [Value.slice none 0 0, Value.bool false])))
  [some (AObj.row Rk.look 1 0 (List.length l) (encL l))])
  (br
  (decide
  (IntKind.wrap IntKind.i64
  (IntKind.wrap IntKind.i64 ((0 : Int) + Int.ofNat (1 + 1)) + Int.ofNat (List.length l)) <
  (0 : Int)))
  (K
  (AE.panicked
  (Value.iface 9
  (Value.string
  (ByteArray.mk
  #[(108 : UInt8), (101 : UInt8), (110 : UInt8), (32 : UInt8), (111 : UInt8), (117 : UInt8), (116 : UInt8),
  (32 : UInt8), (111 : UInt8), (102 : UInt8), (32 : UInt8), (114 : UInt8), (97 : UInt8), (110 : UInt8),
  (103 : UInt8), (101 : UInt8)]))))
  [some (AObj.row Rk.look 1 0 (List.length l) (encL l)),
  some
  (AObj.cells
  [Value.int IntKind.u8
  (IntKind.wrap IntKind.u8 (Int.fdiv (IntKind.wrap IntKind.u32 (Int.ofNat (List.length l))) (256 : Int)))]
  true 1),
  none,
  some
  (AObj.cells
  [Value.int IntKind.u8
  (IntKind.wrap IntKind.u8 (Int.fdiv (IntKind.wrap IntKind.u32 (Int.ofNat (List.length l))) (1 : Int)))]
  true 1),
  some
  (AObj.cells
  [Value.int IntKind.u8
  (IntKind.wrap IntKind.u8 (Int.fdiv (IntKind.wrap IntKind.u32 (Int.ofNat (List.length l))) (256 : Int))),
  Value.int IntKind.u8
  (IntKind.wrap IntKind.u8 (Int.fdiv (IntKind.wrap IntKind.u32 (Int.ofNat (List.length l))) (1 : Int)))]
  false 1),
  some
  (AObj.cells
  [Value.slice (some (Addr.mk 4 0 none)) 2 2,
  Value.slice (some (Addr.mk 0 0 (some 0))) (List.length l) c]
  true 1)])
  (br
  (decide
  (IntKind.wrap IntKind.i64
  (IntKind.wrap IntKind.i64 ((0 : Int) + Int.ofNat (1 + 1)) + Int.ofNat (List.length l)) <
  (0 : Int)))
  (K
  (AE.panicked
  (Value.iface 9
  (Value.string
  (ByteArray.mk
  #[(99 : UInt8), (97 : UInt8), (110 : UInt8), (110 : UInt8), (111 : UInt8), (116 : UInt8), (32 : UInt8),
  (98 : UInt8), (101 : UInt8), (32 : UInt8), (110 : UInt8), (101 : UInt8), (103 : UInt8), (97 : UInt8),
  (116 : UInt8), (105 : UInt8), (118 : UInt8), (101 : UInt8)]))))
  [some (AObj.row Rk.look 1 0 (List.length l) (encL l)),
  some
  (AObj.cells
  [Value.int IntKind.u8
  (IntKind.wrap IntKind.u8
  (Int.fdiv (IntKind.wrap IntKind.u32 (Int.ofNat (List.length l))) (256 : Int)))]
  true 1),
  none,
  some
  (AObj.cells
  [Value.int IntKind.u8
  (IntKind.wrap IntKind.u8 (Int.fdiv (IntKind.wrap IntKind.u32 (Int.ofNat (List.length l))) (1 : Int)))]
  true 1),
  some
  (AObj.cells
  [Value.int IntKind.u8
  (IntKind.wrap IntKind.u8
  (Int.fdiv (IntKind.wrap IntKind.u32 (Int.ofNat (List.length l))) (256 : Int))),
  Value.int IntKind.u8
  (IntKind.wrap IntKind.u8 (Int.fdiv (IntKind.wrap IntKind.u32 (Int.ofNat (List.length l))) (1 : Int)))]
  false 1),
  some
  (AObj.cells
  [Value.slice (some (Addr.mk 4 0 none)) 2 2,
  Value.slice (some (Addr.mk 0 0 (some 0))) (List.length l) c]
  true 1)])
  (br
  (decide
  (IntKind.wrap IntKind.i64
  (IntKind.wrap IntKind.i64
  (IntKind.wrap IntKind.i64 ((0 : Int) + Int.ofNat (1 + 1)) +
  Int.ofNat (List.length l)) -
  (0 : Int)) >
  (0 : Int)))
  (need
  (decide
  ((0 : Int) ≤
  IntKind.wrap IntKind.i64
  (IntKind.wrap IntKind.i64
  (IntKind.wrap IntKind.i64 ((0 : Int) + Int.ofNat (1 + 1)) +
  Int.ofNat (List.length l)) -
  (0 : Int))))
  (need
  (Nat.ble
  (Int.toNat
  (IntKind.wrap IntKind.i64
  (IntKind.wrap IntKind.i64
  (IntKind.wrap IntKind.i64 ((0 : Int) + Int.ofNat (1 + 1)) +
  Int.ofNat (List.length l)) -
  (0 : Int))))
  1000000)
  (need
  (Nat.ble
  (0 +
  Int.toNat
  (IntKind.wrap IntKind.i64
  (IntKind.wrap IntKind.i64
  (IntKind.wrap IntKind.i64 ((0 : Int) + Int.ofNat (1 + 1)) +
  Int.ofNat (List.length l)) -
  (0 : Int))))
  1000000)
  (need (true && Nat.ble (0 + List.length l) (List.length l))
  (need (Nat.ble (0 + (1 + 1) + List.length l) 1000000)
  (need
  (true &&
  Nat.ble (0 + (0 + (1 + 1) + List.length l))
  (0 + (1 + 1) + List.length l))
  (need
  (ok1 U8 (fun l x => List.all l (okA U8))
  [Ta.cell
  (Td.fr 1 (0 + (1 + 1) + List.length l)
  (bif
  Nat.beq
  (Int.toNat
  (IntKind.wrap IntKind.i64
  (IntKind.wrap IntKind.i64
  (IntKind.wrap IntKind.i64 ((0 : Int) + Int.ofNat (1 + 1)) +
  Int.ofNat (List.length l)) -
  (0 : Int))))
  0 then
  1
  else 0)
  fun i k =>
  mrgT (Nat.blt (0 + i) (0 + (1 + 1)))
  (mrgT (Nat.blt (0 + (0 + i)) 0)
  (nthT [Td.sc (Value.int IntKind.u8 (0 : Int))] k)
  (selT 1 (1 + 1)
  [Td.sc
  (Value.int IntKind.u8
  (IntKind.wrap IntKind.u8
  (Int.fdiv (IntKind.wrap IntKind.u32 (Int.ofNat (List.length l)))
  (256 : Int)))),
  Td.sc
  (Value.int IntKind.u8
  (IntKind.wrap IntKind.u8
  (Int.fdiv (IntKind.wrap IntKind.u32 (Int.ofNat (List.length l)))
  (1 : Int))))]
  (0 + (0 + i) - 0) k))
  (encL l (0 + (0 + i - (0 + (1 + 1)))) k))])
  (need
  (Nat.ble
  (0 + (1 + 1) + List.length l +
  (1 + 1 + 1 + 1))
  1000000)
  (need
  (true &&
  Nat.ble (0 + (0 + (1 + 1) + List.length l))
  (0 + (1 + 1) + List.length l))
  (K
  (AE.returned
  (Value.tuple
  (Array.mk
  [Value.slice (some (Addr.mk 18 0 (some 0)))
  (0 + (1 + 1) + List.length l +
  (1 + 1 + 1 + 1))
  (bif
  Nat.beq
  (Int.toNat
  (IntKind.wrap IntKind.i64
  (IntKind.wrap IntKind.i64
  (IntKind.wrap IntKind.i64
  ((0 : Int) + Int.ofNat (1 + 1)) +
  Int.ofNat (List.length l)) -
  (0 : Int))))
  0 then
  1
  else 0),
  Value.bool true])))
  [some (AObj.row Rk.look 1 0 (List.length l) (encL l)),
  some
  (AObj.cells
  [Value.int IntKind.u8
  (IntKind.wrap IntKind.u8
  (Int.fdiv (IntKind.wrap IntKind.u32 (Int.ofNat (List.length l))) (256 : Int)))]
  true 1),
  none,
  some
  (AObj.cells
  [Value.int IntKind.u8
  (IntKind.wrap IntKind.u8
  (Int.fdiv (IntKind.wrap IntKind.u32 (Int.ofNat (List.length l))) (1 : Int)))]
  true 1),
  some
  (AObj.cells
  [Value.int IntKind.u8
  (IntKind.wrap IntKind.u8
  (Int.fdiv (IntKind.wrap IntKind.u32 (Int.ofNat (List.length l))) (256 : Int))),
  Value.int IntKind.u8
  (IntKind.wrap IntKind.u8
  (Int.fdiv (IntKind.wrap IntKind.u32 (Int.ofNat (List.length l))) (1 : Int)))]
  false 1),
  some
  (AObj.cells
  [Value.slice (some (Addr.mk 4 0 none)) 2 2,
  Value.slice (some (Addr.mk 0 0 (some 0))) (List.length l) c]
  true 1),
  none, none, none, none,
  some
  (AObj.cells
  [Value.int IntKind.u8
  (IntKind.wrap IntKind.u8
  (Int.fdiv
  (Int.ofNat
  (refSum
  (natsU
  (listT U8
  (Td.fr 1 (0 + (1 + 1) + List.length l)
  (bif
  Nat.beq
  (Int.toNat
  (IntKind.wrap IntKind.i64
  (IntKind.wrap IntKind.i64
  (IntKind.wrap IntKind.i64
  ((0 : Int) + Int.ofNat (1 + 1)) +
  Int.ofNat (List.length l)) -
  (0 : Int))))
  0 then
  1
  else 0)
  fun i k =>
  mrgT (Nat.blt (0 + i) (0 + (1 + 1)))
  (mrgT (Nat.blt (0 + (0 + i)) 0)
  (nthT [Td.sc (Value.int IntKind.u8 (0 : Int))] k)
  (selT 1 (1 + 1)
  [Td.sc
  (Value.int IntKind.u8
  (IntKind.wrap IntKind.u8
  (Int.fdiv
  (IntKind.wrap IntKind.u32
  (Int.ofNat (List.length l)))
  (256 : Int)))),
  Td.sc
  (Value.int IntKind.u8
  (IntKind.wrap IntKind.u8
  (Int.fdiv
  (IntKind.wrap IntKind.u32
  (Int.ofNat (List.length l)))
  (1 : Int))))]
  (0 + (0 + i) - 0) k))
  (encL l
  (0 +
  (0 + i - (0 + (1 + 1))))
  k))))))
  (16777216 : Int)))]
  true 1),
  none,
  some
  (AObj.cells
  [Value.int IntKind.u8
  (IntKind.wrap IntKind.u8
  (Int.fdiv
  (Int.ofNat
  (refSum
  (natsU
  (listT U8
  (Td.fr 1 (0 + (1 + 1) + List.length l)
  (bif
  Nat.beq
  (Int.toNat
  (IntKind.wrap IntKind.i64
  (IntKind.wrap IntKind.i64
  (IntKind.wrap IntKind.i64
  ((0 : Int) + Int.ofNat (1 + 1)) +
  Int.ofNat (List.length l)) -
  (0 : Int))))
  0 then
  1
  else 0)
  fun i k =>
  mrgT (Nat.blt (0 + i) (0 + (1 + 1)))
  (mrgT (Nat.blt (0 + (0 + i)) 0)
  (nthT [Td.sc (Value.int IntKind.u8 (0 : Int))] k)
  (selT 1 (1 + 1)
  [Td.sc
  (Value.int IntKind.u8
  (IntKind.wrap IntKind.u8
  (Int.fdiv
  (IntKind.wrap IntKind.u32
  (Int.ofNat (List.length l)))
  (256 : Int)))),
  Td.sc
  (Value.int IntKind.u8
  (IntKind.wrap IntKind.u8
  (Int.fdiv
  (IntKind.wrap IntKind.u32
  (Int.ofNat (List.length l)))
  (1 : Int))))]
  (0 + (0 + i) - 0) k))
  (encL l
  (0 +
  (0 + i - (0 + (1 + 1))))
  k))))))
  (65536 : Int)))]
  true 1),
  none,
  some
  (AObj.cells
  [Value.int IntKind.u8
  (IntKind.wrap IntKind.u8
  (Int.fdiv
  (Int.ofNat
  (refSum
  (natsU
  (listT U8
  (Td.fr 1 (0 + (1 + 1) + List.length l)
  (bif
  Nat.beq
  (Int.toNat
  (IntKind.wrap IntKind.i64
  (IntKind.wrap IntKind.i64
  (IntKind.wrap IntKind.i64
  ((0 : Int) + Int.ofNat (1 + 1)) +
  Int.ofNat (List.length l)) -
  (0 : Int))))
  0 then
  1
  else 0)
  fun i k =>
  mrgT (Nat.blt (0 + i) (0 + (1 + 1)))
  (mrgT (Nat.blt (0 + (0 + i)) 0)
  (nthT [Td.sc (Value.int IntKind.u8 (0 : Int))] k)
  (selT 1 (1 + 1)
  [Td.sc
  (Value.int IntKind.u8
  (IntKind.wrap IntKind.u8
  (Int.fdiv
  (IntKind.wrap IntKind.u32
  (Int.ofNat (List.length l)))
  (256 : Int)))),
  Td.sc
  (Value.int IntKind.u8
  (IntKind.wrap IntKind.u8
  (Int.fdiv
  (IntKind.wrap IntKind.u32
  (Int.ofNat (List.length l)))
  (1 : Int))))]
  (0 + (0 + i) - 0) k))
  (encL l
  (0 +
  (0 + i - (0 + (1 + 1))))
  k))))))
  (256 : Int)))]
  true 1),
  none,
  some
  (AObj.cells
  [Value.int IntKind.u8
  (IntKind.wrap IntKind.u8
  (Int.fdiv
  (Int.ofNat
  (refSum
  (natsU
  (listT U8
  (Td.fr 1 (0 + (1 + 1) + List.length l)
  (bif
  Nat.beq
  (Int.toNat
  (IntKind.wrap IntKind.i64
  (IntKind.wrap IntKind.i64
  (IntKind.wrap IntKind.i64
  ((0 : Int) + Int.ofNat (1 + 1)) +
  Int.ofNat (List.length l)) -
  (0 : Int))))
  0 then
  1
  else 0)
  fun i k =>
  mrgT (Nat.blt (0 + i) (0 + (1 + 1)))
  (mrgT (Nat.blt (0 + (0 + i)) 0)
  (nthT [Td.sc (Value.int IntKind.u8 (0 : Int))] k)
  (selT 1 (1 + 1)
  [Td.sc
  (Value.int IntKind.u8
  (IntKind.wrap IntKind.u8
  (Int.fdiv
  (IntKind.wrap IntKind.u32
  (Int.ofNat (List.length l)))
  (256 : Int)))),
  Td.sc
  (Value.int IntKind.u8
  (IntKind.wrap IntKind.u8
  (Int.fdiv
  (IntKind.wrap IntKind.u32
  (Int.ofNat (List.length l)))
  (1 : Int))))]
  (0 + (0 + i) - 0) k))
  (encL l
  (0 +
  (0 + i - (0 + (1 + 1))))
  k))))))
  (1 : Int)))]
  true 1),
  some
  (AObj.cells
  [Value.int IntKind.u8
  (IntKind.wrap IntKind.u8
  (Int.fdiv
  (Int.ofNat
  (refSum
  (natsU
  (listT U8
  (Td.fr 1 (0 + (1 + 1) + List.length l)
  (bif
  Nat.beq
  (Int.toNat
  (IntKind.wrap IntKind.i64
  (IntKind.wrap IntKind.i64
  (IntKind.wrap IntKind.i64
  ((0 : Int) + Int.ofNat (1 + 1)) +
  Int.ofNat (List.length l)) -
  (0 : Int))))
  0 then
  1
  else 0)
  fun i k =>
  mrgT (Nat.blt (0 + i) (0 + (1 + 1)))
  (mrgT (Nat.blt (0 + (0 + i)) 0)
  (nthT [Td.sc (Value.int IntKind.u8 (0 : Int))] k)
  (selT 1 (1 + 1)
  [Td.sc
  (Value.int IntKind.u8
  (IntKind.wrap IntKind.u8
  (Int.fdiv
  (IntKind.wrap IntKind.u32
  (Int.ofNat (List.length l)))
  (256 : Int)))),
  Td.sc
  (Value.int IntKind.u8
  (IntKind.wrap IntKind.u8
  (Int.fdiv
  (IntKind.wrap IntKind.u32
  (Int.ofNat (List.length l)))
  (1 : Int))))]
  (0 + (0 + i) - 0) k))
  (encL l
  (0 +
  (0 + i - (0 + (1 + 1))))
  k))))))
  (16777216 : Int))),
  Value.int IntKind.u8
  (IntKind.wrap IntKind.u8
  (Int.fdiv
  (Int.ofNat
  (refSum
  (natsU
  (listT U8
  (Td.fr 1 (0 + (1 + 1) + List.length l)
  (bif
  Nat.beq
  (Int.toNat
  (IntKind.wrap IntKind.i64
  (IntKind.wrap IntKind.i64
  (IntKind.wrap IntKind.i64
  ((0 : Int) + Int.ofNat (1 + 1)) +
  Int.ofNat (List.length l)) -
  (0 : Int))))
  0 then
  1
  else 0)
  fun i k =>
  mrgT (Nat.blt (0 + i) (0 + (1 + 1)))
  (mrgT (Nat.blt (0 + (0 + i)) 0)
  (nthT [Td.sc (Value.int IntKind.u8 (0 : Int))] k)
  (selT 1 (1 + 1)
  [Td.sc
  (Value.int IntKind.u8
  (IntKind.wrap IntKind.u8
  (Int.fdiv
  (IntKind.wrap IntKind.u32
  (Int.ofNat (List.length l)))
  (256 : Int)))),
  Td.sc
  (Value.int IntKind.u8
  (IntKind.wrap IntKind.u8
  (Int.fdiv
  (IntKind.wrap IntKind.u32
  (Int.ofNat (List.length l)))
  (1 : Int))))]
  (0 + (0 + i) - 0) k))
  (encL l
  (0 +
  (0 + i - (0 + (1 + 1))))
  k))))))
  (65536 : Int))),
  Value.int IntKind.u8
  (IntKind.wrap IntKind.u8
  (Int.fdiv
  (Int.ofNat
  (refSum
  (natsU
  (listT U8
  (Td.fr 1 (0 + (1 + 1) + List.length l)
  (bif
  Nat.beq
  (Int.toNat
  (IntKind.wrap IntKind.i64
  (IntKind.wrap IntKind.i64
  (IntKind.wrap IntKind.i64
  ((0 : Int) + Int.ofNat (1 + 1)) +
  Int.ofNat (List.length l)) -
  (0 : Int))))
  0 then
  1
  else 0)
  fun i k =>
  mrgT (Nat.blt (0 + i) (0 + (1 + 1)))
  (mrgT (Nat.blt (0 + (0 + i)) 0)
  (nthT [Td.sc (Value.int IntKind.u8 (0 : Int))] k)
  (selT 1 (1 + 1)
  [Td.sc
  (Value.int IntKind.u8
  (IntKind.wrap IntKind.u8
  (Int.fdiv
  (IntKind.wrap IntKind.u32
  (Int.ofNat (List.length l)))
  (256 : Int)))),
  Td.sc
  (Value.int IntKind.u8
  (IntKind.wrap IntKind.u8
  (Int.fdiv
  (IntKind.wrap IntKind.u32
  (Int.ofNat (List.length l)))
  (1 : Int))))]
  (0 + (0 + i) - 0) k))
  (encL l
  (0 +
  (0 + i - (0 + (1 + 1))))
  k))))))
  (256 : Int))),
  Value.int IntKind.u8
  (IntKind.wrap IntKind.u8
  (Int.fdiv
  (Int.ofNat
  (refSum
  (natsU
  (listT U8
  (Td.fr 1 (0 + (1 + 1) + List.length l)
  (bif
  Nat.beq
  (Int.toNat
  (IntKind.wrap IntKind.i64
  (IntKind.wrap IntKind.i64
  (IntKind.wrap IntKind.i64
  ((0 : Int) + Int.ofNat (1 + 1)) +
  Int.ofNat (List.length l)) -
  (0 : Int))))
  0 then
  1
  else 0)
  fun i k =>
  mrgT (Nat.blt (0 + i) (0 + (1 + 1)))
  (mrgT (Nat.blt (0 + (0 + i)) 0)
  (nthT [Td.sc (Value.int IntKind.u8 (0 : Int))] k)
  (selT 1 (1 + 1)
  [Td.sc
  (Value.int IntKind.u8
  (IntKind.wrap IntKind.u8
  (Int.fdiv
  (IntKind.wrap IntKind.u32
  (Int.ofNat (List.length l)))
  (256 : Int)))),
  Td.sc
  (Value.int IntKind.u8
  (IntKind.wrap IntKind.u8
  (Int.fdiv
  (IntKind.wrap IntKind.u32
  (Int.ofNat (List.length l)))
  (1 : Int))))]
  (0 + (0 + i) - 0) k))
  (encL l
  (0 +
  (0 + i - (0 + (1 + 1))))
  k))))))
  (1 : Int)))]
  false 1),
  some
  (AObj.row Rk.mine 1 0
  (0 + (1 + 1) + List.length l +
  (1 + 1 + 1 + 1))
  fun j k =>
  mrgT (Nat.blt j (0 + (1 + 1) + List.length l))
  (mrgT (Nat.blt (0 + j) (0 + (1 + 1)))
  (mrgT (Nat.blt (0 + (0 + j)) 0)
  (nthT [Td.sc (Value.int IntKind.u8 (0 : Int))] k)
  (selT 1 (1 + 1)
  [Td.sc
  (Value.int IntKind.u8
  (IntKind.wrap IntKind.u8
  (Int.fdiv (IntKind.wrap IntKind.u32 (Int.ofNat (List.length l)))
  (256 : Int)))),
  Td.sc
  (Value.int IntKind.u8
  (IntKind.wrap IntKind.u8
  (Int.fdiv (IntKind.wrap IntKind.u32 (Int.ofNat (List.length l)))
  (1 : Int))))]
  (0 + (0 + j) - 0) k))
  (encL l (0 + (0 + j - (0 + (1 + 1)))) k))
  (selT 1 (1 + 1 + 1 + 1)
  [Td.sc
  (Value.int IntKind.u8
  (IntKind.wrap IntKind.u8
  (Int.fdiv
  (Int.ofNat
  (refSum
  (natsU
  (listT U8
  (Td.fr 1
  (0 + (1 + 1) + List.length l)
  (bif
  Nat.beq
  (Int.toNat
  (IntKind.wrap IntKind.i64
  (IntKind.wrap IntKind.i64
  (IntKind.wrap IntKind.i64
  ((0 : Int) +
  Int.ofNat (1 + 1)) +
  Int.ofNat (List.length l)) -
  (0 : Int))))
  0 then
  1
  else 0)
  fun i k =>
  mrgT
  (Nat.blt (0 + i)
  (0 + (1 + 1)))
  (mrgT (Nat.blt (0 + (0 + i)) 0)
  (nthT [Td.sc (Value.int IntKind.u8 (0 : Int))] k)
  (selT 1 (1 + 1)
  [Td.sc
  (Value.int IntKind.u8
  (IntKind.wrap IntKind.u8
  (Int.fdiv
  (IntKind.wrap IntKind.u32
  (Int.ofNat (List.length l)))
  (256 : Int)))),
  Td.sc
  (Value.int IntKind.u8
  (IntKind.wrap IntKind.u8
  (Int.fdiv
  (IntKind.wrap IntKind.u32
  (Int.ofNat (List.length l)))
  (1 : Int))))]
  (0 + (0 + i) - 0) k))
  (encL l
  (0 +
  (0 + i - (0 + (1 + 1))))
  k))))))
  (16777216 : Int)))),
  Td.sc
  (Value.int IntKind.u8
  (IntKind.wrap IntKind.u8
  (Int.fdiv
  (Int.ofNat
  (refSum
  (natsU
  (listT U8
  (Td.fr 1
  (0 + (1 + 1) + List.length l)
  (bif
  Nat.beq
  (Int.toNat
  (IntKind.wrap IntKind.i64
  (IntKind.wrap IntKind.i64
  (IntKind.wrap IntKind.i64
  ((0 : Int) +
  Int.ofNat (1 + 1)) +
  Int.ofNat (List.length l)) -
  (0 : Int))))
  0 then
  1
  else 0)
  fun i k =>
  mrgT
  (Nat.blt (0 + i)
  (0 + (1 + 1)))
  (mrgT (Nat.blt (0 + (0 + i)) 0)
  (nthT [Td.sc (Value.int IntKind.u8 (0 : Int))] k)
  (selT 1 (1 + 1)
  [Td.sc
  (Value.int IntKind.u8
  (IntKind.wrap IntKind.u8
  (Int.fdiv
  (IntKind.wrap IntKind.u32
  (Int.ofNat (List.length l)))
  (256 : Int)))),
  Td.sc
  (Value.int IntKind.u8
  (IntKind.wrap IntKind.u8
  (Int.fdiv
  (IntKind.wrap IntKind.u32
  (Int.ofNat (List.length l)))
  (1 : Int))))]
  (0 + (0 + i) - 0) k))
  (encL l
  (0 +
  (0 + i - (0 + (1 + 1))))
  k))))))
  (65536 : Int)))),
  Td.sc
  (Value.int IntKind.u8
  (IntKind.wrap IntKind.u8
  (Int.fdiv
  (Int.ofNat
  (refSum
  (natsU
  (listT U8
  (Td.fr 1
  (0 + (1 + 1) + List.length l)
  (bif
  Nat.beq
  (Int.toNat
  (IntKind.wrap IntKind.i64
  (IntKind.wrap IntKind.i64
  (IntKind.wrap IntKind.i64
  ((0 : Int) +
  Int.ofNat (1 + 1)) +
  Int.ofNat (List.length l)) -
  (0 : Int))))
  0 then
  1
  else 0)
  fun i k =>
  mrgT
  (Nat.blt (0 + i)
  (0 + (1 + 1)))
  (mrgT (Nat.blt (0 + (0 + i)) 0)
  (nthT [Td.sc (Value.int IntKind.u8 (0 : Int))] k)
  (selT 1 (1 + 1)
  [Td.sc
  (Value.int IntKind.u8
  (IntKind.wrap IntKind.u8
  (Int.fdiv
  (IntKind.wrap IntKind.u32
  (Int.ofNat (List.length l)))
  (256 : Int)))),
  Td.sc
  (Value.int IntKind.u8
  (IntKind.wrap IntKind.u8
  (Int.fdiv
  (IntKind.wrap IntKind.u32
  (Int.ofNat (List.length l)))
  (1 : Int))))]
  (0 + (0 + i) - 0) k))
  (encL l
  (0 +
  (0 + i - (0 + (1 + 1))))
  k))))))
  (256 : Int)))),
  Td.sc
  (Value.int IntKind.u8
  (IntKind.wrap IntKind.u8
  (Int.fdiv
  (Int.ofNat
  (refSum
  (natsU
  (listT U8
  (Td.fr 1
  (0 + (1 + 1) + List.length l)
  (bif
  Nat.beq
  (Int.toNat
  (IntKind.wrap IntKind.i64
  (IntKind.wrap IntKind.i64
  (IntKind.wrap IntKind.i64
  ((0 : Int) +
  Int.ofNat (1 + 1)) +
  Int.ofNat (List.length l)) -
  (0 : Int))))
  0 then
  1
  else 0)
  fun i k =>
  mrgT
  (Nat.blt (0 + i)
  (0 + (1 + 1)))
  (mrgT (Nat.blt (0 + (0 + i)) 0)
  (nthT [Td.sc (Value.int IntKind.u8 (0 : Int))] k)
  (selT 1 (1 + 1)
  [Td.sc
  (Value.int IntKind.u8
  (IntKind.wrap IntKind.u8
  (Int.fdiv
  (IntKind.wrap IntKind.u32
  (Int.ofNat (List.length l)))
  (256 : Int)))),
  Td.sc
  (Value.int IntKind.u8
  (IntKind.wrap IntKind.u8
  (Int.fdiv
  (IntKind.wrap IntKind.u32
  (Int.ofNat (List.length l)))
  (1 : Int))))]
  (0 + (0 + i) - 0) k))
  (encL l
  (0 +
  (0 + i - (0 + (1 + 1))))
  k))))))
  (1 : Int))))]
  (j - (0 + (1 + 1) + List.length l)) k))]))))))))))
  (need (true && Nat.ble (0 + List.length l) (List.length l))
  (need (Nat.ble (1 + 1 + List.length l) 1000000) False)))))) := by kernel_rfl
end Go.Proofs.Ytiodkfbmcnfooaa.Ev
