/-
  What has to hold: printed by the evaluator.
-/
import Derived.Test.YtiodkfbmcnfooaaFrTa
set_option linter.unusedVariables false
set_option maxRecDepth 1000000
namespace Go.Proofs.Ytiodkfbmcnfooaa.Ev
open Go Go.Proofs
theorem vc_ft (l m : List U8) (c d : Nat) (a b : Int) (β : Bs) : lawE Try.prog toldQ 100 20 β (fun _ => 8) (cnOf 2 fun _ => []) (fun _ _ => False) 4 [.slice (some ⟨0, 0, some 0⟩) l.length c, .int .u16 a, .int .u8 b, .slice (some ⟨1, 0, some 0⟩) m.length d] (mkS [some (rowO .still l), some (rowO .still m)]) trueE =
(  br (decide (Int.ofNat (List.length l) > (200 : Int))) True
  (br (decide (Int.ofNat (List.length m) > (50 : Int))) True
  (need (true && Nat.ble (0 + List.length l) (List.length l))
  (need
  (ok1 U8 (fun l x => List.all l (okA U8))
  [Ta.cell (Td.fr 1 (List.length l) c fun i => encL l (0 + i))])
  (br
  (!decide
  (List.length (listT U8 (Td.fr 1 (List.length l) c fun i => encL l (0 + i))) ≤
  200))
  False
  (br
  (Int.ofNat
  (List.length (putL (listT U8 (Td.fr 1 (List.length l) c fun i => encL l (0 + i))))) !=
  IntKind.wrap IntKind.i64 (Int.ofNat (List.length l) + (6 : Int)))
  False
  (need
  (true &&
  Nat.ble
  (0 +
  List.length (putL (listT U8 (Td.fr 1 (List.length l) c fun i => encL l (0 + i)))))
  (List.length (putL (listT U8 (Td.fr 1 (List.length l) c fun i => encL l (0 + i))))))
  (need
  (Nat.ble
  (0 +
  List.length (putL (listT U8 (Td.fr 1 (List.length l) c fun i => encL l (0 + i)))))
  1000000)
  (need (true && Nat.ble (0 + List.length m) (List.length m))
  (need
  (Nat.ble
  (List.length
  (putL (listT U8 (Td.fr 1 (List.length l) c fun i => encL l (0 + i)))) +
  List.length m)
  1000000)
  (need
  (true &&
  Nat.ble
  (0 +
  List.length
  (putL (listT U8 (Td.fr 1 (List.length l) c fun i => encL l (0 + i)))))
  (List.length
  (putL (listT U8 (Td.fr 1 (List.length l) c fun i => encL l (0 + i))))))
  (need
  (true &&
  Nat.ble
  (0 +
  (List.length
  (putL
  (listT U8 (Td.fr 1 (List.length l) c fun i => encL l (0 + i)))) +
  List.length m))
  (List.length
  (putL (listT U8 (Td.fr 1 (List.length l) c fun i => encL l (0 + i)))) +
  List.length m))
  (need
  (ok1 U8 (fun l x => List.all l (okA U8))
  [Ta.cell
  (Td.fr 1
  (List.length
  (putL
  (listT U8
  (Td.fr 1 (List.length l) c fun i => encL l (0 + i)))) +
  List.length m)
  0 fun i k =>
  mrgT
  (Nat.blt (0 + i)
  (List.length
  (putL
  (listT U8
  (Td.fr 1 (List.length l) c fun i => encL l (0 + i))))))
  (encL
  (putL
  (listT U8 (Td.fr 1 (List.length l) c fun i => encL l (0 + i))))
  (0 + (0 + (0 + i))) k)
  (encL m
  (0 +
  (0 + i -
  List.length
  (putL
  (listT U8
  (Td.fr 1 (List.length l) c fun i => encL l (0 + i))))))
  k))])
  (need
  (true &&
  !decide
  (Int.ofNat
  (List.length
  (putL
  (listT U8
  (Td.fr 1 (List.length l) c fun i => encL l (0 + i))))) =
  (0 : Int)))
  (need
  (decide
  ((0 : Int) ≤
  Int.tmod (IntKind.wrap IntKind.i64 a)
  (Int.ofNat
  (List.length
  (putL
  (listT U8
  (Td.fr 1 (List.length l) c fun i => encL l (0 + i))))))))
  (need
  (Nat.ble
  (Int.toNat
  (Int.tmod (IntKind.wrap IntKind.i64 a)
  (Int.ofNat
  (List.length
  (putL
  (listT U8
  (Td.fr 1 (List.length l) c fun i => encL l (0 + i))))))))
  (List.length
  (putL
  (listT U8 (Td.fr 1 (List.length l) c fun i => encL l (0 + i))))))
  (need
  (true &&
  Nat.ble
  (0 +
  (Int.toNat
  (Int.tmod (IntKind.wrap IntKind.i64 a)
  (Int.ofNat
  (List.length
  (putL
  (listT U8
  (Td.fr 1 (List.length l) c fun i =>
  encL l (0 + i))))))) -
  0))
  (List.length
  (putL
  (listT U8
  (Td.fr 1 (List.length l) c fun i => encL l (0 + i))))))
  (need
  (ok1 U8 (fun l x => List.all l (okA U8))
  [Ta.cell
  (Td.fr 1
  (Int.toNat
  (Int.tmod (IntKind.wrap IntKind.i64 a)
  (Int.ofNat
  (List.length
  (putL
  (listT U8
  (Td.fr 1 (List.length l) c fun i =>
  encL l (0 + i))))))) -
  0)
  (bif
  Nat.beq
  (List.length
  (putL
  (listT U8
  (Td.fr 1 (List.length l) c fun i =>
  encL l (0 + i)))))
  0 then
  1
  else 0)
  fun i =>
  encL
  (putL
  (listT U8
  (Td.fr 1 (List.length l) c fun i => encL l (0 + i))))
  (0 + i))])
  (br
  (Int.ofNat
  (tkE
  (listT U8
  (Td.fr 1
  (List.length
  (putL
  (listT U8
  (Td.fr 1 (List.length l) c fun i =>
  encL l (0 + i)))) +
  List.length m)
  0 fun i k =>
  mrgT
  (Nat.blt (0 + i)
  (List.length
  (putL
  (listT U8
  (Td.fr 1 (List.length l) c fun i =>
  encL l (0 + i))))))
  (encL
  (putL
  (listT U8
  (Td.fr 1 (List.length l) c fun i =>
  encL l (0 + i))))
  (0 + (0 + (0 + i))) k)
  (encL m
  (0 +
  (0 + i -
  List.length
  (putL
  (listT U8
  (Td.fr 1 (List.length l) c fun i =>
  encL l (0 + i))))))
  k)))) !=
  (0 : Int))
  False
  (br
  (Int.ofNat
  (tkN
  (listT U8
  (Td.fr 1
  (List.length
  (putL
  (listT U8
  (Td.fr 1 (List.length l) c fun i =>
  encL l (0 + i)))) +
  List.length m)
  0 fun i k =>
  mrgT
  (Nat.blt (0 + i)
  (List.length
  (putL
  (listT U8
  (Td.fr 1 (List.length l) c fun i =>
  encL l (0 + i))))))
  (encL
  (putL
  (listT U8
  (Td.fr 1 (List.length l) c fun i =>
  encL l (0 + i))))
  (0 + (0 + (0 + i))) k)
  (encL m
  (0 +
  (0 + i -
  List.length
  (putL
  (listT U8
  (Td.fr 1 (List.length l) c fun i =>
  encL l (0 + i))))))
  k)))) !=
  Int.ofNat
  (List.length
  (putL
  (listT U8
  (Td.fr 1 (List.length l) c fun i =>
  encL l (0 + i))))))
  False
  (need
  (true &&
  Nat.ble
  (0 +
  List.length
  (tkL
  (listT U8
  (Td.fr 1
  (List.length
  (putL
  (listT U8
  (Td.fr 1 (List.length l) c fun i =>
  encL l (0 + i)))) +
  List.length m)
  0 fun i k =>
  mrgT
  (Nat.blt (0 + i)
  (List.length
  (putL
  (listT U8
  (Td.fr 1 (List.length l) c fun i =>
  encL l (0 + i))))))
  (encL
  (putL
  (listT U8
  (Td.fr 1 (List.length l) c fun i =>
  encL l (0 + i))))
  (0 + (0 + (0 + i))) k)
  (encL m
  (0 +
  (0 + i -
  List.length
  (putL
  (listT U8
  (Td.fr 1 (List.length l) c fun i =>
  encL l (0 + i))))))
  k)))))
  (List.length
  (tkL
  (listT U8
  (Td.fr 1
  (List.length
  (putL
  (listT U8
  (Td.fr 1 (List.length l) c fun i =>
  encL l (0 + i)))) +
  List.length m)
  0 fun i k =>
  mrgT
  (Nat.blt (0 + i)
  (List.length
  (putL
  (listT U8
  (Td.fr 1 (List.length l) c fun i =>
  encL l (0 + i))))))
  (encL
  (putL
  (listT U8
  (Td.fr 1 (List.length l) c fun i =>
  encL l (0 + i))))
  (0 + (0 + (0 + i))) k)
  (encL m
  (0 +
  (0 + i -
  List.length
  (putL
  (listT U8
  (Td.fr 1 (List.length l) c fun i =>
  encL l (0 + i))))))
  k))))))
  (need
  (allB
  (List.length
  (tkL
  (listT U8
  (Td.fr 1
  (List.length
  (putL
  (listT U8
  (Td.fr 1 (List.length l) c fun i =>
  encL l (0 + i)))) +
  List.length m)
  0 fun i k =>
  mrgT
  (Nat.blt (0 + i)
  (List.length
  (putL
  (listT U8
  (Td.fr 1 (List.length l) c fun i =>
  encL l (0 + i))))))
  (encL
  (putL
  (listT U8
  (Td.fr 1 (List.length l) c fun i =>
  encL l (0 + i))))
  (0 + (0 + (0 + i))) k)
  (encL m
  (0 +
  (0 + i -
  List.length
  (putL
  (listT U8
  (Td.fr 1 (List.length l) c fun i =>
  encL l (0 + i))))))
  k)))))
  fun j =>
  encL
  (tkL
  (listT U8
  (Td.fr 1
  (List.length
  (putL
  (listT U8
  (Td.fr 1 (List.length l) c fun i =>
  encL l (0 + i)))) +
  List.length m)
  0 fun i k =>
  mrgT
  (Nat.blt (0 + i)
  (List.length
  (putL
  (listT U8
  (Td.fr 1 (List.length l) c fun i =>
  encL l (0 + i))))))
  (encL
  (putL
  (listT U8
  (Td.fr 1 (List.length l) c fun i =>
  encL l (0 + i))))
  (0 + (0 + (0 + i))) k)
  (encL m
  (0 +
  (0 + i -
  List.length
  (putL
  (listT U8
  (Td.fr 1 (List.length l) c fun i =>
  encL l (0 + i))))))
  k))))
  (0 + j))
  (need (true && Nat.ble (0 + List.length l) (List.length l))
  (need (allB (List.length l) fun j => encL l (0 + j))
  (br
  (!List.map
  (fun j =>
  byteF
  (encL
  (tkL
  (listT U8
  (Td.fr 1
  (List.length
  (putL
  (listT U8
  (Td.fr 1 (List.length l) c fun i =>
  encL l (0 + i)))) +
  List.length m)
  0 fun i k =>
  mrgT
  (Nat.blt (0 + i)
  (List.length
  (putL
  (listT U8
  (Td.fr 1 (List.length l) c
  fun i => encL l (0 + i))))))
  (encL
  (putL
  (listT U8
  (Td.fr 1 (List.length l) c fun i =>
  encL l (0 + i))))
  (0 + (0 + (0 + i))) k)
  (encL m
  (0 +
  (0 + i -
  List.length
  (putL
  (listT U8
  (Td.fr 1 (List.length l) c
  fun i => encL l (0 + i))))))
  k))))
  (0 + j) 0))
  (List.range
  (List.length
  (tkL
  (listT U8
  (Td.fr 1
  (List.length
  (putL
  (listT U8
  (Td.fr 1 (List.length l) c fun i =>
  encL l (0 + i)))) +
  List.length m)
  0 fun i k =>
  mrgT
  (Nat.blt (0 + i)
  (List.length
  (putL
  (listT U8
  (Td.fr 1 (List.length l) c fun i =>
  encL l (0 + i))))))
  (encL
  (putL
  (listT U8
  (Td.fr 1 (List.length l) c fun i =>
  encL l (0 + i))))
  (0 + (0 + (0 + i))) k)
  (encL m
  (0 +
  (0 + i -
  List.length
  (putL
  (listT U8
  (Td.fr 1 (List.length l) c
  fun i => encL l (0 + i))))))
  k)))))) ==
  List.map (fun j => byteF (encL l (0 + j) 0))
  (List.range (List.length l)))
  False
  (br
  (Int.ofNat
  (tkE
  (listT U8
  (Td.fr 1
  (Int.toNat
  (Int.tmod (IntKind.wrap IntKind.i64 a)
  (Int.ofNat
  (List.length
  (putL
  (listT U8
  (Td.fr 1 (List.length l) c fun i =>
  encL l (0 + i))))))) -
  0)
  (bif
  Nat.beq
  (List.length
  (putL
  (listT U8
  (Td.fr 1 (List.length l) c fun i =>
  encL l (0 + i)))))
  0 then
  1
  else 0)
  fun i =>
  encL
  (putL
  (listT U8
  (Td.fr 1 (List.length l) c fun i =>
  encL l (0 + i))))
  (0 + i)))) !=
  (11 : Int))
  False
  (br (b == (0 : Int)) True
  (need
  (true &&
  Nat.ble
  (0 +
  List.length
  (putL
  (listT U8
  (Td.fr 1 (List.length l) c fun i =>
  encL l (0 + i)))))
  (List.length
  (putL
  (listT U8
  (Td.fr 1 (List.length l) c fun i =>
  encL l (0 + i))))))
  (need
  (Nat.ble
  (0 +
  List.length
  (putL
  (listT U8
  (Td.fr 1 (List.length l) c fun i =>
  encL l (0 + i)))))
  1000000)
  (need
  (true &&
  !decide
  (Int.ofNat
  (List.length
  (putL
  (listT U8
  (Td.fr 1 (List.length l) c fun i =>
  encL l (0 + i))))) =
  (0 : Int)))
  (need
  (decide
  ((0 : Int) ≤
  Int.tmod (IntKind.wrap IntKind.i64 a)
  (Int.ofNat
  (List.length
  (putL
  (listT U8
  (Td.fr 1 (List.length l) c fun i =>
  encL l (0 + i))))))))
  (need
  (Nat.blt
  (Int.toNat
  (Int.tmod (IntKind.wrap IntKind.i64 a)
  (Int.ofNat
  (List.length
  (putL
  (listT U8
  (Td.fr 1 (List.length l) c
  fun i => encL l (0 + i))))))))
  (List.length
  (putL
  (listT U8
  (Td.fr 1 (List.length l) c fun i =>
  encL l (0 + i))))))
  (need
  (Nat.ble 0
  (0 +
  Int.toNat
  (Int.tmod (IntKind.wrap IntKind.i64 a)
  (Int.ofNat
  (List.length
  (putL
  (listT U8
  (Td.fr 1 (List.length l) c
  fun i =>
  encL l (0 + i)))))))) &&
  Nat.blt
  (0 +
  Int.toNat
  (Int.tmod (IntKind.wrap IntKind.i64 a)
  (Int.ofNat
  (List.length
  (putL
  (listT U8
  (Td.fr 1 (List.length l) c
  fun i =>
  encL l (0 + i))))))))
  (List.length
  (putL
  (listT U8
  (Td.fr 1 (List.length l) c fun i =>
  encL l (0 + i))))))
  (need
  (decide
  ((0 : Int) ≤
  Int.tmod (IntKind.wrap IntKind.i64 a)
  (Int.ofNat
  (List.length
  (putL
  (listT U8
  (Td.fr 1 (List.length l) c
  fun i =>
  encL l (0 + i))))))))
  (need
  (Nat.blt
  (Int.toNat
  (Int.tmod (IntKind.wrap IntKind.i64 a)
  (Int.ofNat
  (List.length
  (putL
  (listT U8
  (Td.fr 1 (List.length l) c
  fun i =>
  encL l (0 + i))))))))
  (List.length
  (putL
  (listT U8
  (Td.fr 1 (List.length l) c
  fun i => encL l (0 + i))))))
  (need
  (Nat.blt
  (0 +
  Int.toNat
  (Int.tmod (IntKind.wrap IntKind.i64 a)
  (Int.ofNat
  (List.length
  (putL
  (listT U8
  (Td.fr 1 (List.length l)
  c fun i =>
  encL l (0 + i))))))))
  (List.length
  (putL
  (listT U8
  (Td.fr 1 (List.length l) c
  fun i => encL l (0 + i))))))
  (need
  (true &&
  Nat.ble
  (0 +
  List.length
  (putL
  (listT U8
  (Td.fr 1 (List.length l) c
  fun i =>
  encL l (0 + i)))))
  (List.length
  (putL
  (listT U8
  (Td.fr 1 (List.length l) c
  fun i =>
  encL l (0 + i))))))
  (need
  (ok1 U8 (fun l x => List.all l (okA U8))
  [Ta.cell
  (Td.fr 1
  (List.length
  (putL
  (listT U8
  (Td.fr 1
  (List.length l) c fun i =>
  encL l (0 + i)))))
  0 fun i =>
  putT
  (0 +
  Int.toNat
  (Int.tmod
  (IntKind.wrap IntKind.i64 a)
  (Int.ofNat
  (List.length
  (putL
  (listT U8
  (Td.fr 1
  (List.length l) c
  fun i =>
  encL l
  (0 +
  i))))))))
  0
  [Td.sc
  (Value.int IntKind.u8
  (IntKind.wrap IntKind.u8
  (Int.ofNat
  (BitVec.toNat
  (BitVec.ofInt
  8
  (U8.v
  (List.getD
  (putL
  (listT U8
  (Td.fr
  (1 :
  Nat)
  (List.length
  l)
  c
  fun i =>
  encL l
  ((0 :
  Nat) +
  i))))
  (0 +
  (0 +
  Int.toNat
  (Int.tmod
  (IntKind.wrap
  IntKind.i64
  a)
  (Int.ofNat
  (List.length
  (putL
  (listT
  U8
  (Td.fr
  (1 :
  Nat)
  (List.length
  l)
  c
  fun
  i =>
  encL
  l
  ((0 :
  Nat) +
  i)))))))))
  Enc.dflt)) ^^^
  BitVec.ofInt
  8 b)))))]
  (fun j =>
  encL
  (putL
  (listT U8
  (Td.fr 1
  (List.length l) c
  fun i =>
  encL l
  (0 + i))))
  (0 + j))
  (0 + i))])
  (br
  (decide
  (Int.tmod (IntKind.wrap IntKind.i64 a)
  (Int.ofNat
  (List.length
  (putL
  (listT U8
  (Td.fr 1
  (List.length l) c fun i =>
  encL l
  (0 + i)))))) <
  (2 : Int)))
  (br
  (Int.ofNat
  (tkE
  (listT U8
  (Td.fr 1
  (List.length
  (putL
  (listT U8
  (Td.fr 1
  (List.length l) c
  fun i =>
  encL l
  (0 + i)))))
  0 fun i =>
  putT
  (0 +
  Int.toNat
  (Int.tmod
  (IntKind.wrap
  IntKind.i64 a)
  (Int.ofNat
  (List.length
  (putL
  (listT U8
  (Td.fr
  1
  (List.length
  l)
  c fun i =>
  encL l
  ((0 :
  Nat) +
  i))))))))
  0
  [Td.sc
  (Value.int IntKind.u8
  (IntKind.wrap
  IntKind.u8
  (Int.ofNat
  (BitVec.toNat
  (BitVec.ofInt
  8
  (U8.v
  (List.getD
  (putL
  (listT
  U8
  (Td.fr
  (1 :
  Nat)
  (List.length
  l)
  c
  fun
  i =>
  encL
  l
  ((0 :
  Nat) +
  i))))
  ((0 :
  Nat) +
  ((0 :
  Nat) +
  Int.toNat
  (Int.tmod
  (IntKind.wrap
  IntKind.i64
  a)
  (Int.ofNat
  (List.length
  (putL
  (listT
  U8
  (Td.fr
  (1 :
  Nat)
  (List.length
  l)
  c
  fun
  i =>
  encL
  l
  ((0 :
  Nat) +
  i)))))))))
  Enc.dflt)) ^^^
  BitVec.ofInt
  8
  b)))))]
  (fun j =>
  encL
  (putL
  (listT U8
  (Td.fr 1
  (List.length l) c
  fun i =>
  encL l
  (0 +
  i))))
  (0 + j))
  (0 + i)))) !=
  (0 : Int))
  True
  (need
  (true &&
  Nat.ble
  (0 +
  List.length
  (tkL
  (listT U8
  (Td.fr 1
  (List.length
  (putL
  (listT U8
  (Td.fr 1
  (List.length l)
  c fun i =>
  encL l
  (0 +
  i)))))
  0 fun i =>
  putT
  (0 +
  Int.toNat
  (Int.tmod
  (IntKind.wrap
  IntKind.i64 a)
  (Int.ofNat
  (List.length
  (putL
  (listT U8
  (Td.fr
  (1 :
  Nat)
  (List.length
  l)
  c
  fun
  i =>
  encL l
  ((0 :
  Nat) +
  i))))))))
  0
  [Td.sc
  (Value.int
  IntKind.u8
  (IntKind.wrap
  IntKind.u8
  (Int.ofNat
  (BitVec.toNat
  (BitVec.ofInt
  (8 :
  Nat)
  (U8.v
  (List.getD
  (putL
  (listT
  U8
  (Td.fr
  (1 :
  Nat)
  (List.length
  l)
  c
  fun
  i =>
  encL
  l
  ((0 :
  Nat) +
  i))))
  ((0 :
  Nat) +
  ((0 :
  Nat) +
  Int.toNat
  (Int.tmod
  (IntKind.wrap
  IntKind.i64
  a)
  (Int.ofNat
  (List.length
  (putL
  (listT
  U8
  (Td.fr
  (1 :
  Nat)
  (List.length
  l)
  c
  fun
  i =>
  encL
  l
  ((0 :
  Nat) +
  i)))))))))
  Enc.dflt)) ^^^
  BitVec.ofInt
  (8 :
  Nat)
  b)))))]
  (fun j =>
  encL
  (putL
  (listT U8
  (Td.fr
  1
  (List.length
  l)
  c fun i =>
  encL l
  ((0 :
  Nat) +
  i))))
  (0 + j))
  (0 + i)))))
  (List.length
  (tkL
  (listT U8
  (Td.fr 1
  (List.length
  (putL
  (listT U8
  (Td.fr 1
  (List.length l) c
  fun i =>
  encL l
  (0 +
  i)))))
  0 fun i =>
  putT
  (0 +
  Int.toNat
  (Int.tmod
  (IntKind.wrap
  IntKind.i64 a)
  (Int.ofNat
  (List.length
  (putL
  (listT U8
  (Td.fr
  (1 :
  Nat)
  (List.length
  l)
  c
  fun i =>
  encL l
  ((0 :
  Nat) +
  i))))))))
  0
  [Td.sc
  (Value.int
  IntKind.u8
  (IntKind.wrap
  IntKind.u8
  (Int.ofNat
  (BitVec.toNat
  (BitVec.ofInt
  (8 :
  Nat)
  (U8.v
  (List.getD
  (putL
  (listT
  U8
  (Td.fr
  (1 :
  Nat)
  (List.length
  l)
  c
  fun
  i =>
  encL
  l
  ((0 :
  Nat) +
  i))))
  ((0 :
  Nat) +
  ((0 :
  Nat) +
  Int.toNat
  (Int.tmod
  (IntKind.wrap
  IntKind.i64
  a)
  (Int.ofNat
  (List.length
  (putL
  (listT
  U8
  (Td.fr
  (1 :
  Nat)
  (List.length
  l)
  c
  fun
  i =>
  encL
  l
  ((0 :
  Nat) +
  i)))))))))
  Enc.dflt)) ^^^
  BitVec.ofInt
  (8 :
  Nat)
  b)))))]
  (fun j =>
  encL
  (putL
  (listT U8
  (Td.fr 1
  (List.length
  l)
  c fun i =>
  encL l
  (0 +
  i))))
  (0 + j))
  (0 + i))))))
  (need
  (allB
  (List.length
  (tkL
  (listT U8
  (Td.fr 1
  (List.length
  (putL
  (listT U8
  (Td.fr 1
  (List.length l) c
  fun i =>
  encL l
  (0 +
  i)))))
  0 fun i =>
  putT
  (0 +
  Int.toNat
  (Int.tmod
  (IntKind.wrap
  IntKind.i64 a)
  (Int.ofNat
  (List.length
  (putL
  (listT U8
  (Td.fr
  (1 :
  Nat)
  (List.length
  l)
  c
  fun i =>
  encL l
  ((0 :
  Nat) +
  i))))))))
  0
  [Td.sc
  (Value.int
  IntKind.u8
  (IntKind.wrap
  IntKind.u8
  (Int.ofNat
  (BitVec.toNat
  (BitVec.ofInt
  (8 :
  Nat)
  (U8.v
  (List.getD
  (putL
  (listT
  U8
  (Td.fr
  (1 :
  Nat)
  (List.length
  l)
  c
  fun
  i =>
  encL
  l
  ((0 :
  Nat) +
  i))))
  ((0 :
  Nat) +
  ((0 :
  Nat) +
  Int.toNat
  (Int.tmod
  (IntKind.wrap
  IntKind.i64
  a)
  (Int.ofNat
  (List.length
  (putL
  (listT
  U8
  (Td.fr
  (1 :
  Nat)
  (List.length
  l)
  c
  fun
  i =>
  encL
  l
  ((0 :
  Nat) +
  i)))))))))
  Enc.dflt)) ^^^
  BitVec.ofInt
  (8 :
  Nat)
  b)))))]
  (fun j =>
  encL
  (putL
  (listT U8
  (Td.fr 1
  (List.length
  l)
  c fun i =>
  encL l
  (0 +
  i))))
  (0 + j))
  (0 + i)))))
  fun j =>
  encL
  (tkL
  (listT U8
  (Td.fr 1
  (List.length
  (putL
  (listT U8
  (Td.fr 1
  (List.length l) c
  fun i =>
  encL l
  (0 +
  i)))))
  0 fun i =>
  putT
  (0 +
  Int.toNat
  (Int.tmod
  (IntKind.wrap
  IntKind.i64 a)
  (Int.ofNat
  (List.length
  (putL
  (listT U8
  (Td.fr
  (1 :
  Nat)
  (List.length
  l)
  c
  fun i =>
  encL l
  ((0 :
  Nat) +
  i))))))))
  0
  [Td.sc
  (Value.int
  IntKind.u8
  (IntKind.wrap
  IntKind.u8
  (Int.ofNat
  (BitVec.toNat
  (BitVec.ofInt
  (8 :
  Nat)
  (U8.v
  (List.getD
  (putL
  (listT
  U8
  (Td.fr
  (1 :
  Nat)
  (List.length
  l)
  c
  fun
  i =>
  encL
  l
  ((0 :
  Nat) +
  i))))
  ((0 :
  Nat) +
  ((0 :
  Nat) +
  Int.toNat
  (Int.tmod
  (IntKind.wrap
  IntKind.i64
  a)
  (Int.ofNat
  (List.length
  (putL
  (listT
  U8
  (Td.fr
  (1 :
  Nat)
  (List.length
  l)
  c
  fun
  i =>
  encL
  l
  ((0 :
  Nat) +
  i)))))))))
  Enc.dflt)) ^^^
  BitVec.ofInt
  (8 :
  Nat)
  b)))))]
  (fun j =>
  encL
  (putL
  (listT U8
  (Td.fr 1
  (List.length
  l)
  c fun i =>
  encL l
  (0 +
  i))))
  (0 + j))
  (0 + i))))
  (0 + j))
  (need
  (true &&
  Nat.ble
  (0 + List.length l)
  (List.length l))
  (need
  (allB (List.length l) fun j =>
  encL l (0 + j))
  (need
  (!List.map
  (fun j =>
  byteF
  (encL
  (tkL
  (listT U8
  (Td.fr
  1
  (List.length
  (putL
  (listT
  U8
  (Td.fr
  (1 :
  Nat)
  (List.length
  l)
  c
  fun
  i =>
  encL
  l
  ((0 :
  Nat) +
  i)))))
  0
  fun i =>
  putT
  ((0 :
  Nat) +
  Int.toNat
  (Int.tmod
  (IntKind.wrap
  IntKind.i64
  a)
  (Int.ofNat
  (List.length
  (putL
  (listT
  U8
  (Td.fr
  (1 :
  Nat)
  (List.length
  l)
  c
  fun
  i =>
  encL
  l
  ((0 :
  Nat) +
  i))))))))
  0
  [Td.sc
  (Value.int
  IntKind.u8
  (IntKind.wrap
  IntKind.u8
  (Int.ofNat
  (BitVec.toNat
  (BitVec.ofInt
  (8 :
  Nat)
  (U8.v
  (List.getD
  (putL
  (listT
  U8
  (Td.fr
  (1 :
  Nat)
  (List.length
  l)
  c
  fun
  i =>
  encL
  l
  ((0 :
  Nat) +
  i))))
  ((0 :
  Nat) +
  ((0 :
  Nat) +
  Int.toNat
  (Int.tmod
  (IntKind.wrap
  IntKind.i64
  a)
  (Int.ofNat
  (List.length
  (putL
  (listT
  U8
  (Td.fr
  (1 :
  Nat)
  (List.length
  l)
  c
  fun
  i =>
  encL
  l
  ((0 :
  Nat) +
  i)))))))))
  Enc.dflt)) ^^^
  BitVec.ofInt
  (8 :
  Nat)
  b)))))]
  (fun j =>
  encL
  (putL
  (listT
  U8
  (Td.fr
  (1 :
  Nat)
  (List.length
  l)
  c
  fun
  i =>
  encL
  l
  ((0 :
  Nat) +
  i))))
  ((0 :
  Nat) +
  j))
  ((0 :
  Nat) +
  i))))
  (0 + j)
  0))
  (List.range
  (List.length
  (tkL
  (listT U8
  (Td.fr 1
  (List.length
  (putL
  (listT U8
  (Td.fr
  (1 :
  Nat)
  (List.length
  l)
  c
  fun
  i =>
  encL l
  ((0 :
  Nat) +
  i)))))
  0
  fun i =>
  putT
  (0 +
  Int.toNat
  (Int.tmod
  (IntKind.wrap
  IntKind.i64
  a)
  (Int.ofNat
  (List.length
  (putL
  (listT
  U8
  (Td.fr
  (1 :
  Nat)
  (List.length
  l)
  c
  fun
  i =>
  encL
  l
  ((0 :
  Nat) +
  i))))))))
  0
  [Td.sc
  (Value.int
  IntKind.u8
  (IntKind.wrap
  IntKind.u8
  (Int.ofNat
  (BitVec.toNat
  (BitVec.ofInt
  (8 :
  Nat)
  (U8.v
  (List.getD
  (putL
  (listT
  U8
  (Td.fr
  (1 :
  Nat)
  (List.length
  l)
  c
  fun
  i =>
  encL
  l
  ((0 :
  Nat) +
  i))))
  ((0 :
  Nat) +
  ((0 :
  Nat) +
  Int.toNat
  (Int.tmod
  (IntKind.wrap
  IntKind.i64
  a)
  (Int.ofNat
  (List.length
  (putL
  (listT
  U8
  (Td.fr
  (1 :
  Nat)
  (List.length
  l)
  c
  fun
  i =>
  encL
  l
  ((0 :
  Nat) +
  i)))))))))
  Enc.dflt)) ^^^
  BitVec.ofInt
  (8 :
  Nat)
  b)))))]
  (fun j =>
  encL
  (putL
  (listT
  U8
  (Td.fr
  (1 :
  Nat)
  (List.length
  l)
  c
  fun
  i =>
  encL
  l
  ((0 :
  Nat) +
  i))))
  ((0 :
  Nat) +
  j))
  (0 +
  i)))))) ==
  List.map
  (fun j =>
  byteF
  (encL l
  (0 + j)
  0))
  (List.range
  (List.length l)))
  True))))))
  (need
  (Int.ofNat
  (tkE
  (listT U8
  (Td.fr 1
  (List.length
  (putL
  (listT U8
  (Td.fr 1
  (List.length l) c
  fun i =>
  encL l
  (0 + i)))))
  0 fun i =>
  putT
  (0 +
  Int.toNat
  (Int.tmod
  (IntKind.wrap
  IntKind.i64 a)
  (Int.ofNat
  (List.length
  (putL
  (listT U8
  (Td.fr
  1
  (List.length
  l)
  c fun i =>
  encL l
  ((0 :
  Nat) +
  i))))))))
  0
  [Td.sc
  (Value.int IntKind.u8
  (IntKind.wrap
  IntKind.u8
  (Int.ofNat
  (BitVec.toNat
  (BitVec.ofInt
  8
  (U8.v
  (List.getD
  (putL
  (listT
  U8
  (Td.fr
  (1 :
  Nat)
  (List.length
  l)
  c
  fun
  i =>
  encL
  l
  ((0 :
  Nat) +
  i))))
  ((0 :
  Nat) +
  ((0 :
  Nat) +
  Int.toNat
  (Int.tmod
  (IntKind.wrap
  IntKind.i64
  a)
  (Int.ofNat
  (List.length
  (putL
  (listT
  U8
  (Td.fr
  (1 :
  Nat)
  (List.length
  l)
  c
  fun
  i =>
  encL
  l
  ((0 :
  Nat) +
  i)))))))))
  Enc.dflt)) ^^^
  BitVec.ofInt
  8
  b)))))]
  (fun j =>
  encL
  (putL
  (listT U8
  (Td.fr 1
  (List.length l) c
  fun i =>
  encL l
  (0 +
  i))))
  (0 + j))
  (0 + i)))) ==
  (2 : Int))
  True)))))))))))))))))))))))))))))))))))))))) := by kernel_rfl
end Go.Proofs.Ytiodkfbmcnfooaa.Ev
