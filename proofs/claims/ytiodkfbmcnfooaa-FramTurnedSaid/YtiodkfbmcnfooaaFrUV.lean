/-
  What has to hold: printed by the evaluator.
-/
import Derived.Test.YtiodkfbmcnfooaaFrPu
set_option linter.unusedVariables false
set_option maxRecDepth 1000000
namespace Go.Proofs.Ytiodkfbmcnfooaa.Ev
open Go Go.Proofs
theorem vc_taker (l : List U8) (c : Nat) (β : Bs) (K : AE → List (Option AObj) → Prop) : lawE Try.prog toldP 100 20 β (fun _ => 8) (cnOf 1 fun _ => []) (fun _ _ => False) 11 [.slice (some ⟨0, 0, some 0⟩) l.length c] (mkS [some (rowO .look l)]) (outK K) =
(  br (decide (Int.ofNat (List.length l) < (2 : Int)))
  (K
  (AE.returned
  (Value.tuple
  (Array.mk
  [Value.slice none 0 0, Value.int IntKind.i64 (0 : Int), Value.int IntKind.i64 (11 : Int)])))
  [some (AObj.row Rk.look 1 0 (List.length l) (encL l))])
  (need (Nat.blt 0 (List.length l))
  (need (true && Nat.blt 0 (List.length l))
  (need (Nat.blt 1 (List.length l))
  (need (true && Nat.blt 1 (List.length l))
  (br
  (decide
  (IntKind.wrap IntKind.i64
  (IntKind.wrap IntKind.i64
  (IntKind.wrap IntKind.i64 (U8.v (List.getD l 0 Enc.dflt)) * (256 : Int)) +
  IntKind.wrap IntKind.i64 (U8.v (List.getD l 1 Enc.dflt))) >
  (200 : Int)))
  (K
  (AE.returned
  (Value.tuple
  (Array.mk
  [Value.slice none 0 0, Value.int IntKind.i64 (0 : Int),
  Value.int IntKind.i64 (2 : Int)])))
  [some (AObj.row Rk.look 1 0 (List.length l) (encL l))])
  (br
  (decide
  (Int.ofNat (List.length l) <
  IntKind.wrap IntKind.i64
  (IntKind.wrap IntKind.i64
  (IntKind.wrap IntKind.i64
  (IntKind.wrap IntKind.i64 (U8.v (List.getD l 0 Enc.dflt)) * (256 : Int)) +
  IntKind.wrap IntKind.i64 (U8.v (List.getD l 1 Enc.dflt))) +
  (6 : Int))))
  (K
  (AE.returned
  (Value.tuple
  (Array.mk
  [Value.slice none 0 0, Value.int IntKind.i64 (0 : Int),
  Value.int IntKind.i64 (11 : Int)])))
  [some (AObj.row Rk.look 1 0 (List.length l) (encL l))])
  (need
  (decide
  ((0 : Int) ≤
  IntKind.wrap IntKind.i64
  ((2 : Int) +
  IntKind.wrap IntKind.i64
  (IntKind.wrap IntKind.i64
  (IntKind.wrap IntKind.i64 (U8.v (List.getD l 0 Enc.dflt)) * (256 : Int)) +
  IntKind.wrap IntKind.i64 (U8.v (List.getD l 1 Enc.dflt))))))
  (need
  (Nat.ble
  (Int.toNat
  (IntKind.wrap IntKind.i64
  ((2 : Int) +
  IntKind.wrap IntKind.i64
  (IntKind.wrap IntKind.i64
  (IntKind.wrap IntKind.i64 (U8.v (List.getD l 0 Enc.dflt)) * (256 : Int)) +
  IntKind.wrap IntKind.i64 (U8.v (List.getD l 1 Enc.dflt))))))
  (List.length l))
  (need
  (Nat.ble 2
  (Int.toNat
  (IntKind.wrap IntKind.i64
  ((2 : Int) +
  IntKind.wrap IntKind.i64
  (IntKind.wrap IntKind.i64
  (IntKind.wrap IntKind.i64 (U8.v (List.getD l 0 Enc.dflt)) * (256 : Int)) +
  IntKind.wrap IntKind.i64 (U8.v (List.getD l 1 Enc.dflt)))))))
  (need
  (true &&
  Nat.ble
  (2 +
  (Int.toNat
  (IntKind.wrap IntKind.i64
  ((2 : Int) +
  IntKind.wrap IntKind.i64
  (IntKind.wrap IntKind.i64
  (IntKind.wrap IntKind.i64 (U8.v (List.getD l 0 Enc.dflt)) *
  (256 : Int)) +
  IntKind.wrap IntKind.i64 (U8.v (List.getD l 1 Enc.dflt))))) -
  2))
  (List.length l))
  (need
  (ok1 U8 (fun l x => List.all l (okA U8))
  [Ta.cell
  (Td.fr 1
  (Int.toNat
  (IntKind.wrap IntKind.i64
  ((2 : Int) +
  IntKind.wrap IntKind.i64
  (IntKind.wrap IntKind.i64
  (IntKind.wrap IntKind.i64 (U8.v (List.getD l 0 Enc.dflt)) *
  (256 : Int)) +
  IntKind.wrap IntKind.i64 (U8.v (List.getD l 1 Enc.dflt))))) -
  2)
  (bif Nat.beq (List.length l) 0 then c else 0) fun i =>
  encL l (2 + i))])
  (need
  (true &&
  Nat.ble
  (0 +
  List.length
  (putL
  (listT U8
  (Td.fr 1
  (Int.toNat
  (IntKind.wrap IntKind.i64
  ((2 : Int) +
  IntKind.wrap IntKind.i64
  (IntKind.wrap IntKind.i64
  (IntKind.wrap IntKind.i64
  (U8.v (List.getD l 0 Enc.dflt)) *
  (256 : Int)) +
  IntKind.wrap IntKind.i64
  (U8.v (List.getD l 1 Enc.dflt))))) -
  2)
  (bif Nat.beq (List.length l) 0 then c else 0) fun i =>
  encL l (2 + i)))))
  (List.length
  (putL
  (listT U8
  (Td.fr 1
  (Int.toNat
  (IntKind.wrap IntKind.i64
  ((2 : Int) +
  IntKind.wrap IntKind.i64
  (IntKind.wrap IntKind.i64
  (IntKind.wrap IntKind.i64 (U8.v (List.getD l 0 Enc.dflt)) *
  (256 : Int)) +
  IntKind.wrap IntKind.i64 (U8.v (List.getD l 1 Enc.dflt))))) -
  2)
  (bif Nat.beq (List.length l) 0 then c else 0) fun i =>
  encL l (2 + i))))))
  (need
  (allB
  (List.length
  (putL
  (listT U8
  (Td.fr 1
  (Int.toNat
  (IntKind.wrap IntKind.i64
  ((2 : Int) +
  IntKind.wrap IntKind.i64
  (IntKind.wrap IntKind.i64
  (IntKind.wrap IntKind.i64 (U8.v (List.getD l 0 Enc.dflt)) *
  (256 : Int)) +
  IntKind.wrap IntKind.i64 (U8.v (List.getD l 1 Enc.dflt))))) -
  2)
  (bif Nat.beq (List.length l) 0 then c else 0) fun i =>
  encL l (2 + i)))))
  fun j =>
  encL
  (putL
  (listT U8
  (Td.fr 1
  (Int.toNat
  (IntKind.wrap IntKind.i64
  ((2 : Int) +
  IntKind.wrap IntKind.i64
  (IntKind.wrap IntKind.i64
  (IntKind.wrap IntKind.i64 (U8.v (List.getD l 0 Enc.dflt)) *
  (256 : Int)) +
  IntKind.wrap IntKind.i64 (U8.v (List.getD l 1 Enc.dflt))))) -
  2)
  (bif Nat.beq (List.length l) 0 then c else 0) fun i =>
  encL l (2 + i))))
  (0 + j))
  (need
  (decide
  ((0 : Int) ≤
  IntKind.wrap IntKind.i64
  (IntKind.wrap IntKind.i64
  (IntKind.wrap IntKind.i64
  (IntKind.wrap IntKind.i64 (U8.v (List.getD l 0 Enc.dflt)) *
  (256 : Int)) +
  IntKind.wrap IntKind.i64 (U8.v (List.getD l 1 Enc.dflt))) +
  (6 : Int))))
  (need
  (Nat.ble
  (Int.toNat
  (IntKind.wrap IntKind.i64
  (IntKind.wrap IntKind.i64
  (IntKind.wrap IntKind.i64
  (IntKind.wrap IntKind.i64 (U8.v (List.getD l 0 Enc.dflt)) *
  (256 : Int)) +
  IntKind.wrap IntKind.i64 (U8.v (List.getD l 1 Enc.dflt))) +
  (6 : Int))))
  (List.length l))
  (need
  (true &&
  Nat.ble
  (0 +
  (Int.toNat
  (IntKind.wrap IntKind.i64
  (IntKind.wrap IntKind.i64
  (IntKind.wrap IntKind.i64
  (IntKind.wrap IntKind.i64
  (U8.v (List.getD l 0 Enc.dflt)) *
  (256 : Int)) +
  IntKind.wrap IntKind.i64 (U8.v (List.getD l 1 Enc.dflt))) +
  (6 : Int))) -
  0))
  (List.length l))
  (need
  (allB
  (Int.toNat
  (IntKind.wrap IntKind.i64
  (IntKind.wrap IntKind.i64
  (IntKind.wrap IntKind.i64
  (IntKind.wrap IntKind.i64 (U8.v (List.getD l 0 Enc.dflt)) *
  (256 : Int)) +
  IntKind.wrap IntKind.i64 (U8.v (List.getD l 1 Enc.dflt))) +
  (6 : Int))) -
  0)
  fun j => encL l (0 + j))
  (br
  (!List.map
  (fun j =>
  byteF
  (encL
  (putL
  (listT U8
  (Td.fr 1
  (Int.toNat
  (IntKind.wrap IntKind.i64
  ((2 : Int) +
  IntKind.wrap IntKind.i64
  (IntKind.wrap IntKind.i64
  (IntKind.wrap IntKind.i64
  (U8.v (List.getD l 0 Enc.dflt)) *
  (256 : Int)) +
  IntKind.wrap IntKind.i64
  (U8.v (List.getD l 1 Enc.dflt))))) -
  2)
  (bif Nat.beq (List.length l) 0 then c else 0)
  fun i => encL l (2 + i))))
  (0 + j) 0))
  (List.range
  (List.length
  (putL
  (listT U8
  (Td.fr 1
  (Int.toNat
  (IntKind.wrap IntKind.i64
  ((2 : Int) +
  IntKind.wrap IntKind.i64
  (IntKind.wrap IntKind.i64
  (IntKind.wrap IntKind.i64
  (U8.v (List.getD l 0 Enc.dflt)) *
  (256 : Int)) +
  IntKind.wrap IntKind.i64
  (U8.v (List.getD l 1 Enc.dflt))))) -
  2)
  (bif Nat.beq (List.length l) 0 then c else 0)
  fun i => encL l (2 + i)))))) ==
  List.map (fun j => byteF (encL l (0 + j) 0))
  (List.range
  (Int.toNat
  (IntKind.wrap IntKind.i64
  (IntKind.wrap IntKind.i64
  (IntKind.wrap IntKind.i64
  (IntKind.wrap IntKind.i64
  (U8.v (List.getD l 0 Enc.dflt)) *
  (256 : Int)) +
  IntKind.wrap IntKind.i64
  (U8.v (List.getD l 1 Enc.dflt))) +
  (6 : Int))) -
  0)))
  (K
  (AE.returned
  (Value.tuple
  (Array.mk
  [Value.slice none 0 0, Value.int IntKind.i64 (0 : Int),
  Value.int IntKind.i64 (2 : Int)])))
  [some (AObj.row Rk.look 1 0 (List.length l) (encL l)), none,
  some
  (AObj.row Rk.mine 1 0
  (List.length
  (putL
  (listT U8
  (Td.fr 1
  (Int.toNat
  (IntKind.wrap IntKind.i64
  ((2 : Int) +
  IntKind.wrap IntKind.i64
  (IntKind.wrap IntKind.i64
  (IntKind.wrap IntKind.i64
  (U8.v (List.getD l 0 Enc.dflt)) *
  (256 : Int)) +
  IntKind.wrap IntKind.i64
  (U8.v (List.getD l 1 Enc.dflt))))) -
  2)
  (bif Nat.beq (List.length l) 0 then c else 0)
  fun i => encL l (2 + i)))))
  (encL
  (putL
  (listT U8
  (Td.fr 1
  (Int.toNat
  (IntKind.wrap IntKind.i64
  ((2 : Int) +
  IntKind.wrap IntKind.i64
  (IntKind.wrap IntKind.i64
  (IntKind.wrap IntKind.i64
  (U8.v (List.getD l 0 Enc.dflt)) *
  (256 : Int)) +
  IntKind.wrap IntKind.i64
  (U8.v (List.getD l 1 Enc.dflt))))) -
  2)
  (bif Nat.beq (List.length l) 0 then c else 0)
  fun i => encL l (2 + i))))))])
  (need
  (decide
  ((0 : Int) ≤
  IntKind.wrap IntKind.i64
  ((2 : Int) +
  IntKind.wrap IntKind.i64
  (IntKind.wrap IntKind.i64
  (IntKind.wrap IntKind.i64
  (U8.v (List.getD l 0 Enc.dflt)) *
  (256 : Int)) +
  IntKind.wrap IntKind.i64 (U8.v (List.getD l 1 Enc.dflt))))))
  (need
  (Nat.ble
  (Int.toNat
  (IntKind.wrap IntKind.i64
  ((2 : Int) +
  IntKind.wrap IntKind.i64
  (IntKind.wrap IntKind.i64
  (IntKind.wrap IntKind.i64
  (U8.v (List.getD l 0 Enc.dflt)) *
  (256 : Int)) +
  IntKind.wrap IntKind.i64
  (U8.v (List.getD l 1 Enc.dflt))))))
  (List.length l))
  (need
  (Nat.ble 2
  (Int.toNat
  (IntKind.wrap IntKind.i64
  ((2 : Int) +
  IntKind.wrap IntKind.i64
  (IntKind.wrap IntKind.i64
  (IntKind.wrap IntKind.i64
  (U8.v (List.getD l 0 Enc.dflt)) *
  (256 : Int)) +
  IntKind.wrap IntKind.i64
  (U8.v (List.getD l 1 Enc.dflt)))))))
  (need
  (true &&
  Nat.ble
  (2 +
  (Int.toNat
  (IntKind.wrap IntKind.i64
  ((2 : Int) +
  IntKind.wrap IntKind.i64
  (IntKind.wrap IntKind.i64
  (IntKind.wrap IntKind.i64
  (U8.v (List.getD l 0 Enc.dflt)) *
  (256 : Int)) +
  IntKind.wrap IntKind.i64
  (U8.v (List.getD l 1 Enc.dflt))))) -
  2))
  (List.length l))
  (need
  (Nat.ble
  (0 +
  (Int.toNat
  (IntKind.wrap IntKind.i64
  ((2 : Int) +
  IntKind.wrap IntKind.i64
  (IntKind.wrap IntKind.i64
  (IntKind.wrap IntKind.i64
  (U8.v (List.getD l 0 Enc.dflt)) *
  (256 : Int)) +
  IntKind.wrap IntKind.i64
  (U8.v (List.getD l 1 Enc.dflt))))) -
  2))
  1000000)
  (K
  (AE.returned
  (Value.tuple
  (Array.mk
  [Value.slice
  (some (Addr.mk 4 0 (some 0)))
  (Int.toNat
  (IntKind.wrap IntKind.i64
  ((2 : Int) +
  IntKind.wrap IntKind.i64
  (IntKind.wrap IntKind.i64
  (IntKind.wrap IntKind.i64
  (U8.v (List.getD l 0 Enc.dflt)) *
  (256 : Int)) +
  IntKind.wrap IntKind.i64
  (U8.v (List.getD l 1 Enc.dflt))))) -
  2)
  0,
  Value.int IntKind.i64
  (IntKind.wrap IntKind.i64
  (IntKind.wrap IntKind.i64
  (IntKind.wrap IntKind.i64
  (IntKind.wrap IntKind.i64
  (U8.v (List.getD l 0 Enc.dflt)) *
  (256 : Int)) +
  IntKind.wrap IntKind.i64
  (U8.v (List.getD l 1 Enc.dflt))) +
  (6 : Int))),
  Value.int IntKind.i64 (0 : Int)])))
  [some (AObj.row Rk.look 1 0 (List.length l) (encL l)),
  none,
  some
  (AObj.row Rk.mine 1 0
  (List.length
  (putL
  (listT U8
  (Td.fr 1
  (Int.toNat
  (IntKind.wrap IntKind.i64
  ((2 : Int) +
  IntKind.wrap IntKind.i64
  (IntKind.wrap IntKind.i64
  (IntKind.wrap IntKind.i64
  (U8.v
  (List.getD l 0 Enc.dflt)) *
  (256 : Int)) +
  IntKind.wrap IntKind.i64
  (U8.v
  (List.getD l 1 Enc.dflt))))) -
  2)
  (bif Nat.beq (List.length l) 0 then c
  else 0)
  fun i => encL l (2 + i)))))
  (encL
  (putL
  (listT U8
  (Td.fr 1
  (Int.toNat
  (IntKind.wrap IntKind.i64
  ((2 : Int) +
  IntKind.wrap IntKind.i64
  (IntKind.wrap IntKind.i64
  (IntKind.wrap IntKind.i64
  (U8.v
  (List.getD l 0 Enc.dflt)) *
  (256 : Int)) +
  IntKind.wrap IntKind.i64
  (U8.v
  (List.getD l 1 Enc.dflt))))) -
  2)
  (bif Nat.beq (List.length l) 0 then c
  else 0)
  fun i => encL l (2 + i)))))),
  some (AObj.cells [] true 1),
  some
  (AObj.row Rk.mine 1 0
  (Int.toNat
  (IntKind.wrap IntKind.i64
  ((2 : Int) +
  IntKind.wrap IntKind.i64
  (IntKind.wrap IntKind.i64
  (IntKind.wrap IntKind.i64
  (U8.v (List.getD l 0 Enc.dflt)) *
  (256 : Int)) +
  IntKind.wrap IntKind.i64
  (U8.v (List.getD l 1 Enc.dflt))))) -
  2)
  fun j => encL l (2 + j))]))))))))))))))))))))))))) := by kernel_rfl
end Go.Proofs.Ytiodkfbmcnfooaa.Ev
