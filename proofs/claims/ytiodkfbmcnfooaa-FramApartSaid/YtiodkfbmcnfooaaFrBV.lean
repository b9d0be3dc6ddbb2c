/-
  What has to hold: printed by the evaluator.
-/
import Derived.Test.YtiodkfbmcnfooaaFrTa
set_option linter.unusedVariables false
set_option maxRecDepth 1000000
namespace Go.Proofs.Ytiodkfbmcnfooaa.Ev
open Go Go.Proofs
theorem vc_fp (l m : List U8) (c d : Nat) (β : Bs) : lawE Try.prog toldQ 100 20 β (fun _ => 8) (cnOf 2 fun _ => []) (fun _ _ => False) 6 [.slice (some ⟨0, 0, some 0⟩) l.length c, .slice (some ⟨1, 0, some 0⟩) m.length d] (mkS [some (rowO .still l), some (rowO .still m)]) trueE =
(  br (decide (Int.ofNat (List.length l) > (100 : Int))) True
  (br (decide (Int.ofNat (List.length m) > (100 : Int))) True
  (need (true && Nat.ble (0 + List.length l) (List.length l))
  (need
  (ok1 U8 (fun l x => List.all l (okA U8))
  [Ta.cell (Td.fr 1 (List.length l) c fun i => encL l (0 + i))])
  (need (true && Nat.ble (0 + List.length m) (List.length m))
  (need
  (ok1 U8 (fun l x => List.all l (okA U8))
  [Ta.cell (Td.fr 1 (List.length m) d fun i => encL m (0 + i))])
  (need (true && Nat.ble (0 + List.length l) (List.length l))
  (need (allB (List.length l) fun j => encL l (0 + j))
  (need (true && Nat.ble (0 + List.length m) (List.length m))
  (need (allB (List.length m) fun j => encL m (0 + j))
  (br
  (decide
  (Int.ofNat
  (List.length
  (putL (listT U8 (Td.fr 1 (List.length l) c fun i => encL l (0 + i))))) ≤
  Int.ofNat
  (List.length
  (putL (listT U8 (Td.fr 1 (List.length m) d fun i => encL m (0 + i)))))))
  (need
  (decide
  ((0 : Int) ≤
  if
  Int.ofNat
  (List.length
  (putL
  (listT U8
  (Td.fr 1 (List.length m) d fun i => encL m (0 + i))))) <
  Int.ofNat
  (List.length
  (putL
  (listT U8
  (Td.fr 1 (List.length l) c fun i => encL l (0 + i))))) then
  Int.ofNat
  (List.length
  (putL (listT U8 (Td.fr 1 (List.length m) d fun i => encL m (0 + i)))))
  else
  Int.ofNat
  (List.length
  (putL
  (listT U8 (Td.fr 1 (List.length l) c fun i => encL l (0 + i)))))))
  (need
  (Nat.ble
  (Int.toNat
  (if
  Int.ofNat
  (List.length
  (putL
  (listT U8
  (Td.fr 1 (List.length m) d fun i => encL m (0 + i))))) <
  Int.ofNat
  (List.length
  (putL
  (listT U8
  (Td.fr 1 (List.length l) c fun i => encL l (0 + i))))) then
  Int.ofNat
  (List.length
  (putL
  (listT U8 (Td.fr 1 (List.length m) d fun i => encL m (0 + i)))))
  else
  Int.ofNat
  (List.length
  (putL
  (listT U8 (Td.fr 1 (List.length l) c fun i => encL l (0 + i)))))))
  (List.length
  (putL (listT U8 (Td.fr 1 (List.length m) d fun i => encL m (0 + i))))))
  (need
  (true &&
  Nat.ble
  (0 +
  (Int.toNat
  (if
  Int.ofNat
  (List.length
  (putL
  (listT U8
  (Td.fr 1 (List.length m) d fun i =>
  encL m (0 + i))))) <
  Int.ofNat
  (List.length
  (putL
  (listT U8
  (Td.fr 1 (List.length l) c fun i =>
  encL l (0 + i))))) then
  Int.ofNat
  (List.length
  (putL
  (listT U8
  (Td.fr 1 (List.length m) d fun i => encL m (0 + i)))))
  else
  Int.ofNat
  (List.length
  (putL
  (listT U8
  (Td.fr 1 (List.length l) c fun i =>
  encL l (0 + i)))))) -
  0))
  (List.length
  (putL
  (listT U8 (Td.fr 1 (List.length m) d fun i => encL m (0 + i))))))
  (need
  (allB
  (Int.toNat
  (if
  Int.ofNat
  (List.length
  (putL
  (listT U8
  (Td.fr 1 (List.length m) d fun i =>
  encL m (0 + i))))) <
  Int.ofNat
  (List.length
  (putL
  (listT U8
  (Td.fr 1 (List.length l) c fun i =>
  encL l (0 + i))))) then
  Int.ofNat
  (List.length
  (putL
  (listT U8
  (Td.fr 1 (List.length m) d fun i => encL m (0 + i)))))
  else
  Int.ofNat
  (List.length
  (putL
  (listT U8
  (Td.fr 1 (List.length l) c fun i => encL l (0 + i)))))) -
  0)
  fun j =>
  encL
  (putL (listT U8 (Td.fr 1 (List.length m) d fun i => encL m (0 + i))))
  (0 + j))
  (need
  (true &&
  Nat.ble
  (0 +
  List.length
  (putL
  (listT U8
  (Td.fr 1 (List.length l) c fun i => encL l (0 + i)))))
  (List.length
  (putL
  (listT U8
  (Td.fr 1 (List.length l) c fun i => encL l (0 + i))))))
  (need
  (allB
  (List.length
  (putL
  (listT U8 (Td.fr 1 (List.length l) c fun i => encL l (0 + i)))))
  fun j =>
  encL
  (putL
  (listT U8 (Td.fr 1 (List.length l) c fun i => encL l (0 + i))))
  (0 + j))
  (need
  (decide
  (List.length
  (listT U8
  (Td.fr 1 (List.length l) c fun i => encL l (0 + i))) ≤
  200))
  (need
  (decide
  (List.length
  (listT U8
  (Td.fr 1 (List.length m) d fun i => encL m (0 + i))) ≤
  200))
  (need
  ((List.map
  (fun j =>
  byteF
  (encL
  (putL
  (listT U8
  (Td.fr 1 (List.length m) d fun i =>
  encL m (0 + i))))
  (0 + j) 0))
  (List.range
  (Int.toNat
  (if
  Int.ofNat
  (List.length
  (putL
  (listT U8
  (Td.fr 1 (List.length m) d fun i =>
  encL m (0 + i))))) <
  Int.ofNat
  (List.length
  (putL
  (listT U8
  (Td.fr 1 (List.length l) c fun i =>
  encL l (0 + i))))) then
  Int.ofNat
  (List.length
  (putL
  (listT U8
  (Td.fr 1 (List.length m) d fun i =>
  encL m (0 + i)))))
  else
  Int.ofNat
  (List.length
  (putL
  (listT U8
  (Td.fr 1 (List.length l) c fun i =>
  encL l (0 + i)))))) -
  0)) ==
  List.map
  (fun j =>
  byteF
  (encL
  (putL
  (listT U8
  (Td.fr 1 (List.length l) c fun i =>
  encL l (0 + i))))
  (0 + j) 0))
  (List.range
  (List.length
  (putL
  (listT U8
  (Td.fr 1 (List.length l) c fun i =>
  encL l (0 + i))))))) ==
  (List.map (fun j => byteF (encL l (0 + j) 0))
  (List.range (List.length l)) ==
  List.map (fun j => byteF (encL m (0 + j) 0))
  (List.range (List.length m))))
  (need
  (true &&
  Nat.ble
  (0 +
  List.length
  (putL
  (listT U8
  (Td.fr 1 (List.length l) c fun i =>
  encL l (0 + i)))))
  (List.length
  (putL
  (listT U8
  (Td.fr 1 (List.length l) c fun i =>
  encL l (0 + i))))))
  (need
  (allB
  (List.length
  (putL
  (listT U8
  (Td.fr 1 (List.length l) c fun i =>
  encL l (0 + i)))))
  fun j =>
  encL
  (putL
  (listT U8
  (Td.fr 1 (List.length l) c fun i =>
  encL l (0 + i))))
  (0 + j))
  (need
  (true &&
  Nat.ble
  (0 +
  List.length
  (putL
  (listT U8
  (Td.fr 1 (List.length m) d fun i =>
  encL m (0 + i)))))
  (List.length
  (putL
  (listT U8
  (Td.fr 1 (List.length m) d fun i =>
  encL m (0 + i))))))
  (need
  (allB
  (List.length
  (putL
  (listT U8
  (Td.fr 1 (List.length m) d fun i =>
  encL m (0 + i)))))
  fun j =>
  encL
  (putL
  (listT U8
  (Td.fr 1 (List.length m) d fun i =>
  encL m (0 + i))))
  (0 + j))
  (need
  ((List.map
  (fun j =>
  byteF
  (encL
  (putL
  (listT U8
  (Td.fr 1 (List.length l) c fun i =>
  encL l (0 + i))))
  (0 + j) 0))
  (List.range
  (List.length
  (putL
  (listT U8
  (Td.fr 1 (List.length l) c fun i =>
  encL l (0 + i)))))) ==
  List.map
  (fun j =>
  byteF
  (encL
  (putL
  (listT U8
  (Td.fr 1 (List.length m) d fun i =>
  encL m (0 + i))))
  (0 + j) 0))
  (List.range
  (List.length
  (putL
  (listT U8
  (Td.fr 1 (List.length m) d fun i =>
  encL m (0 + i))))))) ==
  (List.map (fun j => byteF (encL l (0 + j) 0))
  (List.range (List.length l)) ==
  List.map (fun j => byteF (encL m (0 + j) 0))
  (List.range (List.length m))))
  True))))))))))))))
  (need
  (decide
  (List.length (listT U8 (Td.fr 1 (List.length l) c fun i => encL l (0 + i))) ≤
  200))
  (need
  (decide
  (List.length
  (listT U8 (Td.fr 1 (List.length m) d fun i => encL m (0 + i))) ≤
  200))
  (need
  (false ==
  (List.map (fun j => byteF (encL l (0 + j) 0))
  (List.range (List.length l)) ==
  List.map (fun j => byteF (encL m (0 + j) 0))
  (List.range (List.length m))))
  (need
  (true &&
  Nat.ble
  (0 +
  List.length
  (putL
  (listT U8 (Td.fr 1 (List.length l) c fun i => encL l (0 + i)))))
  (List.length
  (putL
  (listT U8 (Td.fr 1 (List.length l) c fun i => encL l (0 + i))))))
  (need
  (allB
  (List.length
  (putL
  (listT U8 (Td.fr 1 (List.length l) c fun i => encL l (0 + i)))))
  fun j =>
  encL
  (putL
  (listT U8 (Td.fr 1 (List.length l) c fun i => encL l (0 + i))))
  (0 + j))
  (need
  (true &&
  Nat.ble
  (0 +
  List.length
  (putL
  (listT U8
  (Td.fr 1 (List.length m) d fun i => encL m (0 + i)))))
  (List.length
  (putL
  (listT U8
  (Td.fr 1 (List.length m) d fun i => encL m (0 + i))))))
  (need
  (allB
  (List.length
  (putL
  (listT U8
  (Td.fr 1 (List.length m) d fun i => encL m (0 + i)))))
  fun j =>
  encL
  (putL
  (listT U8
  (Td.fr 1 (List.length m) d fun i => encL m (0 + i))))
  (0 + j))
  (need
  ((List.map
  (fun j =>
  byteF
  (encL
  (putL
  (listT U8
  (Td.fr 1 (List.length l) c fun i =>
  encL l (0 + i))))
  (0 + j) 0))
  (List.range
  (List.length
  (putL
  (listT U8
  (Td.fr 1 (List.length l) c fun i =>
  encL l (0 + i)))))) ==
  List.map
  (fun j =>
  byteF
  (encL
  (putL
  (listT U8
  (Td.fr 1 (List.length m) d fun i =>
  encL m (0 + i))))
  (0 + j) 0))
  (List.range
  (List.length
  (putL
  (listT U8
  (Td.fr 1 (List.length m) d fun i =>
  encL m (0 + i))))))) ==
  (List.map (fun j => byteF (encL l (0 + j) 0))
  (List.range (List.length l)) ==
  List.map (fun j => byteF (encL m (0 + j) 0))
  (List.range (List.length m))))
  True))))))))))))))))))) := by kernel_rfl
end Go.Proofs.Ytiodkfbmcnfooaa.Ev
