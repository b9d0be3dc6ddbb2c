/-
  What has to hold: printed by the evaluator.
-/
import Derived.Test.YtiodkfbmcnfooaaEqU
set_option linter.unusedVariables false
set_option maxRecDepth 1000000
namespace Go.Proofs.Ytiodkfbmcnfooaa.Ev
open Go Go.Proofs
theorem vc_putr (l : List U8) (c : Nat) (β : Bs) (K : AE → List (Option AObj) → Prop) : lawE Try.prog toldE 100 20 β (fun _ => 8) (cnOf 1 fun _ => []) (fun _ _ => False) 9 [.slice (some ⟨0, 0, some 0⟩) l.length c] (mkS [some (rowO .look l)]) (outK K) =
(  br (decide (Int.ofNat (List.length l) > (200 : Int)))
  (K (AE.returned (Value.tuple (Array.mk [Value.slice none 0 0, Value.bool false])))
  [some (AObj.row Rk.look 1 0 (List.length l) (encL l))])
  (need (true && Nat.ble (0 + List.length l) (List.length l))
  (need (Nat.ble (2 + List.length l) 1000000)
  (need (true && Nat.ble (0 + (2 + List.length l)) (2 + List.length l))
  (need
  (ok1 U8 (fun l x => List.all l (okA U8))
  [Ta.cell
  (Td.fr 1 (2 + List.length l) 1 fun i k =>
  mrgT (Nat.blt (0 + i) 2)
  (putT 0 0
  [Td.sc
  (Value.int IntKind.u8
  (IntKind.wrap IntKind.u8
  (Int.tmod
  (IntKind.wrap IntKind.u64
  (Int.tdiv (IntKind.wrap IntKind.u64 (Int.ofNat (List.length l))) (256 : Int)))
  (256 : Int))))]
  (putT 1 0
  [Td.sc
  (Value.int IntKind.u8
  (IntKind.wrap IntKind.u8
  (Int.tmod (IntKind.wrap IntKind.u64 (Int.ofNat (List.length l))) (256 : Int))))]
  fun x => nthT [Td.sc (Value.int IntKind.u8 (0 : Int))])
  (0 + (0 + (0 + i))) k)
  (encL l (0 + (0 + i - 2)) k))])
  (need (Nat.ble (2 + List.length l + 4) 1000000)
  (need (true && Nat.ble (0 + (2 + List.length l)) (2 + List.length l))
  (K
  (AE.returned
  (Value.tuple
  (Array.mk
  [Value.slice (some (Addr.mk 6 0 (some 0)))
  (2 + List.length l + 4) 1,
  Value.bool true])))
  [some (AObj.row Rk.look 1 0 (List.length l) (encL l)),
  some
  (AObj.row Rk.mine 1 0 2
  (putT 0 0
  [Td.sc
  (Value.int IntKind.u8
  (IntKind.wrap IntKind.u8
  (Int.tmod
  (IntKind.wrap IntKind.u64
  (Int.tdiv (IntKind.wrap IntKind.u64 (Int.ofNat (List.length l))) (256 : Int)))
  (256 : Int))))]
  (putT 1 0
  [Td.sc
  (Value.int IntKind.u8
  (IntKind.wrap IntKind.u8
  (Int.tmod (IntKind.wrap IntKind.u64 (Int.ofNat (List.length l))) (256 : Int))))]
  fun x => nthT [Td.sc (Value.int IntKind.u8 (0 : Int))]))),
  none, none, none,
  some
  (AObj.row Rk.mine 1 0 4
  (putT 0 0
  [Td.sc
  (Value.int IntKind.u8
  (IntKind.wrap IntKind.u8
  (Int.tmod
  (IntKind.wrap IntKind.u64
  (Int.tdiv
  (IntKind.wrap IntKind.u64
  (Int.tdiv
  (IntKind.wrap IntKind.u64
  (Int.tdiv
  (IntKind.wrap IntKind.u64
  (Int.ofNat
  (refSum
  (natsU
  (listT U8
  (Td.fr 1 (2 + List.length l) 1
  fun i k =>
  mrgT (Nat.blt (0 + i) 2)
  (putT 0 0
  [Td.sc
  (Value.int IntKind.u8
  (IntKind.wrap IntKind.u8
  (Int.tmod
  (IntKind.wrap IntKind.u64
  (Int.tdiv
  (IntKind.wrap IntKind.u64
  (Int.ofNat (List.length l)))
  (256 : Int)))
  (256 : Int))))]
  (putT 1 0
  [Td.sc
  (Value.int IntKind.u8
  (IntKind.wrap IntKind.u8
  (Int.tmod
  (IntKind.wrap IntKind.u64
  (Int.ofNat (List.length l)))
  (256 : Int))))]
  fun x => nthT [Td.sc (Value.int IntKind.u8 (0 : Int))])
  (0 + (0 + (0 + i))) k)
  (encL l (0 + (0 + i - 2)) k)))))))
  (256 : Int)))
  (256 : Int)))
  (256 : Int)))
  (256 : Int))))]
  (putT 1 0
  [Td.sc
  (Value.int IntKind.u8
  (IntKind.wrap IntKind.u8
  (Int.tmod
  (IntKind.wrap IntKind.u64
  (Int.tdiv
  (IntKind.wrap IntKind.u64
  (Int.tdiv
  (IntKind.wrap IntKind.u64
  (Int.ofNat
  (refSum
  (natsU
  (listT U8
  (Td.fr 1 (2 + List.length l) 1 fun i k =>
  mrgT (Nat.blt (0 + i) 2)
  (putT 0 0
  [Td.sc
  (Value.int IntKind.u8
  (IntKind.wrap IntKind.u8
  (Int.tmod
  (IntKind.wrap IntKind.u64
  (Int.tdiv
  (IntKind.wrap IntKind.u64
  (Int.ofNat (List.length l)))
  (256 : Int)))
  (256 : Int))))]
  (putT 1 0
  [Td.sc
  (Value.int IntKind.u8
  (IntKind.wrap IntKind.u8
  (Int.tmod
  (IntKind.wrap IntKind.u64
  (Int.ofNat (List.length l)))
  (256 : Int))))]
  fun x => nthT [Td.sc (Value.int IntKind.u8 (0 : Int))])
  (0 + (0 + (0 + i))) k)
  (encL l (0 + (0 + i - 2)) k)))))))
  (256 : Int)))
  (256 : Int)))
  (256 : Int))))]
  (putT 2 0
  [Td.sc
  (Value.int IntKind.u8
  (IntKind.wrap IntKind.u8
  (Int.tmod
  (IntKind.wrap IntKind.u64
  (Int.tdiv
  (IntKind.wrap IntKind.u64
  (Int.ofNat
  (refSum
  (natsU
  (listT U8
  (Td.fr 1 (2 + List.length l) 1 fun i k =>
  mrgT (Nat.blt (0 + i) 2)
  (putT 0 0
  [Td.sc
  (Value.int IntKind.u8
  (IntKind.wrap IntKind.u8
  (Int.tmod
  (IntKind.wrap IntKind.u64
  (Int.tdiv
  (IntKind.wrap IntKind.u64
  (Int.ofNat (List.length l)))
  (256 : Int)))
  (256 : Int))))]
  (putT 1 0
  [Td.sc
  (Value.int IntKind.u8
  (IntKind.wrap IntKind.u8
  (Int.tmod
  (IntKind.wrap IntKind.u64
  (Int.ofNat (List.length l)))
  (256 : Int))))]
  fun x => nthT [Td.sc (Value.int IntKind.u8 (0 : Int))])
  (0 + (0 + (0 + i))) k)
  (encL l (0 + (0 + i - 2)) k)))))))
  (256 : Int)))
  (256 : Int))))]
  (putT 3 0
  [Td.sc
  (Value.int IntKind.u8
  (IntKind.wrap IntKind.u8
  (Int.tmod
  (IntKind.wrap IntKind.u64
  (Int.ofNat
  (refSum
  (natsU
  (listT U8
  (Td.fr 1 (2 + List.length l) 1 fun i k =>
  mrgT (Nat.blt (0 + i) 2)
  (putT 0 0
  [Td.sc
  (Value.int IntKind.u8
  (IntKind.wrap IntKind.u8
  (Int.tmod
  (IntKind.wrap IntKind.u64
  (Int.tdiv
  (IntKind.wrap IntKind.u64
  (Int.ofNat (List.length l)))
  (256 : Int)))
  (256 : Int))))]
  (putT 1 0
  [Td.sc
  (Value.int IntKind.u8
  (IntKind.wrap IntKind.u8
  (Int.tmod
  (IntKind.wrap IntKind.u64
  (Int.ofNat (List.length l)))
  (256 : Int))))]
  fun x => nthT [Td.sc (Value.int IntKind.u8 (0 : Int))])
  (0 + (0 + (0 + i))) k)
  (encL l (0 + (0 + i - 2)) k)))))))
  (256 : Int))))]
  fun x => nthT [Td.sc (Value.int IntKind.u8 (0 : Int))]))))),
  some
  (AObj.row Rk.mine 1 0 (2 + List.length l + 4) fun j k =>
  mrgT (Nat.blt j (2 + List.length l))
  (mrgT (Nat.blt (0 + j) 2)
  (putT 0 0
  [Td.sc
  (Value.int IntKind.u8
  (IntKind.wrap IntKind.u8
  (Int.tmod
  (IntKind.wrap IntKind.u64
  (Int.tdiv (IntKind.wrap IntKind.u64 (Int.ofNat (List.length l))) (256 : Int)))
  (256 : Int))))]
  (putT 1 0
  [Td.sc
  (Value.int IntKind.u8
  (IntKind.wrap IntKind.u8
  (Int.tmod (IntKind.wrap IntKind.u64 (Int.ofNat (List.length l))) (256 : Int))))]
  fun x => nthT [Td.sc (Value.int IntKind.u8 (0 : Int))])
  (0 + (0 + (0 + j))) k)
  (encL l (0 + (0 + j - 2)) k))
  (putT 0 0
  [Td.sc
  (Value.int IntKind.u8
  (IntKind.wrap IntKind.u8
  (Int.tmod
  (IntKind.wrap IntKind.u64
  (Int.tdiv
  (IntKind.wrap IntKind.u64
  (Int.tdiv
  (IntKind.wrap IntKind.u64
  (Int.tdiv
  (IntKind.wrap IntKind.u64
  (Int.ofNat
  (refSum
  (natsU
  (listT U8
  (Td.fr 1 (2 + List.length l) 1
  fun i k =>
  mrgT (Nat.blt (0 + i) 2)
  (putT 0 0
  [Td.sc
  (Value.int IntKind.u8
  (IntKind.wrap IntKind.u8
  (Int.tmod
  (IntKind.wrap IntKind.u64
  (Int.tdiv
  (IntKind.wrap IntKind.u64
  (Int.ofNat (List.length l)))
  (256 : Int)))
  (256 : Int))))]
  (putT 1 0
  [Td.sc
  (Value.int IntKind.u8
  (IntKind.wrap IntKind.u8
  (Int.tmod
  (IntKind.wrap IntKind.u64
  (Int.ofNat (List.length l)))
  (256 : Int))))]
  fun x =>
  nthT [Td.sc (Value.int IntKind.u8 (0 : Int))])
  (0 + (0 + (0 + i))) k)
  (encL l (0 + (0 + i - 2)) k)))))))
  (256 : Int)))
  (256 : Int)))
  (256 : Int)))
  (256 : Int))))]
  (putT 1 0
  [Td.sc
  (Value.int IntKind.u8
  (IntKind.wrap IntKind.u8
  (Int.tmod
  (IntKind.wrap IntKind.u64
  (Int.tdiv
  (IntKind.wrap IntKind.u64
  (Int.tdiv
  (IntKind.wrap IntKind.u64
  (Int.ofNat
  (refSum
  (natsU
  (listT U8
  (Td.fr 1 (2 + List.length l) 1
  fun i k =>
  mrgT (Nat.blt (0 + i) 2)
  (putT 0 0
  [Td.sc
  (Value.int IntKind.u8
  (IntKind.wrap IntKind.u8
  (Int.tmod
  (IntKind.wrap IntKind.u64
  (Int.tdiv
  (IntKind.wrap IntKind.u64
  (Int.ofNat (List.length l)))
  (256 : Int)))
  (256 : Int))))]
  (putT 1 0
  [Td.sc
  (Value.int IntKind.u8
  (IntKind.wrap IntKind.u8
  (Int.tmod
  (IntKind.wrap IntKind.u64
  (Int.ofNat (List.length l)))
  (256 : Int))))]
  fun x => nthT [Td.sc (Value.int IntKind.u8 (0 : Int))])
  (0 + (0 + (0 + i))) k)
  (encL l (0 + (0 + i - 2)) k)))))))
  (256 : Int)))
  (256 : Int)))
  (256 : Int))))]
  (putT 2 0
  [Td.sc
  (Value.int IntKind.u8
  (IntKind.wrap IntKind.u8
  (Int.tmod
  (IntKind.wrap IntKind.u64
  (Int.tdiv
  (IntKind.wrap IntKind.u64
  (Int.ofNat
  (refSum
  (natsU
  (listT U8
  (Td.fr 1 (2 + List.length l) 1 fun i k =>
  mrgT (Nat.blt (0 + i) 2)
  (putT 0 0
  [Td.sc
  (Value.int IntKind.u8
  (IntKind.wrap IntKind.u8
  (Int.tmod
  (IntKind.wrap IntKind.u64
  (Int.tdiv
  (IntKind.wrap IntKind.u64
  (Int.ofNat (List.length l)))
  (256 : Int)))
  (256 : Int))))]
  (putT 1 0
  [Td.sc
  (Value.int IntKind.u8
  (IntKind.wrap IntKind.u8
  (Int.tmod
  (IntKind.wrap IntKind.u64
  (Int.ofNat (List.length l)))
  (256 : Int))))]
  fun x => nthT [Td.sc (Value.int IntKind.u8 (0 : Int))])
  (0 + (0 + (0 + i))) k)
  (encL l (0 + (0 + i - 2)) k)))))))
  (256 : Int)))
  (256 : Int))))]
  (putT 3 0
  [Td.sc
  (Value.int IntKind.u8
  (IntKind.wrap IntKind.u8
  (Int.tmod
  (IntKind.wrap IntKind.u64
  (Int.ofNat
  (refSum
  (natsU
  (listT U8
  (Td.fr 1 (2 + List.length l) 1 fun i k =>
  mrgT (Nat.blt (0 + i) 2)
  (putT 0 0
  [Td.sc
  (Value.int IntKind.u8
  (IntKind.wrap IntKind.u8
  (Int.tmod
  (IntKind.wrap IntKind.u64
  (Int.tdiv
  (IntKind.wrap IntKind.u64
  (Int.ofNat (List.length l)))
  (256 : Int)))
  (256 : Int))))]
  (putT 1 0
  [Td.sc
  (Value.int IntKind.u8
  (IntKind.wrap IntKind.u8
  (Int.tmod
  (IntKind.wrap IntKind.u64
  (Int.ofNat (List.length l)))
  (256 : Int))))]
  fun x => nthT [Td.sc (Value.int IntKind.u8 (0 : Int))])
  (0 + (0 + (0 + i))) k)
  (encL l (0 + (0 + i - 2)) k)))))))
  (256 : Int))))]
  fun x => nthT [Td.sc (Value.int IntKind.u8 (0 : Int))])))
  (0 + (j - (2 + List.length l))) k))])))))))) := by kernel_rfl
end Go.Proofs.Ytiodkfbmcnfooaa.Ev
