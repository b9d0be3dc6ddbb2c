/-
  What has to hold: printed by the evaluator.
-/
import Derived.Test.YtpejhdbllphdaaaMlO
set_option linter.unusedVariables false
set_option maxRecDepth 1000000
namespace Go.Proofs.Ytpejhdbllphdaaa.Ev
open Go Go.Proofs
def argW (w : Wr) : Value := .agg ⟨[.int .i64 w.s, .int .i64 w.d, .slice (some ⟨1, 0, some 0⟩) w.a.length w.ca, .slice (some ⟨2, 0, some 0⟩) w.v.length w.cv]⟩
def addWr (l : List Wr) (w : Wr) : List Wr := if 3 ≤ l.length then l else l ++ [w]
def addEr (l : List Wr) : Int := if 3 ≤ l.length then 10 else 0
theorem vc_add (l : List Wr) (w : Wr) (c : Nat) (β : Bs) (K : AE → List (Option AObj) → Prop) : lawE Try.prog toldT 100 20 β (fun _ => 0) (cnOf 3 fun _ => []) (fun _ _ => False) 9 [.slice (some ⟨0, 0, some 0⟩) l.length c, argW w] (mkS [some (rowO .look l), some (rowO .look w.a), some (rowO .look w.v)]) (outK K) =
(  br (decide (Int.ofNat (List.length l) ≥ (3 : Int)))
  (need (true && Nat.ble (0 + List.length l) (List.length l))
  (need
  (ok1 Wr (fun l x => List.all l (okA Wr))
  [Ta.cell (Td.fr 4 (List.length l) c fun i => encL l (0 + i))])
  (K
  (AE.returned
  (Value.tuple
  (Array.mk
  [Value.slice (some (Addr.mk 5 0 (some 0)))
  (List.length (listT Wr (Td.fr 4 (List.length l) c fun i => encL l (0 + i))))
  1,
  Value.int IntKind.i64 (10 : Int)])))
  [some (AObj.row Rk.look 4 0 (List.length l) (encL l)),
  some (AObj.row Rk.look 1 0 (List.length (Wr.a w)) (encL (Wr.a w))),
  some (AObj.row Rk.look 3 0 (List.length (Wr.v w)) (encL (Wr.v w))),
  some
  (AObj.cells
  [Value.int IntKind.i64 (Wr.s w), Value.int IntKind.i64 (Wr.d w),
  Value.slice (some (Addr.mk 1 0 (some 0))) (List.length (Wr.a w)) (Wr.ca w),
  Value.slice (some (Addr.mk 2 0 (some 0))) (List.length (Wr.v w)) (Wr.cv w)]
  true 0),
  none,
  some
  (AObj.row Rk.mine 4 0
  (List.length (listT Wr (Td.fr 4 (List.length l) c fun i => encL l (0 + i))))
  (encL (listT Wr (Td.fr 4 (List.length l) c fun i => encL l (0 + i)))))])))
  (need (true && Nat.ble (0 + List.length l) (List.length l))
  (need
  (ok1 Wr (fun l x => List.all l (okA Wr))
  [Ta.cell (Td.fr 4 (List.length l) c fun i => encL l (0 + i))])
  (need (true && Nat.ble (0 + List.length (Wr.a w)) (List.length (Wr.a w)))
  (need
  (okC 1
  [Ta.cell (Td.fr 1 (List.length (Wr.a w)) (Wr.ca w) fun i => encL (Wr.a w) (0 + i))])
  (need (true && Nat.ble (0 + List.length (Wr.v w)) (List.length (Wr.v w)))
  (need
  (okC 3
  [Ta.cell (Td.fr 3 (List.length (Wr.v w)) (Wr.cv w) fun i => encL (Wr.v w) (0 + i))])
  (need (true && Nat.ble (0 + List.length (Wr.a w)) (List.length (Wr.a w)))
  (need (true && Nat.ble (0 + List.length (Wr.v w)) (List.length (Wr.v w)))
  (need
  (Nat.ble
  (List.length (listT Wr (Td.fr 4 (List.length l) c fun i => encL l (0 + i))) +
  1)
  1000000)
  (need
  (true &&
  Nat.ble
  (0 +
  List.length (listT Wr (Td.fr 4 (List.length l) c fun i => encL l (0 + i))))
  (List.length (listT Wr (Td.fr 4 (List.length l) c fun i => encL l (0 + i)))))
  (K
  (AE.returned
  (Value.tuple
  (Array.mk
  [Value.slice (some (Addr.mk 15 0 (some 0)))
  (List.length
  (listT Wr (Td.fr 4 (List.length l) c fun i => encL l (0 + i))) +
  1)
  1,
  Value.int IntKind.i64 (0 : Int)])))
  [some (AObj.row Rk.look 4 0 (List.length l) (encL l)),
  some (AObj.row Rk.look 1 0 (List.length (Wr.a w)) (encL (Wr.a w))),
  some (AObj.row Rk.look 3 0 (List.length (Wr.v w)) (encL (Wr.v w))),
  some
  (AObj.cells
  [Value.int IntKind.i64 (Wr.s w), Value.int IntKind.i64 (Wr.d w),
  Value.slice (some (Addr.mk 1 0 (some 0))) (List.length (Wr.a w))
  (Wr.ca w),
  Value.slice (some (Addr.mk 2 0 (some 0))) (List.length (Wr.v w))
  (Wr.cv w)]
  true 0),
  none, none,
  some
  (AObj.cells
  [Value.int IntKind.i64 (Wr.s w), Value.int IntKind.i64 (Wr.d w),
  Value.slice (some (Addr.mk 9 0 (some 0))) (List.length (Wr.a w))
  (Wr.ca w),
  Value.slice (some (Addr.mk 11 0 (some 0)))
  (List.length (Wr.v w)) (Wr.cv w)]
  true 0),
  some
  (AObj.cells
  [Value.int IntKind.i64 (Wr.s w), Value.int IntKind.i64 (Wr.d w),
  Value.slice (some (Addr.mk 9 0 (some 0))) (List.length (Wr.a w))
  (Wr.ca w),
  Value.slice (some (Addr.mk 11 0 (some 0)))
  (List.length (Wr.v w)) (Wr.cv w)]
  true 0),
  none,
  some
  (AObj.row Rk.still 1 0 (List.length (Wr.a w)) fun i =>
  encL (Wr.a w) (0 + i)),
  none,
  some
  (AObj.row Rk.still 3 0 (List.length (Wr.v w)) fun i =>
  encL (Wr.v w) (0 + i)),
  some
  (AObj.cells
  [Value.int IntKind.i64 (Wr.s w), Value.int IntKind.i64 (Wr.d w),
  Value.slice (some (Addr.mk 9 0 (some 0))) (List.length (Wr.a w))
  (Wr.ca w),
  Value.slice (some (Addr.mk 11 0 (some 0)))
  (List.length (Wr.v w)) (Wr.cv w)]
  true 4),
  none, none,
  some
  (AObj.row Rk.mine 4 0
  (List.length
  (listT Wr (Td.fr 4 (List.length l) c fun i => encL l (0 + i))) +
  1)
  fun j k =>
  mrgT
  (Nat.blt j
  (List.length
  (listT Wr (Td.fr 4 (List.length l) c fun i => encL l (0 + i)))))
  (encL (listT Wr (Td.fr 4 (List.length l) c fun i => encL l (0 + i)))
  (0 + j) k)
  (selT 4 1
  [Td.sc (Value.int IntKind.i64 (Wr.s w)), Td.sc (Value.int IntKind.i64 (Wr.d w)),
  Td.fr 1 (List.length (Wr.a w)) (Wr.ca w) fun i =>
  (fun i => encL (Wr.a w) (0 + i)) (0 + i),
  Td.fr 3 (List.length (Wr.v w)) (Wr.cv w) fun i =>
  (fun i => encL (Wr.v w) (0 + i)) (0 + i)]
  (j -
  List.length
  (listT Wr (Td.fr 4 (List.length l) c fun i => encL l (0 + i))))
  k))])))))))))))) := by kernel_rfl
end Go.Proofs.Ytpejhdbllphdaaa.Ev
