/-
  mail.twin: what has to hold.
-/
import Derived.Test.YtpejhdbllphdaaaMlC
set_option linter.unusedVariables false
set_option maxRecDepth 1000000
namespace Go.Proofs.Ytpejhdbllphdaaa.Ev
open Go Go.Proofs
def slT : List Nat := [2, 5, 6, 7]
def lvT : AX → List Nat := fun x => slT
def FTw (l out : List Wr) (c : Nat) (i : Int) : AFr := mkF 18 [(2, .slice (some ⟨1, 0, some 0⟩) out.length 1), (5, .slice (some ⟨0, 0, some 0⟩) l.length c), (6, .int .i64 (Int.ofNat l.length)), (7, .int .i64 i)]
def STw (l out : List Wr) : ASt := mkS [some (rowO .look l), some (rowO .mine out)]
def exT (l : List Wr) (c : Nat) : Nat → Kt → Prop := fun b K => K (.exit b) (FTw l l c l.length) (STw l l)
theorem vc_tw (l : List Wr) (c : Nat) (β : Bs) (K : AE → ASt → Prop) : lawE Try.prog toldC 100 20 β (fun _ => 0) (cnOf 1 fun _ => slT) (exT l c) 15 [.slice (some ⟨0, 0, some 0⟩) l.length c] (mkS [some (rowO .look l)]) K =
(  LoopJ Try.prog β (exT l c) 0 (loopOf Try.prog 15 0)
  (mkF 18
  [(2, Value.slice none 0 0),
  (5, Value.slice (some (Addr.mk 0 0 (some 0))) (List.length l) c),
  (6, Value.int IntKind.i64 (Int.ofNat (List.length l))), (7, Value.int IntKind.i64 (0 : Int))])
  (mkS [some (AObj.row Rk.look 4 0 (List.length l) (encL l))]) ∧
  K (AE.returned (Value.slice (some (Addr.mk 1 0 (some 0))) (List.length l) 1))
  (STw l l)) := by kernel_rfl
theorem vc_tw_r (l out : List Wr) (c : Nat) (i : Int) (β : Bs) (N : Kt) (ex : Nat → Kt → Prop) : roundJ Try.prog toldC 100 20 β (fun _ => 0) (cnOf 1 fun _ => slT) ex 15 0 1 lvT (FTw l out c i) (STw l out) N =
(  br (decide (i < Int.ofNat (List.length l)))
  (need (decide ((0 : Int) ≤ i))
  (need (Nat.blt (Int.toNat i) (List.length l))
  (need (Nat.ble 0 (0 + Int.toNat i) && Nat.blt (0 + Int.toNat i) (List.length l))
  (need
  (true &&
  Nat.ble (0 + List.length (Wr.a (List.getD l (0 + Int.toNat i) Enc.dflt)))
  (List.length (Wr.a (List.getD l (0 + Int.toNat i) Enc.dflt))))
  (need
  (okC 1
  [Ta.cell
  (Td.fr 1 (List.length (Wr.a (List.getD l (0 + Int.toNat i) Enc.dflt)))
  (Wr.ca (List.getD l (0 + Int.toNat i) Enc.dflt)) fun i_1 =>
  encL (Wr.a (List.getD l (0 + Int.toNat i) Enc.dflt)) (0 + i_1))])
  (need
  (true &&
  Nat.ble (0 + List.length (Wr.v (List.getD l (0 + Int.toNat i) Enc.dflt)))
  (List.length (Wr.v (List.getD l (0 + Int.toNat i) Enc.dflt))))
  (need
  (okC 3
  [Ta.cell
  (Td.fr 3 (List.length (Wr.v (List.getD l (0 + Int.toNat i) Enc.dflt)))
  (Wr.cv (List.getD l (0 + Int.toNat i) Enc.dflt)) fun i_1 =>
  encL (Wr.v (List.getD l (0 + Int.toNat i) Enc.dflt)) (0 + i_1))])
  (need
  (true &&
  Nat.ble (0 + List.length (Wr.a (List.getD l (0 + Int.toNat i) Enc.dflt)))
  (List.length (Wr.a (List.getD l (0 + Int.toNat i) Enc.dflt))))
  (need
  (true &&
  Nat.ble (0 + List.length (Wr.v (List.getD l (0 + Int.toNat i) Enc.dflt)))
  (List.length (Wr.v (List.getD l (0 + Int.toNat i) Enc.dflt))))
  (need (Nat.ble (List.length out + 1) 1000000)
  (need (true && Nat.ble (0 + List.length out) (List.length out))
  (N AX.normal
  (mkF 18
  [(2,
  Value.slice (some (Addr.mk 1 0 (some 0)))
  (List.length out + 1) 1),
  (5,
  Value.slice (some (Addr.mk 0 0 (some 0))) (List.length l) c),
  (6, Value.int IntKind.i64 (Int.ofNat (List.length l))),
  (7, Value.int IntKind.i64 (IntKind.wrap IntKind.i64 (i + (1 : Int))))])
  (mkS
  [some (AObj.row Rk.look 4 0 (List.length l) (encL l)),
  some
  (AObj.row Rk.mine 4 0 (List.length out + 1) fun j k =>
  mrgT (Nat.blt j (List.length out)) (encL out (0 + j) k)
  (selT 4 1
  [Td.sc
  (Value.int IntKind.i64
  (Wr.s (List.getD l (0 + Int.toNat i) Enc.dflt))),
  Td.sc
  (Value.int IntKind.i64
  (Wr.d (List.getD l (0 + Int.toNat i) Enc.dflt))),
  Td.fr 1
  (List.length (Wr.a (List.getD l (0 + Int.toNat i) Enc.dflt)))
  (Wr.ca (List.getD l (0 + Int.toNat i) Enc.dflt)) fun i_1 =>
  (fun i_2 =>
  encL (Wr.a (List.getD l (0 + Int.toNat i) Enc.dflt))
  (0 + i_2))
  (0 + i_1),
  Td.fr 3
  (List.length (Wr.v (List.getD l (0 + Int.toNat i) Enc.dflt)))
  (Wr.cv (List.getD l (0 + Int.toNat i) Enc.dflt)) fun i_1 =>
  (fun i_2 =>
  encL (Wr.v (List.getD l (0 + Int.toNat i) Enc.dflt))
  (0 + i_2))
  (0 + i_1)]
  (j - List.length out) k))])))))))))))))
  (N (AX.exit 0)
  (mkF 18
  [(2, Value.slice (some (Addr.mk 1 0 (some 0))) (List.length out) 1),
  (5, Value.slice (some (Addr.mk 0 0 (some 0))) (List.length l) c),
  (6, Value.int IntKind.i64 (Int.ofNat (List.length l))), (7, Value.int IntKind.i64 i)])
  (mkS
  [some (AObj.row Rk.look 4 0 (List.length l) (encL l)),
  some (AObj.row Rk.mine 4 0 (List.length out) (encL out))]))) := by kernel_rfl
end Go.Proofs.Ytpejhdbllphdaaa.Ev
