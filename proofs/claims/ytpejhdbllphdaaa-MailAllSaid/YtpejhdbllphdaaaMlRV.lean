/-
  ref16.Drain: what has to hold.
-/
import Derived.Test.YtpejhdbllphdaaaMlDr
set_option linter.unusedVariables false
set_option maxRecDepth 1000000
namespace Go.Proofs.Ytpejhdbllphdaaa.Ev
open Go Go.Proofs
def slRo : List Nat := [0, 5, 6]
def slRi : List Nat := [0, 5, 6, 7]
def lvR (b : Nat) : List Nat := cond (Nat.beq b 0) slRo slRi
def lvRo : AX → List Nat := fun x => slRo
def lvRi : AX → List Nat := fun x => match x with
  | .normal => slRi
  | _ => slRo
def FRo (l : List Wr) (out : List Vl) (c : Nat) (i : Int) : AFr := mkF 66 [(0, .slice (some ⟨0, 0, some 0⟩) l.length c), (5, .slice (some ⟨2, 0, some 0⟩) out.length 0), (6, .int .i64 i)]
def FRi (l : List Wr) (out : List Vl) (c : Nat) (i k : Int) : AFr := mkF 66 [(0, .slice (some ⟨0, 0, some 0⟩) l.length c), (5, .slice (some ⟨2, 0, some 0⟩) out.length 0), (6, .int .i64 i), (7, .int .i64 k)]
def exRo (l : List Wr) (img : List Vl) (c : Nat) : Nat → Kt → Prop := fun b K => K (.exit b) (FRo l (drL l img l.length) c l.length) (SDo l img (drL l img l.length))
def exRi (l : List Wr) (img out : List Vl) (w : Wr) (c : Nat) (i : Int) : Nat → Kt → Prop := fun b K => K (.exit b) (FRo l (drW w out w.a.length) c i) (SDo l img (drW w out w.a.length))
def shpRo (l : List Wr) (img out : List Vl) (c : Nat) (i' : Int) : AFr × ASt := (FRo l out c i', SDo l img out)
def shpRi (l : List Wr) (img out : List Vl) (c : Nat) (i : Int) (k' : Int) : AFr × ASt := (FRi l out c i k', SDo l img out)
theorem vc_rd (l : List Wr) (img : List Vl) (c d : Nat) (β : Bs) (K : AE → ASt → Prop) : lawE Try.prog toldT 100 20 β (fun _ => 0) (cnOf 2 lvR) (exRo l img c) 13 [.slice (some ⟨0, 0, some 0⟩) l.length c, .slice (some ⟨1, 0, some 0⟩) img.length d] (mkS [some (rowO .look l), some (rowO .look img)]) K =
(  need (true && Nat.ble (0 + List.length img) (List.length img))
  (need (Nat.ble (0 + List.length img) 1000000)
  (LoopJ Try.prog β (exRo l img c) 0 (loopOf Try.prog 13 0)
  (mkF 66
  [(0, Value.slice (some (Addr.mk 0 0 (some 0))) (List.length l) c),
  (5, Value.slice (some (Addr.mk 2 0 (some 0))) (List.length img) 0),
  (6, Value.int IntKind.i64 (0 : Int))])
  (mkS
  [some (AObj.row Rk.look 4 0 (List.length l) (encL l)),
  some (AObj.row Rk.look 3 0 (List.length img) (encL img)),
  some (AObj.row Rk.mine 3 0 (List.length img) fun j => encL img (0 + j))]) ∧
  K
  (AE.returned
  (Value.slice (some (Addr.mk 2 0 (some 0))) (List.length (drL l img (List.length l)))
  0))
  (SDo l img (drL l img (List.length l)))))) := by kernel_rfl
theorem vc_ro_r (l : List Wr) (img out : List Vl) (c : Nat) (i : Int) (β : Bs) (N : Kt) : roundJ Try.prog toldT 100 20 β (fun _ => 0) (cnOf 2 lvR) (exRi l img out (l.getD i.toNat Enc.dflt) c i) 13 0 2 lvRo (FRo l out c i) (SDo l img out) N =
(  br (decide (i < Int.ofNat (List.length l)))
  (LoopJ Try.prog β (exRi l img out (List.getD l (Int.toNat i) Enc.dflt) c i) 2
  (loopOf Try.prog 13 2) (FRi l out c i (0 : Int)) (SDo l img out) ∧
  N AX.normal
  (mkF 66
  [(0, Value.slice (some (Addr.mk 0 0 (some 0))) (List.length l) c),
  (5,
  Value.slice (some (Addr.mk 2 0 (some 0)))
  (List.length
  (drW (List.getD l (Int.toNat i) Enc.dflt) out
  (List.length (Wr.a (List.getD l (Int.toNat i) Enc.dflt)))))
  0),
  (6, Value.int IntKind.i64 (IntKind.wrap IntKind.i64 (i + (1 : Int))))])
  (mkS
  [some (AObj.row Rk.look 4 0 (List.length l) (encL l)),
  some (AObj.row Rk.look 3 0 (List.length img) (encL img)),
  some
  (AObj.row Rk.mine 3 0
  (List.length
  (drW (List.getD l (Int.toNat i) Enc.dflt) out
  (List.length (Wr.a (List.getD l (Int.toNat i) Enc.dflt)))))
  (encL
  (drW (List.getD l (Int.toNat i) Enc.dflt) out
  (List.length (Wr.a (List.getD l (Int.toNat i) Enc.dflt))))))]))
  (onP N (AX.exit 0) (shpRo l img out c i))) := by kernel_rfl
theorem vc_ri_r (l : List Wr) (img out : List Vl) (c : Nat) (i k : Int) (β : Bs) (N : Kt) (ex : Nat → Kt → Prop) : roundJ Try.prog toldT 100 20 β (fun _ => 0) (cnOf 2 lvR) ex 13 2 2 lvRi (FRi l out c i k) (SDo l img out) N =
(  need (decide ((0 : Int) ≤ i))
  (need (Nat.blt (Int.toNat i) (List.length l))
  (need (Nat.ble 0 (0 + Int.toNat i) && Nat.blt (0 + Int.toNat i) (List.length l))
  (br (decide (k < Int.ofNat (List.length (Wr.a (List.getD l (0 + Int.toNat i) Enc.dflt)))))
  (need (decide ((0 : Int) ≤ i))
  (need (Nat.blt (Int.toNat i) (List.length l))
  (need (Nat.ble 0 (0 + Int.toNat i) && Nat.blt (0 + Int.toNat i) (List.length l))
  (br (decide (k < Int.ofNat (List.length (Wr.v (List.getD l (0 + Int.toNat i) Enc.dflt)))))
  (need (decide ((0 : Int) ≤ i))
  (need (Nat.blt (Int.toNat i) (List.length l))
  (need
  (Nat.ble 0 (0 + Int.toNat i) && Nat.blt (0 + Int.toNat i) (List.length l))
  (need (decide ((0 : Int) ≤ k))
  (need
  (Nat.blt (Int.toNat k) (List.length (Wr.a (List.getD l (0 + Int.toNat i) Enc.dflt))))
  (need
  (Nat.ble 0 (0 + Int.toNat k) &&
  Nat.blt (0 + Int.toNat k)
  (List.length (Wr.a (List.getD l (0 + Int.toNat i) Enc.dflt))))
  (br
  (decide
  (List.getD (Wr.a (List.getD l (0 + Int.toNat i) Enc.dflt))
  (0 + Int.toNat k) (0 : Int) ≥
  (0 : Int)))
  (br
  (decide
  (List.getD (Wr.a (List.getD l (0 + Int.toNat i) Enc.dflt))
  (0 + Int.toNat k) (0 : Int) <
  Int.ofNat (List.length out)))
  (need (decide ((0 : Int) ≤ i))
  (need (Nat.blt (Int.toNat i) (List.length l))
  (need
  (Nat.ble 0 (0 + Int.toNat i) &&
  Nat.blt (0 + Int.toNat i) (List.length l))
  (need (decide ((0 : Int) ≤ k))
  (need
  (Nat.blt (Int.toNat k)
  (List.length (Wr.v (List.getD l (0 + Int.toNat i) Enc.dflt))))
  (need
  (Nat.ble 0 (0 + Int.toNat k) &&
  Nat.blt (0 + Int.toNat k)
  (List.length (Wr.v (List.getD l (0 + Int.toNat i) Enc.dflt))))
  (need
  (decide
  ((0 : Int) ≤
  List.getD (Wr.a (List.getD l (0 + Int.toNat i) Enc.dflt))
  (0 + Int.toNat k) (0 : Int)))
  (need
  (Nat.blt
  (Int.toNat
  (List.getD (Wr.a (List.getD l (0 + Int.toNat i) Enc.dflt))
  (0 + Int.toNat k) (0 : Int)))
  (List.length out))
  (need
  (Nat.blt
  (0 +
  Int.toNat
  (List.getD
  (Wr.a (List.getD l (0 + Int.toNat i) Enc.dflt))
  (0 + Int.toNat k) (0 : Int)))
  (List.length out))
  (N AX.normal
  (mkF 66
  [(0,
  Value.slice
  (some (Addr.mk 0 0 (some 0)))
  (List.length l) c),
  (5,
  Value.slice
  (some (Addr.mk 2 0 (some 0)))
  (List.length out) 0),
  (6, Value.int IntKind.i64 i),
  (7,
  Value.int IntKind.i64
  (IntKind.wrap IntKind.i64 (k + (1 : Int))))])
  (mkS
  [some
  (AObj.row Rk.look 4 0 (List.length l)
  (encL l)),
  some
  (AObj.row Rk.look 3 0 (List.length img)
  (encL img)),
  some
  (AObj.row Rk.mine 3 0 (List.length out)
  (putT
  (0 +
  Int.toNat
  (List.getD
  (Wr.a
  (List.getD l (0 + Int.toNat i) Enc.dflt))
  (0 + Int.toNat k) (0 : Int)))
  0
  [Td.sc
  (Value.int IntKind.i64
  (Vl.k
  (List.getD
  (Wr.v
  (List.getD l (0 + Int.toNat i)
  Enc.dflt))
  (0 + Int.toNat k) Enc.dflt))),
  Td.sc
  (Value.int IntKind.i64
  (Vl.i
  (List.getD
  (Wr.v
  (List.getD l (0 + Int.toNat i)
  Enc.dflt))
  (0 + Int.toNat k) Enc.dflt))),
  Td.sc
  (Value.float FloatKind.f64
  (Vl.f
  (List.getD
  (Wr.v
  (List.getD l (0 + Int.toNat i)
  Enc.dflt))
  (0 + Int.toNat k) Enc.dflt)))]
  (encL out)))])))))))))))
  (onP N AX.normal (shpRi l img out c i (IntKind.wrap IntKind.i64 (k + (1 : Int))))))
  (onP N AX.normal (shpRi l img out c i (IntKind.wrap IntKind.i64 (k + (1 : Int))))))))))))
  (onP N (AX.exit 2) (shpRo l img out c i))))))
  (onP N (AX.exit 2) (shpRo l img out c i)))))) := by kernel_rfl
end Go.Proofs.Ytpejhdbllphdaaa.Ev
