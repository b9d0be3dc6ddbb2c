/-
  mail.Drain: what has to hold.
-/
import Derived.Test.YtpejhdbllphdaaaMlT2
set_option linter.unusedVariables false
set_option maxRecDepth 1000000
namespace Go.Proofs.Ytpejhdbllphdaaa.Ev
open Go Go.Proofs
def slDo : List Nat := [5, 12, 13, 14]
def slDi : List Nat := [5, 12, 13, 14, 7, 19, 20, 21]
def lvD (b : Nat) : List Nat := cond (Nat.beq b 0) slDo slDi
def lvDo : AX → List Nat := fun x => slDo
def lvDi : AX → List Nat := fun x => match x with
  | .normal => slDi
  | _ => slDo
def FDo (l : List Wr) (out : List Vl) (c co : Nat) (i : Int) : AFr := mkF 52 [(5, .slice (some ⟨2, 0, some 0⟩) out.length co), (12, .slice (some ⟨0, 0, some 0⟩) l.length c), (13, .int .i64 (Int.ofNat l.length)), (14, .int .i64 i)]
def SDo (l : List Wr) (img out : List Vl) : ASt := mkS [some (rowO .look l), some (rowO .look img), some (rowO .mine out)]
def FDi (l : List Wr) (out : List Vl) (w : Wr) (c co : Nat) (i k : Int) : AFr := mkF 52 [(5, .slice (some ⟨2, 0, some 0⟩) out.length co), (12, .slice (some ⟨0, 0, some 0⟩) l.length c), (13, .int .i64 (Int.ofNat l.length)), (14, .int .i64 i), (7, .pointer (some ⟨3, 0, none⟩)), (19, .slice (some ⟨4, 0, some 0⟩) w.a.length w.ca), (20, .int .i64 (Int.ofNat w.a.length)), (21, .int .i64 k)]
def SDi (l : List Wr) (img out : List Vl) (w : Wr) : ASt := mkS [some (rowO .look l), some (rowO .look img), some (rowO .mine out), some (.cells [.int .i64 w.s, .int .i64 w.d, .slice (some ⟨4, 0, some 0⟩) w.a.length w.ca, .slice (some ⟨5, 0, some 0⟩) w.v.length w.cv] true 0), some (rowO .still w.a), some (rowO .still w.v)]
def dr1 (w : Wr) (out : List Vl) (k : Nat) : List Vl := if 0 ≤ w.a.getD k Enc.dflt ∧ w.a.getD k Enc.dflt < Int.ofNat out.length ∧ k < w.v.length then out.set (w.a.getD k Enc.dflt).toNat (w.v.getD k Enc.dflt) else out
def drW (w : Wr) (out : List Vl) : Nat → List Vl
  | 0 => out
  | k + 1 => dr1 w (drW w out k) k
def drL (l : List Wr) (out : List Vl) : Nat → List Vl
  | 0 => out
  | k + 1 => drW (l.getD k Enc.dflt) (drL l out k) (l.getD k Enc.dflt).a.length
def exDo (l : List Wr) (img : List Vl) (c co : Nat) : Nat → Kt → Prop := fun b K => K (.exit b) (FDo l (drL l img l.length) c co l.length) (SDo l img (drL l img l.length))
def exDi (l : List Wr) (img out : List Vl) (w : Wr) (c co : Nat) (i : Int) : Nat → Kt → Prop := fun b K => K (.exit b) (FDo l (drW w out w.a.length) c co i) (SDo l img (drW w out w.a.length))
def shpDo (l : List Wr) (img out : List Vl) (c co : Nat) (i' : Int) : AFr × ASt := (FDo l out c co i', SDo l img out)
def shpDi (l : List Wr) (img out : List Vl) (w : Wr) (c co : Nat) (i : Int) (k' : Int) : AFr × ASt := (FDi l out w c co i k', SDi l img out w)
theorem vc_dr (l : List Wr) (img : List Vl) (c d : Nat) (β : Bs) (K : AE → ASt → Prop) : lawE Try.prog toldT 100 20 β (fun _ => 0) (cnOf 2 lvD) (exDo l img c d) 8 [.slice (some ⟨0, 0, some 0⟩) l.length c, .slice (some ⟨1, 0, some 0⟩) img.length d] (mkS [some (rowO .look l), some (rowO .look img)]) K =
(  need (true && Nat.ble (0 + List.length img) (List.length img))
  (need (okC 3 [Ta.cell (Td.fr 3 (List.length img) d fun i => encL img (0 + i))])
  (LoopJ Try.prog β (exDo l img c d) 0 (loopOf Try.prog 8 0)
  (mkF 52
  [(5, Value.slice (some (Addr.mk 2 0 (some 0))) (List.length img) d),
  (12, Value.slice (some (Addr.mk 0 0 (some 0))) (List.length l) c),
  (13, Value.int IntKind.i64 (Int.ofNat (List.length l))),
  (14, Value.int IntKind.i64 (0 : Int))])
  (mkS
  [some (AObj.row Rk.look 4 0 (List.length l) (encL l)),
  some (AObj.row Rk.look 3 0 (List.length img) (encL img)),
  some (AObj.row Rk.mine 3 0 (List.length img) fun i => encL img (0 + i))]) ∧
  K
  (AE.returned
  (Value.slice (some (Addr.mk 2 0 (some 0))) (List.length (drL l img (List.length l)))
  d))
  (SDo l img (drL l img (List.length l)))))) := by kernel_rfl
theorem vc_do_r (l : List Wr) (img out : List Vl) (c co : Nat) (i : Int) (β : Bs) (N : Kt) : roundJ Try.prog toldT 100 20 β (fun _ => 0) (cnOf 2 lvD) (exDi l img out (l.getD i.toNat Enc.dflt) c co i) 8 0 2 lvDo (FDo l out c co i) (SDo l img out) N =
(  br (decide (i < Int.ofNat (List.length l)))
  (need (decide ((0 : Int) ≤ i))
  (need (Nat.blt (Int.toNat i) (List.length l))
  (need (Nat.ble 0 (0 + Int.toNat i) && Nat.blt (0 + Int.toNat i) (List.length l))
  (LoopJ Try.prog β (exDi l img out (List.getD l (Int.toNat i) Enc.dflt) c co i) 2
  (loopOf Try.prog 8 2)
  (FDi l out
  (Wr.mk (Wr.s (List.getD l (0 + Int.toNat i) Enc.dflt))
  (Wr.d (List.getD l (0 + Int.toNat i) Enc.dflt))
  (Wr.a (List.getD l (0 + Int.toNat i) Enc.dflt))
  (Wr.ca (List.getD l (0 + Int.toNat i) Enc.dflt))
  (Wr.v (List.getD l (0 + Int.toNat i) Enc.dflt))
  (Wr.cv (List.getD l (0 + Int.toNat i) Enc.dflt)))
  c co i (0 : Int))
  (SDi l img out
  (Wr.mk (Wr.s (List.getD l (0 + Int.toNat i) Enc.dflt))
  (Wr.d (List.getD l (0 + Int.toNat i) Enc.dflt))
  (Wr.a (List.getD l (0 + Int.toNat i) Enc.dflt))
  (Wr.ca (List.getD l (0 + Int.toNat i) Enc.dflt))
  (Wr.v (List.getD l (0 + Int.toNat i) Enc.dflt))
  (Wr.cv (List.getD l (0 + Int.toNat i) Enc.dflt)))) ∧
  N AX.normal
  (mkF 52
  [(5,
  Value.slice (some (Addr.mk 2 0 (some 0)))
  (List.length
  (drW (List.getD l (Int.toNat i) Enc.dflt) out
  (List.length (Wr.a (List.getD l (Int.toNat i) Enc.dflt)))))
  co),
  (12, Value.slice (some (Addr.mk 0 0 (some 0))) (List.length l) c),
  (13, Value.int IntKind.i64 (Int.ofNat (List.length l))),
  (14, Value.int IntKind.i64 (IntKind.wrap IntKind.i64 (i + (1 : Int))))])
  (mkS
  [some (AObj.row Rk.look 4 0 (List.length l) (encL l)),
  some (AObj.row Rk.look 3 0 (List.length img) (encL img)),
  some
  (AObj.row Rk.mine 3 0
  (List.length
  (drW (List.getD l (Int.toNat i) Enc.dflt) out
  (List.length (Wr.a (List.getD l (Int.toNat i) Enc.dflt)))))
  (encL
  (drW (List.getD l (Int.toNat i) Enc.dflt) out
  (List.length (Wr.a (List.getD l (Int.toNat i) Enc.dflt))))))])))))
  (onP N (AX.exit 0) (shpDo l img out c co i))) := by kernel_rfl
theorem vc_di_r (l : List Wr) (img out : List Vl) (w : Wr) (c co : Nat) (i k : Int) (β : Bs) (N : Kt) (ex : Nat → Kt → Prop) : roundJ Try.prog toldT 100 20 β (fun _ => 0) (cnOf 2 lvD) ex 8 2 2 lvDi (FDi l out w c co i k) (SDi l img out w) N =
(  br (decide (k < Int.ofNat (List.length (Wr.a w))))
  (need (decide ((0 : Int) ≤ k))
  (need (Nat.blt (Int.toNat k) (List.length (Wr.a w)))
  (need (Nat.ble 0 (0 + Int.toNat k) && Nat.blt (0 + Int.toNat k) (List.length (Wr.a w)))
  (br (decide (List.getD (Wr.a w) (0 + Int.toNat k) (0 : Int) ≥ (0 : Int)))
  (br (decide (List.getD (Wr.a w) (0 + Int.toNat k) (0 : Int) < Int.ofNat (List.length out)))
  (br (decide (k < Int.ofNat (List.length (Wr.v w))))
  (need (decide ((0 : Int) ≤ k))
  (need (Nat.blt (Int.toNat k) (List.length (Wr.v w)))
  (need
  (Nat.ble 0 (0 + Int.toNat k) &&
  Nat.blt (0 + Int.toNat k) (List.length (Wr.v w)))
  (need (decide ((0 : Int) ≤ List.getD (Wr.a w) (0 + Int.toNat k) (0 : Int)))
  (need
  (Nat.blt (Int.toNat (List.getD (Wr.a w) (0 + Int.toNat k) (0 : Int))) (List.length out))
  (need
  (Nat.blt (0 + Int.toNat (List.getD (Wr.a w) (0 + Int.toNat k) (0 : Int)))
  (List.length out))
  (N AX.normal
  (mkF 52
  [(5,
  Value.slice (some (Addr.mk 2 0 (some 0))) (List.length out)
  co),
  (12,
  Value.slice (some (Addr.mk 0 0 (some 0))) (List.length l) c),
  (13, Value.int IntKind.i64 (Int.ofNat (List.length l))),
  (14, Value.int IntKind.i64 i),
  (7, Value.pointer (some (Addr.mk 3 0 none))),
  (19,
  Value.slice (some (Addr.mk 4 0 (some 0)))
  (List.length (Wr.a w)) (Wr.ca w)),
  (20, Value.int IntKind.i64 (Int.ofNat (List.length (Wr.a w)))),
  (21, Value.int IntKind.i64 (IntKind.wrap IntKind.i64 (k + (1 : Int))))])
  (mkS
  [some (AObj.row Rk.look 4 0 (List.length l) (encL l)),
  some (AObj.row Rk.look 3 0 (List.length img) (encL img)),
  some
  (AObj.row Rk.mine 3 0 (List.length out)
  (putT
  (0 + Int.toNat (List.getD (Wr.a w) (0 + Int.toNat k) (0 : Int)))
  0
  [Td.sc
  (Value.int IntKind.i64
  (Vl.k (List.getD (Wr.v w) (0 + Int.toNat k) Enc.dflt))),
  Td.sc
  (Value.int IntKind.i64
  (Vl.i (List.getD (Wr.v w) (0 + Int.toNat k) Enc.dflt))),
  Td.sc
  (Value.float FloatKind.f64
  (Vl.f (List.getD (Wr.v w) (0 + Int.toNat k) Enc.dflt)))]
  (encL out))),
  some
  (AObj.cells
  [Value.int IntKind.i64 (Wr.s w), Value.int IntKind.i64 (Wr.d w),
  Value.slice (some (Addr.mk 4 0 (some 0)))
  (List.length (Wr.a w)) (Wr.ca w),
  Value.slice (some (Addr.mk 5 0 (some 0)))
  (List.length (Wr.v w)) (Wr.cv w)]
  true 0),
  some (AObj.row Rk.still 1 0 (List.length (Wr.a w)) (encL (Wr.a w))),
  some
  (AObj.row Rk.still 3 0 (List.length (Wr.v w))
  (encL (Wr.v w)))]))))))))
  (onP N AX.normal (shpDi l img out w c co i (IntKind.wrap IntKind.i64 (k + (1 : Int))))))
  (onP N AX.normal (shpDi l img out w c co i (IntKind.wrap IntKind.i64 (k + (1 : Int))))))
  (onP N AX.normal (shpDi l img out w c co i (IntKind.wrap IntKind.i64 (k + (1 : Int)))))))))
  (onP N (AX.exit 2) (shpDo l img out c co i))) := by kernel_rfl
end Go.Proofs.Ytpejhdbllphdaaa.Ev
