/-
  What has to hold: printed by the evaluator.
-/
import Derived.Test.YtpejhdbllphdaaaMlLV
set_option linter.unusedVariables false
set_option maxRecDepth 1000000
namespace Go.Proofs.Ytpejhdbllphdaaa.Ev
open Go Go.Proofs
def aI (l : List U2) (k : Nat) : Int := IntKind.wrap .i64 (Int.tmod (l.getD k Enc.dflt).a 8)
def vI (l : List U2) (k : Nat) : Vl := ⟨2, IntKind.wrap .i64 (l.getD k Enc.dflt).b, 0⟩
def updD (W : List Vl) (a : Int) (v : Vl) : List Vl := if 0 ≤ a ∧ a < Int.ofNat W.length then W.set a.toNat v else W
def wantN (l : List U2) (A : List Vl) : Nat → List Vl
  | 0 => A
  | k + 1 => updD (wantN l A k) (aI l k) (vI l k)
def Nz (size : Int) : Int := IntKind.wrap .i64 (1 + IntKind.wrap .i64 (Int.tmod size 6))
def exL (l : List U2) (c : Nat) (N : Int) : Nat → Kt → Prop := fun b K => match b with
  | 0 => ∀ A : List Vl, A.length = N.toNat → K (.exit 0) (F1 l A A c N N) (S1 l A A)
  | _ => ∀ A : List Vl, A.length = N.toNat → (l.length = 0 → K (.exit 2) (F2_0 l A (wantN l A 0) c N) (S2_0 l A (wantN l A 0))) ∧ (l.length = 1 → K (.exit 2) (F2_1 l A (wantN l A 1) c N) (S2_1 l A (wantN l A 1))) ∧ (l.length = 2 → K (.exit 2) (F2_2 l A (wantN l A 2) c N) (S2_2 l A (wantN l A 2))) ∧ (l.length = 3 → K (.exit 2) (F2_3 l A (wantN l A 3) c N) (S2_3 l A (wantN l A 3))) ∧ (l.length = 4 → K (.exit 2) (F2_4 l A (wantN l A 4) c N) (S2_4 l A (wantN l A 4))) ∧ (l.length = 5 → K (.exit 2) (F2_5 l A (wantN l A 5) c N) (S2_5 l A (wantN l A 5))) ∧ (l.length = 6 → K (.exit 2) (F2_6 l A (wantN l A 6) c N) (S2_6 l A (wantN l A 6))) ∧ (l.length = 7 → K (.exit 2) (F2_7 l A (wantN l A 7) c N) (S2_7 l A (wantN l A 7))) ∧ (l.length = 8 → K (.exit 2) (F2_8 l A (wantN l A 8) c N) (S2_8 l A (wantN l A 8))) ∧ (l.length = 9 → K (.exit 2) (F2_9 l A (wantN l A 9) c N) (S2_9 l A (wantN l A 9)))
theorem vc_ml (l : List U2) (c : Nat) (size : Int) (β : Bs) : lawE Try.prog toldL 100 20 β (fun _ => 0) (cnOf 1 slL) (exL l c (Nz size)) 5 [.slice (some ⟨0, 0, some 0⟩) l.length c, .int .u8 size] (mkS [some (rowO .still l)]) trueE =
(  br (decide (Int.ofNat (List.length l) > (9 : Int))) True
  (need (decide ((0 : Int) ≤ IntKind.wrap IntKind.i64 ((1 : Int) + IntKind.wrap IntKind.i64 (Int.tmod size (6 : Int)))))
  (need
  (decide ((0 : Int) ≤ IntKind.wrap IntKind.i64 ((1 : Int) + IntKind.wrap IntKind.i64 (Int.tmod size (6 : Int)))))
  (need
  (Nat.beq (Int.toNat (IntKind.wrap IntKind.i64 ((1 : Int) + IntKind.wrap IntKind.i64 (Int.tmod size (6 : Int)))))
  (Int.toNat (IntKind.wrap IntKind.i64 ((1 : Int) + IntKind.wrap IntKind.i64 (Int.tmod size (6 : Int))))) &&
  Nat.ble
  (Int.toNat (IntKind.wrap IntKind.i64 ((1 : Int) + IntKind.wrap IntKind.i64 (Int.tmod size (6 : Int)))))
  1000000)
  (need
  (decide
  ((0 : Int) ≤ IntKind.wrap IntKind.i64 ((1 : Int) + IntKind.wrap IntKind.i64 (Int.tmod size (6 : Int)))))
  (need
  (decide
  ((0 : Int) ≤ IntKind.wrap IntKind.i64 ((1 : Int) + IntKind.wrap IntKind.i64 (Int.tmod size (6 : Int)))))
  (need
  (Nat.beq
  (Int.toNat
  (IntKind.wrap IntKind.i64 ((1 : Int) + IntKind.wrap IntKind.i64 (Int.tmod size (6 : Int)))))
  (Int.toNat
  (IntKind.wrap IntKind.i64 ((1 : Int) + IntKind.wrap IntKind.i64 (Int.tmod size (6 : Int))))) &&
  Nat.ble
  (Int.toNat
  (IntKind.wrap IntKind.i64 ((1 : Int) + IntKind.wrap IntKind.i64 (Int.tmod size (6 : Int)))))
  1000000)
  (LoopJ Try.prog β (exL l c (Nz size)) 0 (loopOf Try.prog 5 0)
  (mkF 118
  [(0, Value.slice (some (Addr.mk 0 0 (some 0))) (List.length l) c),
  (5,
  Value.int IntKind.i64
  (IntKind.wrap IntKind.i64 ((1 : Int) + IntKind.wrap IntKind.i64 (Int.tmod size (6 : Int))))),
  (6,
  Value.slice (some (Addr.mk 1 0 (some 0)))
  (Int.toNat
  (IntKind.wrap IntKind.i64 ((1 : Int) + IntKind.wrap IntKind.i64 (Int.tmod size (6 : Int)))))
  0),
  (7,
  Value.slice (some (Addr.mk 2 0 (some 0)))
  (Int.toNat
  (IntKind.wrap IntKind.i64 ((1 : Int) + IntKind.wrap IntKind.i64 (Int.tmod size (6 : Int)))))
  0),
  (8, Value.int IntKind.i64 (0 : Int))])
  (mkS
  [some (AObj.row Rk.still 2 0 (List.length l) (encL l)),
  some
  (AObj.row Rk.mine 3 0
  (Int.toNat
  (IntKind.wrap IntKind.i64 ((1 : Int) + IntKind.wrap IntKind.i64 (Int.tmod size (6 : Int)))))
  fun x =>
  nthT
  [Td.sc (Value.int IntKind.i64 (0 : Int)), Td.sc (Value.int IntKind.i64 (0 : Int)),
  Td.sc (Value.float FloatKind.f64 0)]),
  some
  (AObj.row Rk.mine 3 0
  (Int.toNat
  (IntKind.wrap IntKind.i64 ((1 : Int) + IntKind.wrap IntKind.i64 (Int.tmod size (6 : Int)))))
  fun x =>
  nthT
  [Td.sc (Value.int IntKind.i64 (0 : Int)), Td.sc (Value.int IntKind.i64 (0 : Int)),
  Td.sc (Value.float FloatKind.f64 0)])]) ∧
  ∀ (A : List Vl),
  List.length A = Int.toNat (Nz size) →
  LoopJ Try.prog β (exL l c (Nz size)) 2 (loopOf Try.prog 5 2)
  (mkF 118
  [(0,
  Value.slice (some (Addr.mk 0 0 (some 0))) (List.length l) c),
  (5, Value.int IntKind.i64 (Nz size)),
  (6,
  Value.slice (some (Addr.mk 1 0 (some 0))) (List.length A)
  0),
  (7,
  Value.slice (some (Addr.mk 2 0 (some 0))) (List.length A)
  0),
  (9, Value.slice none 0 0),
  (10, Value.int IntKind.i64 (0 : Int))])
  (mkS
  [some (AObj.row Rk.still 2 0 (List.length l) (encL l)),
  some (AObj.row Rk.mine 3 0 (List.length A) (encL A)),
  some (AObj.row Rk.mine 3 0 (List.length A) (encL A))]) ∧
  ∀ (A : List Vl),
  List.length A = Int.toNat (Nz size) →
  (List.length l = 0 →
  need (true && Nat.ble (0 + List.length A) (List.length A))
  (need
  (ok2 Wr Vl (fun l x x_1 x_2 => List.all l (okA Wr))
  [Ta.cell (Td.fr 0 0 1 noT),
  Ta.cell
  (Td.fr 3 (List.length A) 0 fun i => encL A (0 + i))])
  (need
  (true &&
  Nat.ble
  (0 +
  List.length
  (drL []
  (listT Vl
  (Td.fr 3 (List.length A) 0 fun i =>
  encL A (0 + i)))
  0))
  (List.length
  (drL []
  (listT Vl
  (Td.fr 3 (List.length A) 0 fun i =>
  encL A (0 + i)))
  0)))
  (need
  (true &&
  Nat.ble (0 + List.length (wantN l A 0))
  (List.length (wantN l A 0)))
  (need
  (ok2 Vl Vl (fun x x_1 x_2 x_3 => true)
  [Ta.cell
  (Td.fr 3
  (List.length
  (drL []
  (listT Vl
  (Td.fr 3 (List.length A) 0 fun i =>
  encL A (0 + i)))
  0))
  0 fun i =>
  encL
  (drL []
  (listT Vl
  (Td.fr 3 (List.length A) 0 fun i =>
  encL A (0 + i)))
  0)
  (0 + i)),
  Ta.cell
  (Td.fr 3 (List.length (wantN l A 0)) 0 fun i =>
  encL (wantN l A 0) (0 + i))])
  (need
  (sameVs
  (listT Vl
  (Td.fr 3
  (List.length
  (drL []
  (listT Vl
  (Td.fr 3 (List.length A) 0 fun i =>
  encL A (0 + i)))
  0))
  0 fun i =>
  encL
  (drL []
  (listT Vl
  (Td.fr 3 (List.length A) 0 fun i =>
  encL A (0 + i)))
  0)
  (0 + i)))
  (listT Vl
  (Td.fr 3 (List.length (wantN l A 0)) 0 fun i =>
  encL (wantN l A 0) (0 + i))))
  True)))))) ∧
  (List.length l = 1 →
  need (true && Nat.ble (0 + List.length A) (List.length A))
  (need
  (ok2 Wr Vl (fun l x x_1 x_2 => List.all l (okA Wr))
  [Ta.cell
  (Td.fr 4 1 0
  (selT 4 1
  [Td.sc (Value.int IntKind.i64 (0 : Int)),
  Td.sc (Value.int IntKind.i64 (0 : Int)),
  Td.fr 1 1 0
  (selT 1 1
  [Td.sc
  (Value.int IntKind.i64
  (IntKind.wrap IntKind.i64
  (Int.tmod (U2.a (List.getD l 0 Enc.dflt))
  (8 : Int))))]),
  Td.fr 3 1 0
  (selT 3 1
  [Td.sc (Value.int IntKind.i64 (2 : Int)),
  Td.sc
  (Value.int IntKind.i64
  (IntKind.wrap IntKind.i64
  (U2.b (List.getD l 0 Enc.dflt)))),
  Td.sc (Value.float FloatKind.f64 0)])])),
  Ta.cell
  (Td.fr 3 (List.length A) 0 fun i => encL A (0 + i))])
  (need
  (true &&
  Nat.ble
  (0 +
  List.length
  (drL
  [Wr.mk (0 : Int) (0 : Int)
  [IntKind.wrap IntKind.i64
  (Int.tmod (U2.a (List.getD l 0 Enc.dflt)) (8 : Int))]
  0
  [Vl.mk (2 : Int)
  (IntKind.wrap IntKind.i64
  (U2.b (List.getD l 0 Enc.dflt)))
  0]
  0]
  (listT Vl
  (Td.fr 3 (List.length A) 0 fun i =>
  encL A (0 + i)))
  (List.length
  [Wr.mk (0 : Int) (0 : Int)
  [IntKind.wrap IntKind.i64
  (Int.tmod (U2.a (List.getD l 0 Enc.dflt)) (8 : Int))]
  0
  [Vl.mk (2 : Int)
  (IntKind.wrap IntKind.i64
  (U2.b (List.getD l 0 Enc.dflt)))
  0]
  0])))
  (List.length
  (drL
  [Wr.mk (0 : Int) (0 : Int)
  [IntKind.wrap IntKind.i64
  (Int.tmod (U2.a (List.getD l 0 Enc.dflt)) (8 : Int))]
  0
  [Vl.mk (2 : Int)
  (IntKind.wrap IntKind.i64 (U2.b (List.getD l 0 Enc.dflt)))
  0]
  0]
  (listT Vl
  (Td.fr 3 (List.length A) 0 fun i =>
  encL A (0 + i)))
  (List.length
  [Wr.mk (0 : Int) (0 : Int)
  [IntKind.wrap IntKind.i64
  (Int.tmod (U2.a (List.getD l 0 Enc.dflt)) (8 : Int))]
  0
  [Vl.mk (2 : Int)
  (IntKind.wrap IntKind.i64
  (U2.b (List.getD l 0 Enc.dflt)))
  0]
  0]))))
  (need
  (true &&
  Nat.ble (0 + List.length (wantN l A 1))
  (List.length (wantN l A 1)))
  (need
  (ok2 Vl Vl (fun x x_1 x_2 x_3 => true)
  [Ta.cell
  (Td.fr 3
  (List.length
  (drL
  [Wr.mk (0 : Int) (0 : Int)
  [IntKind.wrap IntKind.i64
  (Int.tmod (U2.a (List.getD l 0 Enc.dflt))
  (8 : Int))]
  0
  [Vl.mk (2 : Int)
  (IntKind.wrap IntKind.i64
  (U2.b (List.getD l 0 Enc.dflt)))
  0]
  0]
  (listT Vl
  (Td.fr 3 (List.length A) 0 fun i =>
  encL A (0 + i)))
  (List.length
  [Wr.mk (0 : Int) (0 : Int)
  [IntKind.wrap IntKind.i64
  (Int.tmod (U2.a (List.getD l 0 Enc.dflt))
  (8 : Int))]
  0
  [Vl.mk (2 : Int)
  (IntKind.wrap IntKind.i64
  (U2.b (List.getD l 0 Enc.dflt)))
  0]
  0])))
  0 fun i =>
  encL
  (drL
  [Wr.mk (0 : Int) (0 : Int)
  [IntKind.wrap IntKind.i64
  (Int.tmod (U2.a (List.getD l 0 Enc.dflt))
  (8 : Int))]
  0
  [Vl.mk (2 : Int)
  (IntKind.wrap IntKind.i64
  (U2.b (List.getD l 0 Enc.dflt)))
  0]
  0]
  (listT Vl
  (Td.fr 3 (List.length A) 0 fun i =>
  encL A (0 + i)))
  (List.length
  [Wr.mk (0 : Int) (0 : Int)
  [IntKind.wrap IntKind.i64
  (Int.tmod (U2.a (List.getD l 0 Enc.dflt))
  (8 : Int))]
  0
  [Vl.mk (2 : Int)
  (IntKind.wrap IntKind.i64
  (U2.b (List.getD l 0 Enc.dflt)))
  0]
  0]))
  (0 + i)),
  Ta.cell
  (Td.fr 3 (List.length (wantN l A 1)) 0 fun i =>
  encL (wantN l A 1) (0 + i))])
  (need
  (sameVs
  (listT Vl
  (Td.fr 3
  (List.length
  (drL
  [Wr.mk (0 : Int) (0 : Int)
  [IntKind.wrap IntKind.i64
  (Int.tmod (U2.a (List.getD l 0 Enc.dflt))
  (8 : Int))]
  0
  [Vl.mk (2 : Int)
  (IntKind.wrap IntKind.i64
  (U2.b (List.getD l 0 Enc.dflt)))
  0]
  0]
  (listT Vl
  (Td.fr 3 (List.length A) 0 fun i =>
  encL A (0 + i)))
  (List.length
  [Wr.mk (0 : Int) (0 : Int)
  [IntKind.wrap IntKind.i64
  (Int.tmod (U2.a (List.getD l 0 Enc.dflt))
  (8 : Int))]
  0
  [Vl.mk (2 : Int)
  (IntKind.wrap IntKind.i64
  (U2.b (List.getD l 0 Enc.dflt)))
  0]
  0])))
  0 fun i =>
  encL
  (drL
  [Wr.mk (0 : Int) (0 : Int)
  [IntKind.wrap IntKind.i64
  (Int.tmod (U2.a (List.getD l 0 Enc.dflt))
  (8 : Int))]
  0
  [Vl.mk (2 : Int)
  (IntKind.wrap IntKind.i64
  (U2.b (List.getD l 0 Enc.dflt)))
  0]
  0]
  (listT Vl
  (Td.fr 3 (List.length A) 0 fun i =>
  encL A (0 + i)))
  (List.length
  [Wr.mk (0 : Int) (0 : Int)
  [IntKind.wrap IntKind.i64
  (Int.tmod (U2.a (List.getD l 0 Enc.dflt))
  (8 : Int))]
  0
  [Vl.mk (2 : Int)
  (IntKind.wrap IntKind.i64
  (U2.b (List.getD l 0 Enc.dflt)))
  0]
  0]))
  (0 + i)))
  (listT Vl
  (Td.fr 3 (List.length (wantN l A 1)) 0 fun i =>
  encL (wantN l A 1) (0 + i))))
  True)))))) ∧
  (List.length l = 2 →
  need (true && Nat.ble (0 + List.length A) (List.length A))
  (need
  (ok2 Wr Vl (fun l x x_1 x_2 => List.all l (okA Wr))
  [Ta.cell
  (Td.fr 4 1 0
  (selT 4 1
  [Td.sc (Value.int IntKind.i64 (0 : Int)),
  Td.sc (Value.int IntKind.i64 (0 : Int)),
  Td.fr 1 2 0
  (selT 1 2
  [Td.sc
  (Value.int IntKind.i64
  (IntKind.wrap IntKind.i64
  (Int.tmod (U2.a (List.getD l 0 Enc.dflt))
  (8 : Int)))),
  Td.sc
  (Value.int IntKind.i64
  (IntKind.wrap IntKind.i64
  (Int.tmod (U2.a (List.getD l 1 Enc.dflt))
  (8 : Int))))]),
  Td.fr 3 2 0
  (selT 3 2
  [Td.sc (Value.int IntKind.i64 (2 : Int)),
  Td.sc
  (Value.int IntKind.i64
  (IntKind.wrap IntKind.i64
  (U2.b (List.getD l 0 Enc.dflt)))),
  Td.sc (Value.float FloatKind.f64 0),
  Td.sc (Value.int IntKind.i64 (2 : Int)),
  Td.sc
  (Value.int IntKind.i64
  (IntKind.wrap IntKind.i64
  (U2.b (List.getD l 1 Enc.dflt)))),
  Td.sc (Value.float FloatKind.f64 0)])])),
  Ta.cell
  (Td.fr 3 (List.length A) 0 fun i =>
  encL A (0 + i))])
  (need
  (true &&
  Nat.ble
  (0 +
  List.length
  (drL
  [Wr.mk (0 : Int) (0 : Int)
  [IntKind.wrap IntKind.i64
  (Int.tmod (U2.a (List.getD l 0 Enc.dflt)) (8 : Int)),
  IntKind.wrap IntKind.i64
  (Int.tmod (U2.a (List.getD l 1 Enc.dflt)) (8 : Int))]
  0
  [Vl.mk (2 : Int)
  (IntKind.wrap IntKind.i64
  (U2.b (List.getD l 0 Enc.dflt)))
  0,
  Vl.mk (2 : Int)
  (IntKind.wrap IntKind.i64
  (U2.b (List.getD l 1 Enc.dflt)))
  0]
  0]
  (listT Vl
  (Td.fr 3 (List.length A) 0 fun i =>
  encL A (0 + i)))
  (List.length
  [Wr.mk (0 : Int) (0 : Int)
  [IntKind.wrap IntKind.i64
  (Int.tmod (U2.a (List.getD l 0 Enc.dflt))
  (8 : Int)),
  IntKind.wrap IntKind.i64
  (Int.tmod (U2.a (List.getD l 1 Enc.dflt))
  (8 : Int))]
  0
  [Vl.mk (2 : Int)
  (IntKind.wrap IntKind.i64
  (U2.b (List.getD l 0 Enc.dflt)))
  0,
  Vl.mk (2 : Int)
  (IntKind.wrap IntKind.i64
  (U2.b (List.getD l 1 Enc.dflt)))
  0]
  0])))
  (List.length
  (drL
  [Wr.mk (0 : Int) (0 : Int)
  [IntKind.wrap IntKind.i64
  (Int.tmod (U2.a (List.getD l 0 Enc.dflt)) (8 : Int)),
  IntKind.wrap IntKind.i64
  (Int.tmod (U2.a (List.getD l 1 Enc.dflt)) (8 : Int))]
  0
  [Vl.mk (2 : Int)
  (IntKind.wrap IntKind.i64
  (U2.b (List.getD l 0 Enc.dflt)))
  0,
  Vl.mk (2 : Int)
  (IntKind.wrap IntKind.i64
  (U2.b (List.getD l 1 Enc.dflt)))
  0]
  0]
  (listT Vl
  (Td.fr 3 (List.length A) 0 fun i =>
  encL A (0 + i)))
  (List.length
  [Wr.mk (0 : Int) (0 : Int)
  [IntKind.wrap IntKind.i64
  (Int.tmod (U2.a (List.getD l 0 Enc.dflt)) (8 : Int)),
  IntKind.wrap IntKind.i64
  (Int.tmod (U2.a (List.getD l 1 Enc.dflt)) (8 : Int))]
  0
  [Vl.mk (2 : Int)
  (IntKind.wrap IntKind.i64
  (U2.b (List.getD l 0 Enc.dflt)))
  0,
  Vl.mk (2 : Int)
  (IntKind.wrap IntKind.i64
  (U2.b (List.getD l 1 Enc.dflt)))
  0]
  0]))))
  (need
  (true &&
  Nat.ble (0 + List.length (wantN l A 2))
  (List.length (wantN l A 2)))
  (need
  (ok2 Vl Vl (fun x x_1 x_2 x_3 => true)
  [Ta.cell
  (Td.fr 3
  (List.length
  (drL
  [Wr.mk (0 : Int) (0 : Int)
  [IntKind.wrap IntKind.i64
  (Int.tmod (U2.a (List.getD l 0 Enc.dflt))
  (8 : Int)),
  IntKind.wrap IntKind.i64
  (Int.tmod (U2.a (List.getD l 1 Enc.dflt))
  (8 : Int))]
  0
  [Vl.mk (2 : Int)
  (IntKind.wrap IntKind.i64
  (U2.b (List.getD l 0 Enc.dflt)))
  0,
  Vl.mk (2 : Int)
  (IntKind.wrap IntKind.i64
  (U2.b (List.getD l 1 Enc.dflt)))
  0]
  0]
  (listT Vl
  (Td.fr 3 (List.length A) 0 fun i =>
  encL A (0 + i)))
  (List.length
  [Wr.mk (0 : Int) (0 : Int)
  [IntKind.wrap IntKind.i64
  (Int.tmod (U2.a (List.getD l 0 Enc.dflt))
  (8 : Int)),
  IntKind.wrap IntKind.i64
  (Int.tmod (U2.a (List.getD l 1 Enc.dflt))
  (8 : Int))]
  0
  [Vl.mk (2 : Int)
  (IntKind.wrap IntKind.i64
  (U2.b (List.getD l 0 Enc.dflt)))
  0,
  Vl.mk (2 : Int)
  (IntKind.wrap IntKind.i64
  (U2.b (List.getD l 1 Enc.dflt)))
  0]
  0])))
  0 fun i =>
  encL
  (drL
  [Wr.mk (0 : Int) (0 : Int)
  [IntKind.wrap IntKind.i64
  (Int.tmod (U2.a (List.getD l 0 Enc.dflt))
  (8 : Int)),
  IntKind.wrap IntKind.i64
  (Int.tmod (U2.a (List.getD l 1 Enc.dflt))
  (8 : Int))]
  0
  [Vl.mk (2 : Int)
  (IntKind.wrap IntKind.i64
  (U2.b (List.getD l 0 Enc.dflt)))
  0,
  Vl.mk (2 : Int)
  (IntKind.wrap IntKind.i64
  (U2.b (List.getD l 1 Enc.dflt)))
  0]
  0]
  (listT Vl
  (Td.fr 3 (List.length A) 0 fun i =>
  encL A (0 + i)))
  (List.length
  [Wr.mk (0 : Int) (0 : Int)
  [IntKind.wrap IntKind.i64
  (Int.tmod (U2.a (List.getD l 0 Enc.dflt))
  (8 : Int)),
  IntKind.wrap IntKind.i64
  (Int.tmod (U2.a (List.getD l 1 Enc.dflt))
  (8 : Int))]
  0
  [Vl.mk (2 : Int)
  (IntKind.wrap IntKind.i64
  (U2.b (List.getD l 0 Enc.dflt)))
  0,
  Vl.mk (2 : Int)
  (IntKind.wrap IntKind.i64
  (U2.b (List.getD l 1 Enc.dflt)))
  0]
  0]))
  (0 + i)),
  Ta.cell
  (Td.fr 3 (List.length (wantN l A 2)) 0
  fun i => encL (wantN l A 2) (0 + i))])
  (need
  (sameVs
  (listT Vl
  (Td.fr 3
  (List.length
  (drL
  [Wr.mk (0 : Int) (0 : Int)
  [IntKind.wrap IntKind.i64
  (Int.tmod (U2.a (List.getD l 0 Enc.dflt))
  (8 : Int)),
  IntKind.wrap IntKind.i64
  (Int.tmod (U2.a (List.getD l 1 Enc.dflt))
  (8 : Int))]
  0
  [Vl.mk (2 : Int)
  (IntKind.wrap IntKind.i64
  (U2.b (List.getD l 0 Enc.dflt)))
  0,
  Vl.mk (2 : Int)
  (IntKind.wrap IntKind.i64
  (U2.b (List.getD l 1 Enc.dflt)))
  0]
  0]
  (listT Vl
  (Td.fr 3 (List.length A) 0 fun i =>
  encL A (0 + i)))
  (List.length
  [Wr.mk (0 : Int) (0 : Int)
  [IntKind.wrap IntKind.i64
  (Int.tmod (U2.a (List.getD l 0 Enc.dflt))
  (8 : Int)),
  IntKind.wrap IntKind.i64
  (Int.tmod (U2.a (List.getD l 1 Enc.dflt))
  (8 : Int))]
  0
  [Vl.mk (2 : Int)
  (IntKind.wrap IntKind.i64
  (U2.b (List.getD l 0 Enc.dflt)))
  0,
  Vl.mk (2 : Int)
  (IntKind.wrap IntKind.i64
  (U2.b (List.getD l 1 Enc.dflt)))
  0]
  0])))
  0 fun i =>
  encL
  (drL
  [Wr.mk (0 : Int) (0 : Int)
  [IntKind.wrap IntKind.i64
  (Int.tmod (U2.a (List.getD l 0 Enc.dflt))
  (8 : Int)),
  IntKind.wrap IntKind.i64
  (Int.tmod (U2.a (List.getD l 1 Enc.dflt))
  (8 : Int))]
  0
  [Vl.mk (2 : Int)
  (IntKind.wrap IntKind.i64
  (U2.b (List.getD l 0 Enc.dflt)))
  0,
  Vl.mk (2 : Int)
  (IntKind.wrap IntKind.i64
  (U2.b (List.getD l 1 Enc.dflt)))
  0]
  0]
  (listT Vl
  (Td.fr 3 (List.length A) 0 fun i =>
  encL A (0 + i)))
  (List.length
  [Wr.mk (0 : Int) (0 : Int)
  [IntKind.wrap IntKind.i64
  (Int.tmod (U2.a (List.getD l 0 Enc.dflt))
  (8 : Int)),
  IntKind.wrap IntKind.i64
  (Int.tmod (U2.a (List.getD l 1 Enc.dflt))
  (8 : Int))]
  0
  [Vl.mk (2 : Int)
  (IntKind.wrap IntKind.i64
  (U2.b (List.getD l 0 Enc.dflt)))
  0,
  Vl.mk (2 : Int)
  (IntKind.wrap IntKind.i64
  (U2.b (List.getD l 1 Enc.dflt)))
  0]
  0]))
  (0 + i)))
  (listT Vl
  (Td.fr 3 (List.length (wantN l A 2)) 0
  fun i => encL (wantN l A 2) (0 + i))))
  True)))))) ∧
  (List.length l = 3 →
  need (true && Nat.ble (0 + List.length A) (List.length A))
  (need
  (ok2 Wr Vl (fun l x x_1 x_2 => List.all l (okA Wr))
  [Ta.cell
  (Td.fr 4 1 0
  (selT 4 1
  [Td.sc (Value.int IntKind.i64 (0 : Int)),
  Td.sc (Value.int IntKind.i64 (0 : Int)),
  Td.fr 1 3 0
  (selT 1 3
  [Td.sc
  (Value.int IntKind.i64
  (IntKind.wrap IntKind.i64
  (Int.tmod (U2.a (List.getD l 0 Enc.dflt))
  (8 : Int)))),
  Td.sc
  (Value.int IntKind.i64
  (IntKind.wrap IntKind.i64
  (Int.tmod (U2.a (List.getD l 1 Enc.dflt))
  (8 : Int)))),
  Td.sc
  (Value.int IntKind.i64
  (IntKind.wrap IntKind.i64
  (Int.tmod (U2.a (List.getD l 2 Enc.dflt))
  (8 : Int))))]),
  Td.fr 3 3 0
  (selT 3 3
  [Td.sc (Value.int IntKind.i64 (2 : Int)),
  Td.sc
  (Value.int IntKind.i64
  (IntKind.wrap IntKind.i64
  (U2.b (List.getD l 0 Enc.dflt)))),
  Td.sc (Value.float FloatKind.f64 0),
  Td.sc (Value.int IntKind.i64 (2 : Int)),
  Td.sc
  (Value.int IntKind.i64
  (IntKind.wrap IntKind.i64
  (U2.b (List.getD l 1 Enc.dflt)))),
  Td.sc (Value.float FloatKind.f64 0),
  Td.sc (Value.int IntKind.i64 (2 : Int)),
  Td.sc
  (Value.int IntKind.i64
  (IntKind.wrap IntKind.i64
  (U2.b (List.getD l 2 Enc.dflt)))),
  Td.sc (Value.float FloatKind.f64 0)])])),
  Ta.cell
  (Td.fr 3 (List.length A) 0 fun i =>
  encL A (0 + i))])
  (need
  (true &&
  Nat.ble
  (0 +
  List.length
  (drL
  [Wr.mk (0 : Int) (0 : Int)
  [IntKind.wrap IntKind.i64
  (Int.tmod (U2.a (List.getD l 0 Enc.dflt))
  (8 : Int)),
  IntKind.wrap IntKind.i64
  (Int.tmod (U2.a (List.getD l 1 Enc.dflt))
  (8 : Int)),
  IntKind.wrap IntKind.i64
  (Int.tmod (U2.a (List.getD l 2 Enc.dflt))
  (8 : Int))]
  0
  [Vl.mk (2 : Int)
  (IntKind.wrap IntKind.i64
  (U2.b (List.getD l 0 Enc.dflt)))
  0,
  Vl.mk (2 : Int)
  (IntKind.wrap IntKind.i64
  (U2.b (List.getD l 1 Enc.dflt)))
  0,
  Vl.mk (2 : Int)
  (IntKind.wrap IntKind.i64
  (U2.b (List.getD l 2 Enc.dflt)))
  0]
  0]
  (listT Vl
  (Td.fr 3 (List.length A) 0 fun i =>
  encL A (0 + i)))
  (List.length
  [Wr.mk (0 : Int) (0 : Int)
  [IntKind.wrap IntKind.i64
  (Int.tmod (U2.a (List.getD l 0 Enc.dflt))
  (8 : Int)),
  IntKind.wrap IntKind.i64
  (Int.tmod (U2.a (List.getD l 1 Enc.dflt))
  (8 : Int)),
  IntKind.wrap IntKind.i64
  (Int.tmod (U2.a (List.getD l 2 Enc.dflt))
  (8 : Int))]
  0
  [Vl.mk (2 : Int)
  (IntKind.wrap IntKind.i64
  (U2.b (List.getD l 0 Enc.dflt)))
  0,
  Vl.mk (2 : Int)
  (IntKind.wrap IntKind.i64
  (U2.b (List.getD l 1 Enc.dflt)))
  0,
  Vl.mk (2 : Int)
  (IntKind.wrap IntKind.i64
  (U2.b (List.getD l 2 Enc.dflt)))
  0]
  0])))
  (List.length
  (drL
  [Wr.mk (0 : Int) (0 : Int)
  [IntKind.wrap IntKind.i64
  (Int.tmod (U2.a (List.getD l 0 Enc.dflt)) (8 : Int)),
  IntKind.wrap IntKind.i64
  (Int.tmod (U2.a (List.getD l 1 Enc.dflt)) (8 : Int)),
  IntKind.wrap IntKind.i64
  (Int.tmod (U2.a (List.getD l 2 Enc.dflt)) (8 : Int))]
  0
  [Vl.mk (2 : Int)
  (IntKind.wrap IntKind.i64
  (U2.b (List.getD l 0 Enc.dflt)))
  0,
  Vl.mk (2 : Int)
  (IntKind.wrap IntKind.i64
  (U2.b (List.getD l 1 Enc.dflt)))
  0,
  Vl.mk (2 : Int)
  (IntKind.wrap IntKind.i64
  (U2.b (List.getD l 2 Enc.dflt)))
  0]
  0]
  (listT Vl
  (Td.fr 3 (List.length A) 0 fun i =>
  encL A (0 + i)))
  (List.length
  [Wr.mk (0 : Int) (0 : Int)
  [IntKind.wrap IntKind.i64
  (Int.tmod (U2.a (List.getD l 0 Enc.dflt))
  (8 : Int)),
  IntKind.wrap IntKind.i64
  (Int.tmod (U2.a (List.getD l 1 Enc.dflt))
  (8 : Int)),
  IntKind.wrap IntKind.i64
  (Int.tmod (U2.a (List.getD l 2 Enc.dflt))
  (8 : Int))]
  0
  [Vl.mk (2 : Int)
  (IntKind.wrap IntKind.i64
  (U2.b (List.getD l 0 Enc.dflt)))
  0,
  Vl.mk (2 : Int)
  (IntKind.wrap IntKind.i64
  (U2.b (List.getD l 1 Enc.dflt)))
  0,
  Vl.mk (2 : Int)
  (IntKind.wrap IntKind.i64
  (U2.b (List.getD l 2 Enc.dflt)))
  0]
  0]))))
  (need
  (true &&
  Nat.ble (0 + List.length (wantN l A 3))
  (List.length (wantN l A 3)))
  (need
  (ok2 Vl Vl (fun x x_1 x_2 x_3 => true)
  [Ta.cell
  (Td.fr 3
  (List.length
  (drL
  [Wr.mk (0 : Int) (0 : Int)
  [IntKind.wrap IntKind.i64
  (Int.tmod (U2.a (List.getD l 0 Enc.dflt))
  (8 : Int)),
  IntKind.wrap IntKind.i64
  (Int.tmod (U2.a (List.getD l 1 Enc.dflt))
  (8 : Int)),
  IntKind.wrap IntKind.i64
  (Int.tmod (U2.a (List.getD l 2 Enc.dflt))
  (8 : Int))]
  0
  [Vl.mk (2 : Int)
  (IntKind.wrap IntKind.i64
  (U2.b (List.getD l 0 Enc.dflt)))
  0,
  Vl.mk (2 : Int)
  (IntKind.wrap IntKind.i64
  (U2.b (List.getD l 1 Enc.dflt)))
  0,
  Vl.mk (2 : Int)
  (IntKind.wrap IntKind.i64
  (U2.b (List.getD l 2 Enc.dflt)))
  0]
  0]
  (listT Vl
  (Td.fr 3 (List.length A) 0 fun i =>
  encL A (0 + i)))
  (List.length
  [Wr.mk (0 : Int) (0 : Int)
  [IntKind.wrap IntKind.i64
  (Int.tmod (U2.a (List.getD l 0 Enc.dflt))
  (8 : Int)),
  IntKind.wrap IntKind.i64
  (Int.tmod (U2.a (List.getD l 1 Enc.dflt))
  (8 : Int)),
  IntKind.wrap IntKind.i64
  (Int.tmod (U2.a (List.getD l 2 Enc.dflt))
  (8 : Int))]
  0
  [Vl.mk (2 : Int)
  (IntKind.wrap IntKind.i64
  (U2.b (List.getD l 0 Enc.dflt)))
  0,
  Vl.mk (2 : Int)
  (IntKind.wrap IntKind.i64
  (U2.b (List.getD l 1 Enc.dflt)))
  0,
  Vl.mk (2 : Int)
  (IntKind.wrap IntKind.i64
  (U2.b (List.getD l 2 Enc.dflt)))
  0]
  0])))
  0 fun i =>
  encL
  (drL
  [Wr.mk (0 : Int) (0 : Int)
  [IntKind.wrap IntKind.i64
  (Int.tmod (U2.a (List.getD l 0 Enc.dflt))
  (8 : Int)),
  IntKind.wrap IntKind.i64
  (Int.tmod (U2.a (List.getD l 1 Enc.dflt))
  (8 : Int)),
  IntKind.wrap IntKind.i64
  (Int.tmod (U2.a (List.getD l 2 Enc.dflt))
  (8 : Int))]
  0
  [Vl.mk (2 : Int)
  (IntKind.wrap IntKind.i64
  (U2.b (List.getD l 0 Enc.dflt)))
  0,
  Vl.mk (2 : Int)
  (IntKind.wrap IntKind.i64
  (U2.b (List.getD l 1 Enc.dflt)))
  0,
  Vl.mk (2 : Int)
  (IntKind.wrap IntKind.i64
  (U2.b (List.getD l 2 Enc.dflt)))
  0]
  0]
  (listT Vl
  (Td.fr 3 (List.length A) 0 fun i =>
  encL A (0 + i)))
  (List.length
  [Wr.mk (0 : Int) (0 : Int)
  [IntKind.wrap IntKind.i64
  (Int.tmod (U2.a (List.getD l 0 Enc.dflt))
  (8 : Int)),
  IntKind.wrap IntKind.i64
  (Int.tmod (U2.a (List.getD l 1 Enc.dflt))
  (8 : Int)),
  IntKind.wrap IntKind.i64
  (Int.tmod (U2.a (List.getD l 2 Enc.dflt))
  (8 : Int))]
  0
  [Vl.mk (2 : Int)
  (IntKind.wrap IntKind.i64
  (U2.b (List.getD l 0 Enc.dflt)))
  0,
  Vl.mk (2 : Int)
  (IntKind.wrap IntKind.i64
  (U2.b (List.getD l 1 Enc.dflt)))
  0,
  Vl.mk (2 : Int)
  (IntKind.wrap IntKind.i64
  (U2.b (List.getD l 2 Enc.dflt)))
  0]
  0]))
  (0 + i)),
  Ta.cell
  (Td.fr 3 (List.length (wantN l A 3)) 0
  fun i => encL (wantN l A 3) (0 + i))])
  (need
  (sameVs
  (listT Vl
  (Td.fr 3
  (List.length
  (drL
  [Wr.mk (0 : Int) (0 : Int)
  [IntKind.wrap IntKind.i64
  (Int.tmod (U2.a (List.getD l 0 Enc.dflt))
  (8 : Int)),
  IntKind.wrap IntKind.i64
  (Int.tmod (U2.a (List.getD l 1 Enc.dflt))
  (8 : Int)),
  IntKind.wrap IntKind.i64
  (Int.tmod (U2.a (List.getD l 2 Enc.dflt))
  (8 : Int))]
  0
  [Vl.mk (2 : Int)
  (IntKind.wrap IntKind.i64
  (U2.b (List.getD l 0 Enc.dflt)))
  0,
  Vl.mk (2 : Int)
  (IntKind.wrap IntKind.i64
  (U2.b (List.getD l 1 Enc.dflt)))
  0,
  Vl.mk (2 : Int)
  (IntKind.wrap IntKind.i64
  (U2.b (List.getD l 2 Enc.dflt)))
  0]
  0]
  (listT Vl
  (Td.fr 3 (List.length A) 0 fun i =>
  encL A (0 + i)))
  (List.length
  [Wr.mk (0 : Int) (0 : Int)
  [IntKind.wrap IntKind.i64
  (Int.tmod (U2.a (List.getD l 0 Enc.dflt))
  (8 : Int)),
  IntKind.wrap IntKind.i64
  (Int.tmod (U2.a (List.getD l 1 Enc.dflt))
  (8 : Int)),
  IntKind.wrap IntKind.i64
  (Int.tmod (U2.a (List.getD l 2 Enc.dflt))
  (8 : Int))]
  0
  [Vl.mk (2 : Int)
  (IntKind.wrap IntKind.i64
  (U2.b (List.getD l 0 Enc.dflt)))
  0,
  Vl.mk (2 : Int)
  (IntKind.wrap IntKind.i64
  (U2.b (List.getD l 1 Enc.dflt)))
  0,
  Vl.mk (2 : Int)
  (IntKind.wrap IntKind.i64
  (U2.b (List.getD l 2 Enc.dflt)))
  0]
  0])))
  0 fun i =>
  encL
  (drL
  [Wr.mk (0 : Int) (0 : Int)
  [IntKind.wrap IntKind.i64
  (Int.tmod (U2.a (List.getD l 0 Enc.dflt))
  (8 : Int)),
  IntKind.wrap IntKind.i64
  (Int.tmod (U2.a (List.getD l 1 Enc.dflt))
  (8 : Int)),
  IntKind.wrap IntKind.i64
  (Int.tmod (U2.a (List.getD l 2 Enc.dflt))
  (8 : Int))]
  0
  [Vl.mk (2 : Int)
  (IntKind.wrap IntKind.i64
  (U2.b (List.getD l 0 Enc.dflt)))
  0,
  Vl.mk (2 : Int)
  (IntKind.wrap IntKind.i64
  (U2.b (List.getD l 1 Enc.dflt)))
  0,
  Vl.mk (2 : Int)
  (IntKind.wrap IntKind.i64
  (U2.b (List.getD l 2 Enc.dflt)))
  0]
  0]
  (listT Vl
  (Td.fr 3 (List.length A) 0 fun i =>
  encL A (0 + i)))
  (List.length
  [Wr.mk (0 : Int) (0 : Int)
  [IntKind.wrap IntKind.i64
  (Int.tmod (U2.a (List.getD l 0 Enc.dflt))
  (8 : Int)),
  IntKind.wrap IntKind.i64
  (Int.tmod (U2.a (List.getD l 1 Enc.dflt))
  (8 : Int)),
  IntKind.wrap IntKind.i64
  (Int.tmod (U2.a (List.getD l 2 Enc.dflt))
  (8 : Int))]
  0
  [Vl.mk (2 : Int)
  (IntKind.wrap IntKind.i64
  (U2.b (List.getD l 0 Enc.dflt)))
  0,
  Vl.mk (2 : Int)
  (IntKind.wrap IntKind.i64
  (U2.b (List.getD l 1 Enc.dflt)))
  0,
  Vl.mk (2 : Int)
  (IntKind.wrap IntKind.i64
  (U2.b (List.getD l 2 Enc.dflt)))
  0]
  0]))
  (0 + i)))
  (listT Vl
  (Td.fr 3 (List.length (wantN l A 3)) 0
  fun i => encL (wantN l A 3) (0 + i))))
  True)))))) ∧
  (List.length l = 4 →
  need (true && Nat.ble (0 + List.length A) (List.length A))
  (need
  (ok2 Wr Vl (fun l x x_1 x_2 => List.all l (okA Wr))
  [Ta.cell
  (Td.fr 4 2 0
  (selT 4 2
  [Td.sc (Value.int IntKind.i64 (0 : Int)),
  Td.sc (Value.int IntKind.i64 (0 : Int)),
  Td.fr 1 3 0
  (selT 1 3
  [Td.sc
  (Value.int IntKind.i64
  (IntKind.wrap IntKind.i64
  (Int.tmod (U2.a (List.getD l 0 Enc.dflt))
  (8 : Int)))),
  Td.sc
  (Value.int IntKind.i64
  (IntKind.wrap IntKind.i64
  (Int.tmod (U2.a (List.getD l 1 Enc.dflt))
  (8 : Int)))),
  Td.sc
  (Value.int IntKind.i64
  (IntKind.wrap IntKind.i64
  (Int.tmod (U2.a (List.getD l 2 Enc.dflt))
  (8 : Int))))]),
  Td.fr 3 3 0
  (selT 3 3
  [Td.sc (Value.int IntKind.i64 (2 : Int)),
  Td.sc
  (Value.int IntKind.i64
  (IntKind.wrap IntKind.i64
  (U2.b (List.getD l 0 Enc.dflt)))),
  Td.sc (Value.float FloatKind.f64 0),
  Td.sc (Value.int IntKind.i64 (2 : Int)),
  Td.sc
  (Value.int IntKind.i64
  (IntKind.wrap IntKind.i64
  (U2.b (List.getD l 1 Enc.dflt)))),
  Td.sc (Value.float FloatKind.f64 0),
  Td.sc (Value.int IntKind.i64 (2 : Int)),
  Td.sc
  (Value.int IntKind.i64
  (IntKind.wrap IntKind.i64
  (U2.b (List.getD l 2 Enc.dflt)))),
  Td.sc (Value.float FloatKind.f64 0)]),
  Td.sc (Value.int IntKind.i64 (0 : Int)),
  Td.sc (Value.int IntKind.i64 (0 : Int)),
  Td.fr 1 1 0
  (selT 1 1
  [Td.sc
  (Value.int IntKind.i64
  (IntKind.wrap IntKind.i64
  (Int.tmod (U2.a (List.getD l 3 Enc.dflt))
  (8 : Int))))]),
  Td.fr 3 1 0
  (selT 3 1
  [Td.sc (Value.int IntKind.i64 (2 : Int)),
  Td.sc
  (Value.int IntKind.i64
  (IntKind.wrap IntKind.i64
  (U2.b (List.getD l 3 Enc.dflt)))),
  Td.sc (Value.float FloatKind.f64 0)])])),
  Ta.cell
  (Td.fr 3 (List.length A) 0 fun i =>
  encL A (0 + i))])
  (need
  (true &&
  Nat.ble
  (0 +
  List.length
  (drL
  [Wr.mk (0 : Int) (0 : Int)
  [IntKind.wrap IntKind.i64
  (Int.tmod (U2.a (List.getD l 0 Enc.dflt))
  (8 : Int)),
  IntKind.wrap IntKind.i64
  (Int.tmod (U2.a (List.getD l 1 Enc.dflt))
  (8 : Int)),
  IntKind.wrap IntKind.i64
  (Int.tmod (U2.a (List.getD l 2 Enc.dflt))
  (8 : Int))]
  0
  [Vl.mk (2 : Int)
  (IntKind.wrap IntKind.i64
  (U2.b (List.getD l 0 Enc.dflt)))
  0,
  Vl.mk (2 : Int)
  (IntKind.wrap IntKind.i64
  (U2.b (List.getD l 1 Enc.dflt)))
  0,
  Vl.mk (2 : Int)
  (IntKind.wrap IntKind.i64
  (U2.b (List.getD l 2 Enc.dflt)))
  0]
  0,
  Wr.mk (0 : Int) (0 : Int)
  [IntKind.wrap IntKind.i64
  (Int.tmod (U2.a (List.getD l 3 Enc.dflt))
  (8 : Int))]
  0
  [Vl.mk (2 : Int)
  (IntKind.wrap IntKind.i64
  (U2.b (List.getD l 3 Enc.dflt)))
  0]
  0]
  (listT Vl
  (Td.fr 3 (List.length A) 0 fun i =>
  encL A (0 + i)))
  (List.length
  [Wr.mk (0 : Int) (0 : Int)
  [IntKind.wrap IntKind.i64
  (Int.tmod (U2.a (List.getD l 0 Enc.dflt))
  (8 : Int)),
  IntKind.wrap IntKind.i64
  (Int.tmod (U2.a (List.getD l 1 Enc.dflt))
  (8 : Int)),
  IntKind.wrap IntKind.i64
  (Int.tmod (U2.a (List.getD l 2 Enc.dflt))
  (8 : Int))]
  0
  [Vl.mk (2 : Int)
  (IntKind.wrap IntKind.i64
  (U2.b (List.getD l 0 Enc.dflt)))
  0,
  Vl.mk (2 : Int)
  (IntKind.wrap IntKind.i64
  (U2.b (List.getD l 1 Enc.dflt)))
  0,
  Vl.mk (2 : Int)
  (IntKind.wrap IntKind.i64
  (U2.b (List.getD l 2 Enc.dflt)))
  0]
  0,
  Wr.mk (0 : Int) (0 : Int)
  [IntKind.wrap IntKind.i64
  (Int.tmod (U2.a (List.getD l 3 Enc.dflt))
  (8 : Int))]
  0
  [Vl.mk (2 : Int)
  (IntKind.wrap IntKind.i64
  (U2.b (List.getD l 3 Enc.dflt)))
  0]
  0])))
  (List.length
  (drL
  [Wr.mk (0 : Int) (0 : Int)
  [IntKind.wrap IntKind.i64
  (Int.tmod (U2.a (List.getD l 0 Enc.dflt))
  (8 : Int)),
  IntKind.wrap IntKind.i64
  (Int.tmod (U2.a (List.getD l 1 Enc.dflt))
  (8 : Int)),
  IntKind.wrap IntKind.i64
  (Int.tmod (U2.a (List.getD l 2 Enc.dflt))
  (8 : Int))]
  0
  [Vl.mk (2 : Int)
  (IntKind.wrap IntKind.i64
  (U2.b (List.getD l 0 Enc.dflt)))
  0,
  Vl.mk (2 : Int)
  (IntKind.wrap IntKind.i64
  (U2.b (List.getD l 1 Enc.dflt)))
  0,
  Vl.mk (2 : Int)
  (IntKind.wrap IntKind.i64
  (U2.b (List.getD l 2 Enc.dflt)))
  0]
  0,
  Wr.mk (0 : Int) (0 : Int)
  [IntKind.wrap IntKind.i64
  (Int.tmod (U2.a (List.getD l 3 Enc.dflt))
  (8 : Int))]
  0
  [Vl.mk (2 : Int)
  (IntKind.wrap IntKind.i64
  (U2.b (List.getD l 3 Enc.dflt)))
  0]
  0]
  (listT Vl
  (Td.fr 3 (List.length A) 0 fun i =>
  encL A (0 + i)))
  (List.length
  [Wr.mk (0 : Int) (0 : Int)
  [IntKind.wrap IntKind.i64
  (Int.tmod (U2.a (List.getD l 0 Enc.dflt))
  (8 : Int)),
  IntKind.wrap IntKind.i64
  (Int.tmod (U2.a (List.getD l 1 Enc.dflt))
  (8 : Int)),
  IntKind.wrap IntKind.i64
  (Int.tmod (U2.a (List.getD l 2 Enc.dflt))
  (8 : Int))]
  0
  [Vl.mk (2 : Int)
  (IntKind.wrap IntKind.i64
  (U2.b (List.getD l 0 Enc.dflt)))
  0,
  Vl.mk (2 : Int)
  (IntKind.wrap IntKind.i64
  (U2.b (List.getD l 1 Enc.dflt)))
  0,
  Vl.mk (2 : Int)
  (IntKind.wrap IntKind.i64
  (U2.b (List.getD l 2 Enc.dflt)))
  0]
  0,
  Wr.mk (0 : Int) (0 : Int)
  [IntKind.wrap IntKind.i64
  (Int.tmod (U2.a (List.getD l 3 Enc.dflt))
  (8 : Int))]
  0
  [Vl.mk (2 : Int)
  (IntKind.wrap IntKind.i64
  (U2.b (List.getD l 3 Enc.dflt)))
  0]
  0]))))
  (need
  (true &&
  Nat.ble (0 + List.length (wantN l A 4))
  (List.length (wantN l A 4)))
  (need
  (ok2 Vl Vl (fun x x_1 x_2 x_3 => true)
  [Ta.cell
  (Td.fr 3
  (List.length
  (drL
  [Wr.mk (0 : Int) (0 : Int)
  [IntKind.wrap IntKind.i64
  (Int.tmod (U2.a (List.getD l 0 Enc.dflt))
  (8 : Int)),
  IntKind.wrap IntKind.i64
  (Int.tmod (U2.a (List.getD l 1 Enc.dflt))
  (8 : Int)),
  IntKind.wrap IntKind.i64
  (Int.tmod (U2.a (List.getD l 2 Enc.dflt))
  (8 : Int))]
  0
  [Vl.mk (2 : Int)
  (IntKind.wrap IntKind.i64
  (U2.b (List.getD l 0 Enc.dflt)))
  0,
  Vl.mk (2 : Int)
  (IntKind.wrap IntKind.i64
  (U2.b (List.getD l 1 Enc.dflt)))
  0,
  Vl.mk (2 : Int)
  (IntKind.wrap IntKind.i64
  (U2.b (List.getD l 2 Enc.dflt)))
  0]
  0,
  Wr.mk (0 : Int) (0 : Int)
  [IntKind.wrap IntKind.i64
  (Int.tmod (U2.a (List.getD l 3 Enc.dflt))
  (8 : Int))]
  0
  [Vl.mk (2 : Int)
  (IntKind.wrap IntKind.i64
  (U2.b (List.getD l 3 Enc.dflt)))
  0]
  0]
  (listT Vl
  (Td.fr 3 (List.length A) 0 fun i =>
  encL A (0 + i)))
  (List.length
  [Wr.mk (0 : Int) (0 : Int)
  [IntKind.wrap IntKind.i64
  (Int.tmod (U2.a (List.getD l 0 Enc.dflt))
  (8 : Int)),
  IntKind.wrap IntKind.i64
  (Int.tmod (U2.a (List.getD l 1 Enc.dflt))
  (8 : Int)),
  IntKind.wrap IntKind.i64
  (Int.tmod (U2.a (List.getD l 2 Enc.dflt))
  (8 : Int))]
  0
  [Vl.mk (2 : Int)
  (IntKind.wrap IntKind.i64
  (U2.b (List.getD l 0 Enc.dflt)))
  0,
  Vl.mk (2 : Int)
  (IntKind.wrap IntKind.i64
  (U2.b (List.getD l 1 Enc.dflt)))
  0,
  Vl.mk (2 : Int)
  (IntKind.wrap IntKind.i64
  (U2.b (List.getD l 2 Enc.dflt)))
  0]
  0,
  Wr.mk (0 : Int) (0 : Int)
  [IntKind.wrap IntKind.i64
  (Int.tmod (U2.a (List.getD l 3 Enc.dflt))
  (8 : Int))]
  0
  [Vl.mk (2 : Int)
  (IntKind.wrap IntKind.i64
  (U2.b (List.getD l 3 Enc.dflt)))
  0]
  0])))
  0 fun i =>
  encL
  (drL
  [Wr.mk (0 : Int) (0 : Int)
  [IntKind.wrap IntKind.i64
  (Int.tmod (U2.a (List.getD l 0 Enc.dflt))
  (8 : Int)),
  IntKind.wrap IntKind.i64
  (Int.tmod (U2.a (List.getD l 1 Enc.dflt))
  (8 : Int)),
  IntKind.wrap IntKind.i64
  (Int.tmod (U2.a (List.getD l 2 Enc.dflt))
  (8 : Int))]
  0
  [Vl.mk (2 : Int)
  (IntKind.wrap IntKind.i64
  (U2.b (List.getD l 0 Enc.dflt)))
  0,
  Vl.mk (2 : Int)
  (IntKind.wrap IntKind.i64
  (U2.b (List.getD l 1 Enc.dflt)))
  0,
  Vl.mk (2 : Int)
  (IntKind.wrap IntKind.i64
  (U2.b (List.getD l 2 Enc.dflt)))
  0]
  0,
  Wr.mk (0 : Int) (0 : Int)
  [IntKind.wrap IntKind.i64
  (Int.tmod (U2.a (List.getD l 3 Enc.dflt))
  (8 : Int))]
  0
  [Vl.mk (2 : Int)
  (IntKind.wrap IntKind.i64
  (U2.b (List.getD l 3 Enc.dflt)))
  0]
  0]
  (listT Vl
  (Td.fr 3 (List.length A) 0 fun i =>
  encL A (0 + i)))
  (List.length
  [Wr.mk (0 : Int) (0 : Int)
  [IntKind.wrap IntKind.i64
  (Int.tmod (U2.a (List.getD l 0 Enc.dflt))
  (8 : Int)),
  IntKind.wrap IntKind.i64
  (Int.tmod (U2.a (List.getD l 1 Enc.dflt))
  (8 : Int)),
  IntKind.wrap IntKind.i64
  (Int.tmod (U2.a (List.getD l 2 Enc.dflt))
  (8 : Int))]
  0
  [Vl.mk (2 : Int)
  (IntKind.wrap IntKind.i64
  (U2.b (List.getD l 0 Enc.dflt)))
  0,
  Vl.mk (2 : Int)
  (IntKind.wrap IntKind.i64
  (U2.b (List.getD l 1 Enc.dflt)))
  0,
  Vl.mk (2 : Int)
  (IntKind.wrap IntKind.i64
  (U2.b (List.getD l 2 Enc.dflt)))
  0]
  0,
  Wr.mk (0 : Int) (0 : Int)
  [IntKind.wrap IntKind.i64
  (Int.tmod (U2.a (List.getD l 3 Enc.dflt))
  (8 : Int))]
  0
  [Vl.mk (2 : Int)
  (IntKind.wrap IntKind.i64
  (U2.b (List.getD l 3 Enc.dflt)))
  0]
  0]))
  (0 + i)),
  Ta.cell
  (Td.fr 3 (List.length (wantN l A 4)) 0
  fun i => encL (wantN l A 4) (0 + i))])
  (need
  (sameVs
  (listT Vl
  (Td.fr 3
  (List.length
  (drL
  [Wr.mk (0 : Int) (0 : Int)
  [IntKind.wrap IntKind.i64
  (Int.tmod (U2.a (List.getD l 0 Enc.dflt))
  (8 : Int)),
  IntKind.wrap IntKind.i64
  (Int.tmod (U2.a (List.getD l 1 Enc.dflt))
  (8 : Int)),
  IntKind.wrap IntKind.i64
  (Int.tmod (U2.a (List.getD l 2 Enc.dflt))
  (8 : Int))]
  0
  [Vl.mk (2 : Int)
  (IntKind.wrap IntKind.i64
  (U2.b (List.getD l 0 Enc.dflt)))
  0,
  Vl.mk (2 : Int)
  (IntKind.wrap IntKind.i64
  (U2.b (List.getD l 1 Enc.dflt)))
  0,
  Vl.mk (2 : Int)
  (IntKind.wrap IntKind.i64
  (U2.b (List.getD l 2 Enc.dflt)))
  0]
  0,
  Wr.mk (0 : Int) (0 : Int)
  [IntKind.wrap IntKind.i64
  (Int.tmod (U2.a (List.getD l 3 Enc.dflt))
  (8 : Int))]
  0
  [Vl.mk (2 : Int)
  (IntKind.wrap IntKind.i64
  (U2.b (List.getD l 3 Enc.dflt)))
  0]
  0]
  (listT Vl
  (Td.fr 3 (List.length A) 0 fun i =>
  encL A (0 + i)))
  (List.length
  [Wr.mk (0 : Int) (0 : Int)
  [IntKind.wrap IntKind.i64
  (Int.tmod (U2.a (List.getD l 0 Enc.dflt))
  (8 : Int)),
  IntKind.wrap IntKind.i64
  (Int.tmod (U2.a (List.getD l 1 Enc.dflt))
  (8 : Int)),
  IntKind.wrap IntKind.i64
  (Int.tmod (U2.a (List.getD l 2 Enc.dflt))
  (8 : Int))]
  0
  [Vl.mk (2 : Int)
  (IntKind.wrap IntKind.i64
  (U2.b (List.getD l 0 Enc.dflt)))
  0,
  Vl.mk (2 : Int)
  (IntKind.wrap IntKind.i64
  (U2.b (List.getD l 1 Enc.dflt)))
  0,
  Vl.mk (2 : Int)
  (IntKind.wrap IntKind.i64
  (U2.b (List.getD l 2 Enc.dflt)))
  0]
  0,
  Wr.mk (0 : Int) (0 : Int)
  [IntKind.wrap IntKind.i64
  (Int.tmod (U2.a (List.getD l 3 Enc.dflt))
  (8 : Int))]
  0
  [Vl.mk (2 : Int)
  (IntKind.wrap IntKind.i64
  (U2.b (List.getD l 3 Enc.dflt)))
  0]
  0])))
  0 fun i =>
  encL
  (drL
  [Wr.mk (0 : Int) (0 : Int)
  [IntKind.wrap IntKind.i64
  (Int.tmod (U2.a (List.getD l 0 Enc.dflt))
  (8 : Int)),
  IntKind.wrap IntKind.i64
  (Int.tmod (U2.a (List.getD l 1 Enc.dflt))
  (8 : Int)),
  IntKind.wrap IntKind.i64
  (Int.tmod (U2.a (List.getD l 2 Enc.dflt))
  (8 : Int))]
  0
  [Vl.mk (2 : Int)
  (IntKind.wrap IntKind.i64
  (U2.b (List.getD l 0 Enc.dflt)))
  0,
  Vl.mk (2 : Int)
  (IntKind.wrap IntKind.i64
  (U2.b (List.getD l 1 Enc.dflt)))
  0,
  Vl.mk (2 : Int)
  (IntKind.wrap IntKind.i64
  (U2.b (List.getD l 2 Enc.dflt)))
  0]
  0,
  Wr.mk (0 : Int) (0 : Int)
  [IntKind.wrap IntKind.i64
  (Int.tmod (U2.a (List.getD l 3 Enc.dflt))
  (8 : Int))]
  0
  [Vl.mk (2 : Int)
  (IntKind.wrap IntKind.i64
  (U2.b (List.getD l 3 Enc.dflt)))
  0]
  0]
  (listT Vl
  (Td.fr 3 (List.length A) 0 fun i =>
  encL A (0 + i)))
  (List.length
  [Wr.mk (0 : Int) (0 : Int)
  [IntKind.wrap IntKind.i64
  (Int.tmod (U2.a (List.getD l 0 Enc.dflt))
  (8 : Int)),
  IntKind.wrap IntKind.i64
  (Int.tmod (U2.a (List.getD l 1 Enc.dflt))
  (8 : Int)),
  IntKind.wrap IntKind.i64
  (Int.tmod (U2.a (List.getD l 2 Enc.dflt))
  (8 : Int))]
  0
  [Vl.mk (2 : Int)
  (IntKind.wrap IntKind.i64
  (U2.b (List.getD l 0 Enc.dflt)))
  0,
  Vl.mk (2 : Int)
  (IntKind.wrap IntKind.i64
  (U2.b (List.getD l 1 Enc.dflt)))
  0,
  Vl.mk (2 : Int)
  (IntKind.wrap IntKind.i64
  (U2.b (List.getD l 2 Enc.dflt)))
  0]
  0,
  Wr.mk (0 : Int) (0 : Int)
  [IntKind.wrap IntKind.i64
  (Int.tmod (U2.a (List.getD l 3 Enc.dflt))
  (8 : Int))]
  0
  [Vl.mk (2 : Int)
  (IntKind.wrap IntKind.i64
  (U2.b (List.getD l 3 Enc.dflt)))
  0]
  0]))
  (0 + i)))
  (listT Vl
  (Td.fr 3 (List.length (wantN l A 4)) 0
  fun i => encL (wantN l A 4) (0 + i))))
  True)))))) ∧
  (List.length l = 5 →
  need (true && Nat.ble (0 + List.length A) (List.length A))
  (need
  (ok2 Wr Vl (fun l x x_1 x_2 => List.all l (okA Wr))
  [Ta.cell
  (Td.fr 4 2 0
  (selT 4 2
  [Td.sc (Value.int IntKind.i64 (0 : Int)),
  Td.sc (Value.int IntKind.i64 (0 : Int)),
  Td.fr 1 3 0
  (selT 1 3
  [Td.sc
  (Value.int IntKind.i64
  (IntKind.wrap IntKind.i64
  (Int.tmod (U2.a (List.getD l 0 Enc.dflt))
  (8 : Int)))),
  Td.sc
  (Value.int IntKind.i64
  (IntKind.wrap IntKind.i64
  (Int.tmod (U2.a (List.getD l 1 Enc.dflt))
  (8 : Int)))),
  Td.sc
  (Value.int IntKind.i64
  (IntKind.wrap IntKind.i64
  (Int.tmod (U2.a (List.getD l 2 Enc.dflt))
  (8 : Int))))]),
  Td.fr 3 3 0
  (selT 3 3
  [Td.sc (Value.int IntKind.i64 (2 : Int)),
  Td.sc
  (Value.int IntKind.i64
  (IntKind.wrap IntKind.i64
  (U2.b (List.getD l 0 Enc.dflt)))),
  Td.sc (Value.float FloatKind.f64 0),
  Td.sc (Value.int IntKind.i64 (2 : Int)),
  Td.sc
  (Value.int IntKind.i64
  (IntKind.wrap IntKind.i64
  (U2.b (List.getD l 1 Enc.dflt)))),
  Td.sc (Value.float FloatKind.f64 0),
  Td.sc (Value.int IntKind.i64 (2 : Int)),
  Td.sc
  (Value.int IntKind.i64
  (IntKind.wrap IntKind.i64
  (U2.b (List.getD l 2 Enc.dflt)))),
  Td.sc (Value.float FloatKind.f64 0)]),
  Td.sc (Value.int IntKind.i64 (0 : Int)),
  Td.sc (Value.int IntKind.i64 (0 : Int)),
  Td.fr 1 2 0
  (selT 1 2
  [Td.sc
  (Value.int IntKind.i64
  (IntKind.wrap IntKind.i64
  (Int.tmod (U2.a (List.getD l 3 Enc.dflt))
  (8 : Int)))),
  Td.sc
  (Value.int IntKind.i64
  (IntKind.wrap IntKind.i64
  (Int.tmod (U2.a (List.getD l 4 Enc.dflt))
  (8 : Int))))]),
  Td.fr 3 2 0
  (selT 3 2
  [Td.sc (Value.int IntKind.i64 (2 : Int)),
  Td.sc
  (Value.int IntKind.i64
  (IntKind.wrap IntKind.i64
  (U2.b (List.getD l 3 Enc.dflt)))),
  Td.sc (Value.float FloatKind.f64 0),
  Td.sc (Value.int IntKind.i64 (2 : Int)),
  Td.sc
  (Value.int IntKind.i64
  (IntKind.wrap IntKind.i64
  (U2.b (List.getD l 4 Enc.dflt)))),
  Td.sc (Value.float FloatKind.f64 0)])])),
  Ta.cell
  (Td.fr 3 (List.length A) 0 fun i =>
  encL A (0 + i))])
  (need
  (true &&
  Nat.ble
  (0 +
  List.length
  (drL
  [Wr.mk (0 : Int) (0 : Int)
  [IntKind.wrap IntKind.i64
  (Int.tmod (U2.a (List.getD l 0 Enc.dflt))
  (8 : Int)),
  IntKind.wrap IntKind.i64
  (Int.tmod (U2.a (List.getD l 1 Enc.dflt))
  (8 : Int)),
  IntKind.wrap IntKind.i64
  (Int.tmod (U2.a (List.getD l 2 Enc.dflt))
  (8 : Int))]
  0
  [Vl.mk (2 : Int)
  (IntKind.wrap IntKind.i64
  (U2.b (List.getD l 0 Enc.dflt)))
  0,
  Vl.mk (2 : Int)
  (IntKind.wrap IntKind.i64
  (U2.b (List.getD l 1 Enc.dflt)))
  0,
  Vl.mk (2 : Int)
  (IntKind.wrap IntKind.i64
  (U2.b (List.getD l 2 Enc.dflt)))
  0]
  0,
  Wr.mk (0 : Int) (0 : Int)
  [IntKind.wrap IntKind.i64
  (Int.tmod (U2.a (List.getD l 3 Enc.dflt))
  (8 : Int)),
  IntKind.wrap IntKind.i64
  (Int.tmod (U2.a (List.getD l 4 Enc.dflt))
  (8 : Int))]
  0
  [Vl.mk (2 : Int)
  (IntKind.wrap IntKind.i64
  (U2.b (List.getD l 3 Enc.dflt)))
  0,
  Vl.mk (2 : Int)
  (IntKind.wrap IntKind.i64
  (U2.b (List.getD l 4 Enc.dflt)))
  0]
  0]
  (listT Vl
  (Td.fr 3 (List.length A) 0 fun i =>
  encL A (0 + i)))
  (List.length
  [Wr.mk (0 : Int) (0 : Int)
  [IntKind.wrap IntKind.i64
  (Int.tmod (U2.a (List.getD l 0 Enc.dflt))
  (8 : Int)),
  IntKind.wrap IntKind.i64
  (Int.tmod (U2.a (List.getD l 1 Enc.dflt))
  (8 : Int)),
  IntKind.wrap IntKind.i64
  (Int.tmod (U2.a (List.getD l 2 Enc.dflt))
  (8 : Int))]
  0
  [Vl.mk (2 : Int)
  (IntKind.wrap IntKind.i64
  (U2.b (List.getD l 0 Enc.dflt)))
  0,
  Vl.mk (2 : Int)
  (IntKind.wrap IntKind.i64
  (U2.b (List.getD l 1 Enc.dflt)))
  0,
  Vl.mk (2 : Int)
  (IntKind.wrap IntKind.i64
  (U2.b (List.getD l 2 Enc.dflt)))
  0]
  0,
  Wr.mk (0 : Int) (0 : Int)
  [IntKind.wrap IntKind.i64
  (Int.tmod (U2.a (List.getD l 3 Enc.dflt))
  (8 : Int)),
  IntKind.wrap IntKind.i64
  (Int.tmod (U2.a (List.getD l 4 Enc.dflt))
  (8 : Int))]
  0
  [Vl.mk (2 : Int)
  (IntKind.wrap IntKind.i64
  (U2.b (List.getD l 3 Enc.dflt)))
  0,
  Vl.mk (2 : Int)
  (IntKind.wrap IntKind.i64
  (U2.b (List.getD l 4 Enc.dflt)))
  0]
  0])))
  (List.length
  (drL
  [Wr.mk (0 : Int) (0 : Int)
  [IntKind.wrap IntKind.i64
  (Int.tmod (U2.a (List.getD l 0 Enc.dflt))
  (8 : Int)),
  IntKind.wrap IntKind.i64
  (Int.tmod (U2.a (List.getD l 1 Enc.dflt))
  (8 : Int)),
  IntKind.wrap IntKind.i64
  (Int.tmod (U2.a (List.getD l 2 Enc.dflt))
  (8 : Int))]
  0
  [Vl.mk (2 : Int)
  (IntKind.wrap IntKind.i64
  (U2.b (List.getD l 0 Enc.dflt)))
  0,
  Vl.mk (2 : Int)
  (IntKind.wrap IntKind.i64
  (U2.b (List.getD l 1 Enc.dflt)))
  0,
  Vl.mk (2 : Int)
  (IntKind.wrap IntKind.i64
  (U2.b (List.getD l 2 Enc.dflt)))
  0]
  0,
  Wr.mk (0 : Int) (0 : Int)
  [IntKind.wrap IntKind.i64
  (Int.tmod (U2.a (List.getD l 3 Enc.dflt))
  (8 : Int)),
  IntKind.wrap IntKind.i64
  (Int.tmod (U2.a (List.getD l 4 Enc.dflt))
  (8 : Int))]
  0
  [Vl.mk (2 : Int)
  (IntKind.wrap IntKind.i64
  (U2.b (List.getD l 3 Enc.dflt)))
  0,
  Vl.mk (2 : Int)
  (IntKind.wrap IntKind.i64
  (U2.b (List.getD l 4 Enc.dflt)))
  0]
  0]
  (listT Vl
  (Td.fr 3 (List.length A) 0 fun i =>
  encL A (0 + i)))
  (List.length
  [Wr.mk (0 : Int) (0 : Int)
  [IntKind.wrap IntKind.i64
  (Int.tmod (U2.a (List.getD l 0 Enc.dflt))
  (8 : Int)),
  IntKind.wrap IntKind.i64
  (Int.tmod (U2.a (List.getD l 1 Enc.dflt))
  (8 : Int)),
  IntKind.wrap IntKind.i64
  (Int.tmod (U2.a (List.getD l 2 Enc.dflt))
  (8 : Int))]
  0
  [Vl.mk (2 : Int)
  (IntKind.wrap IntKind.i64
  (U2.b (List.getD l 0 Enc.dflt)))
  0,
  Vl.mk (2 : Int)
  (IntKind.wrap IntKind.i64
  (U2.b (List.getD l 1 Enc.dflt)))
  0,
  Vl.mk (2 : Int)
  (IntKind.wrap IntKind.i64
  (U2.b (List.getD l 2 Enc.dflt)))
  0]
  0,
  Wr.mk (0 : Int) (0 : Int)
  [IntKind.wrap IntKind.i64
  (Int.tmod (U2.a (List.getD l 3 Enc.dflt))
  (8 : Int)),
  IntKind.wrap IntKind.i64
  (Int.tmod (U2.a (List.getD l 4 Enc.dflt))
  (8 : Int))]
  0
  [Vl.mk (2 : Int)
  (IntKind.wrap IntKind.i64
  (U2.b (List.getD l 3 Enc.dflt)))
  0,
  Vl.mk (2 : Int)
  (IntKind.wrap IntKind.i64
  (U2.b (List.getD l 4 Enc.dflt)))
  0]
  0]))))
  (need
  (true &&
  Nat.ble (0 + List.length (wantN l A 5))
  (List.length (wantN l A 5)))
  (need
  (ok2 Vl Vl (fun x x_1 x_2 x_3 => true)
  [Ta.cell
  (Td.fr 3
  (List.length
  (drL
  [Wr.mk (0 : Int) (0 : Int)
  [IntKind.wrap IntKind.i64
  (Int.tmod (U2.a (List.getD l 0 Enc.dflt))
  (8 : Int)),
  IntKind.wrap IntKind.i64
  (Int.tmod (U2.a (List.getD l 1 Enc.dflt))
  (8 : Int)),
  IntKind.wrap IntKind.i64
  (Int.tmod (U2.a (List.getD l 2 Enc.dflt))
  (8 : Int))]
  0
  [Vl.mk (2 : Int)
  (IntKind.wrap IntKind.i64
  (U2.b (List.getD l 0 Enc.dflt)))
  0,
  Vl.mk (2 : Int)
  (IntKind.wrap IntKind.i64
  (U2.b (List.getD l 1 Enc.dflt)))
  0,
  Vl.mk (2 : Int)
  (IntKind.wrap IntKind.i64
  (U2.b (List.getD l 2 Enc.dflt)))
  0]
  0,
  Wr.mk (0 : Int) (0 : Int)
  [IntKind.wrap IntKind.i64
  (Int.tmod (U2.a (List.getD l 3 Enc.dflt))
  (8 : Int)),
  IntKind.wrap IntKind.i64
  (Int.tmod (U2.a (List.getD l 4 Enc.dflt))
  (8 : Int))]
  0
  [Vl.mk (2 : Int)
  (IntKind.wrap IntKind.i64
  (U2.b (List.getD l 3 Enc.dflt)))
  0,
  Vl.mk (2 : Int)
  (IntKind.wrap IntKind.i64
  (U2.b (List.getD l 4 Enc.dflt)))
  0]
  0]
  (listT Vl
  (Td.fr 3 (List.length A) 0 fun i =>
  encL A (0 + i)))
  (List.length
  [Wr.mk (0 : Int) (0 : Int)
  [IntKind.wrap IntKind.i64
  (Int.tmod
  (U2.a (List.getD l 0 Enc.dflt))
  (8 : Int)),
  IntKind.wrap IntKind.i64
  (Int.tmod
  (U2.a (List.getD l 1 Enc.dflt))
  (8 : Int)),
  IntKind.wrap IntKind.i64
  (Int.tmod
  (U2.a (List.getD l 2 Enc.dflt))
  (8 : Int))]
  0
  [Vl.mk (2 : Int)
  (IntKind.wrap IntKind.i64
  (U2.b (List.getD l 0 Enc.dflt)))
  0,
  Vl.mk (2 : Int)
  (IntKind.wrap IntKind.i64
  (U2.b (List.getD l 1 Enc.dflt)))
  0,
  Vl.mk (2 : Int)
  (IntKind.wrap IntKind.i64
  (U2.b (List.getD l 2 Enc.dflt)))
  0]
  0,
  Wr.mk (0 : Int) (0 : Int)
  [IntKind.wrap IntKind.i64
  (Int.tmod
  (U2.a (List.getD l 3 Enc.dflt))
  (8 : Int)),
  IntKind.wrap IntKind.i64
  (Int.tmod
  (U2.a (List.getD l 4 Enc.dflt))
  (8 : Int))]
  0
  [Vl.mk (2 : Int)
  (IntKind.wrap IntKind.i64
  (U2.b (List.getD l 3 Enc.dflt)))
  0,
  Vl.mk (2 : Int)
  (IntKind.wrap IntKind.i64
  (U2.b (List.getD l 4 Enc.dflt)))
  0]
  0])))
  0 fun i =>
  encL
  (drL
  [Wr.mk (0 : Int) (0 : Int)
  [IntKind.wrap IntKind.i64
  (Int.tmod (U2.a (List.getD l 0 Enc.dflt))
  (8 : Int)),
  IntKind.wrap IntKind.i64
  (Int.tmod (U2.a (List.getD l 1 Enc.dflt))
  (8 : Int)),
  IntKind.wrap IntKind.i64
  (Int.tmod (U2.a (List.getD l 2 Enc.dflt))
  (8 : Int))]
  0
  [Vl.mk (2 : Int)
  (IntKind.wrap IntKind.i64
  (U2.b (List.getD l 0 Enc.dflt)))
  0,
  Vl.mk (2 : Int)
  (IntKind.wrap IntKind.i64
  (U2.b (List.getD l 1 Enc.dflt)))
  0,
  Vl.mk (2 : Int)
  (IntKind.wrap IntKind.i64
  (U2.b (List.getD l 2 Enc.dflt)))
  0]
  0,
  Wr.mk (0 : Int) (0 : Int)
  [IntKind.wrap IntKind.i64
  (Int.tmod (U2.a (List.getD l 3 Enc.dflt))
  (8 : Int)),
  IntKind.wrap IntKind.i64
  (Int.tmod (U2.a (List.getD l 4 Enc.dflt))
  (8 : Int))]
  0
  [Vl.mk (2 : Int)
  (IntKind.wrap IntKind.i64
  (U2.b (List.getD l 3 Enc.dflt)))
  0,
  Vl.mk (2 : Int)
  (IntKind.wrap IntKind.i64
  (U2.b (List.getD l 4 Enc.dflt)))
  0]
  0]
  (listT Vl
  (Td.fr 3 (List.length A) 0 fun i =>
  encL A (0 + i)))
  (List.length
  [Wr.mk (0 : Int) (0 : Int)
  [IntKind.wrap IntKind.i64
  (Int.tmod
  (U2.a (List.getD l 0 Enc.dflt))
  (8 : Int)),
  IntKind.wrap IntKind.i64
  (Int.tmod
  (U2.a (List.getD l 1 Enc.dflt))
  (8 : Int)),
  IntKind.wrap IntKind.i64
  (Int.tmod
  (U2.a (List.getD l 2 Enc.dflt))
  (8 : Int))]
  0
  [Vl.mk (2 : Int)
  (IntKind.wrap IntKind.i64
  (U2.b (List.getD l 0 Enc.dflt)))
  0,
  Vl.mk (2 : Int)
  (IntKind.wrap IntKind.i64
  (U2.b (List.getD l 1 Enc.dflt)))
  0,
  Vl.mk (2 : Int)
  (IntKind.wrap IntKind.i64
  (U2.b (List.getD l 2 Enc.dflt)))
  0]
  0,
  Wr.mk (0 : Int) (0 : Int)
  [IntKind.wrap IntKind.i64
  (Int.tmod
  (U2.a (List.getD l 3 Enc.dflt))
  (8 : Int)),
  IntKind.wrap IntKind.i64
  (Int.tmod
  (U2.a (List.getD l 4 Enc.dflt))
  (8 : Int))]
  0
  [Vl.mk (2 : Int)
  (IntKind.wrap IntKind.i64
  (U2.b (List.getD l 3 Enc.dflt)))
  0,
  Vl.mk (2 : Int)
  (IntKind.wrap IntKind.i64
  (U2.b (List.getD l 4 Enc.dflt)))
  0]
  0]))
  (0 + i)),
  Ta.cell
  (Td.fr 3 (List.length (wantN l A 5)) 0
  fun i => encL (wantN l A 5) (0 + i))])
  (need
  (sameVs
  (listT Vl
  (Td.fr 3
  (List.length
  (drL
  [Wr.mk (0 : Int) (0 : Int)
  [IntKind.wrap IntKind.i64
  (Int.tmod (U2.a (List.getD l 0 Enc.dflt))
  (8 : Int)),
  IntKind.wrap IntKind.i64
  (Int.tmod (U2.a (List.getD l 1 Enc.dflt))
  (8 : Int)),
  IntKind.wrap IntKind.i64
  (Int.tmod (U2.a (List.getD l 2 Enc.dflt))
  (8 : Int))]
  0
  [Vl.mk (2 : Int)
  (IntKind.wrap IntKind.i64
  (U2.b (List.getD l 0 Enc.dflt)))
  0,
  Vl.mk (2 : Int)
  (IntKind.wrap IntKind.i64
  (U2.b (List.getD l 1 Enc.dflt)))
  0,
  Vl.mk (2 : Int)
  (IntKind.wrap IntKind.i64
  (U2.b (List.getD l 2 Enc.dflt)))
  0]
  0,
  Wr.mk (0 : Int) (0 : Int)
  [IntKind.wrap IntKind.i64
  (Int.tmod (U2.a (List.getD l 3 Enc.dflt))
  (8 : Int)),
  IntKind.wrap IntKind.i64
  (Int.tmod (U2.a (List.getD l 4 Enc.dflt))
  (8 : Int))]
  0
  [Vl.mk (2 : Int)
  (IntKind.wrap IntKind.i64
  (U2.b (List.getD l 3 Enc.dflt)))
  0,
  Vl.mk (2 : Int)
  (IntKind.wrap IntKind.i64
  (U2.b (List.getD l 4 Enc.dflt)))
  0]
  0]
  (listT Vl
  (Td.fr 3 (List.length A) 0 fun i =>
  encL A (0 + i)))
  (List.length
  [Wr.mk (0 : Int) (0 : Int)
  [IntKind.wrap IntKind.i64
  (Int.tmod
  (U2.a (List.getD l 0 Enc.dflt))
  (8 : Int)),
  IntKind.wrap IntKind.i64
  (Int.tmod
  (U2.a (List.getD l 1 Enc.dflt))
  (8 : Int)),
  IntKind.wrap IntKind.i64
  (Int.tmod
  (U2.a (List.getD l 2 Enc.dflt))
  (8 : Int))]
  0
  [Vl.mk (2 : Int)
  (IntKind.wrap IntKind.i64
  (U2.b (List.getD l 0 Enc.dflt)))
  0,
  Vl.mk (2 : Int)
  (IntKind.wrap IntKind.i64
  (U2.b (List.getD l 1 Enc.dflt)))
  0,
  Vl.mk (2 : Int)
  (IntKind.wrap IntKind.i64
  (U2.b (List.getD l 2 Enc.dflt)))
  0]
  0,
  Wr.mk (0 : Int) (0 : Int)
  [IntKind.wrap IntKind.i64
  (Int.tmod
  (U2.a (List.getD l 3 Enc.dflt))
  (8 : Int)),
  IntKind.wrap IntKind.i64
  (Int.tmod
  (U2.a (List.getD l 4 Enc.dflt))
  (8 : Int))]
  0
  [Vl.mk (2 : Int)
  (IntKind.wrap IntKind.i64
  (U2.b (List.getD l 3 Enc.dflt)))
  0,
  Vl.mk (2 : Int)
  (IntKind.wrap IntKind.i64
  (U2.b (List.getD l 4 Enc.dflt)))
  0]
  0])))
  0 fun i =>
  encL
  (drL
  [Wr.mk (0 : Int) (0 : Int)
  [IntKind.wrap IntKind.i64
  (Int.tmod (U2.a (List.getD l 0 Enc.dflt))
  (8 : Int)),
  IntKind.wrap IntKind.i64
  (Int.tmod (U2.a (List.getD l 1 Enc.dflt))
  (8 : Int)),
  IntKind.wrap IntKind.i64
  (Int.tmod (U2.a (List.getD l 2 Enc.dflt))
  (8 : Int))]
  0
  [Vl.mk (2 : Int)
  (IntKind.wrap IntKind.i64
  (U2.b (List.getD l 0 Enc.dflt)))
  0,
  Vl.mk (2 : Int)
  (IntKind.wrap IntKind.i64
  (U2.b (List.getD l 1 Enc.dflt)))
  0,
  Vl.mk (2 : Int)
  (IntKind.wrap IntKind.i64
  (U2.b (List.getD l 2 Enc.dflt)))
  0]
  0,
  Wr.mk (0 : Int) (0 : Int)
  [IntKind.wrap IntKind.i64
  (Int.tmod (U2.a (List.getD l 3 Enc.dflt))
  (8 : Int)),
  IntKind.wrap IntKind.i64
  (Int.tmod (U2.a (List.getD l 4 Enc.dflt))
  (8 : Int))]
  0
  [Vl.mk (2 : Int)
  (IntKind.wrap IntKind.i64
  (U2.b (List.getD l 3 Enc.dflt)))
  0,
  Vl.mk (2 : Int)
  (IntKind.wrap IntKind.i64
  (U2.b (List.getD l 4 Enc.dflt)))
  0]
  0]
  (listT Vl
  (Td.fr 3 (List.length A) 0 fun i =>
  encL A (0 + i)))
  (List.length
  [Wr.mk (0 : Int) (0 : Int)
  [IntKind.wrap IntKind.i64
  (Int.tmod
  (U2.a (List.getD l 0 Enc.dflt))
  (8 : Int)),
  IntKind.wrap IntKind.i64
  (Int.tmod
  (U2.a (List.getD l 1 Enc.dflt))
  (8 : Int)),
  IntKind.wrap IntKind.i64
  (Int.tmod
  (U2.a (List.getD l 2 Enc.dflt))
  (8 : Int))]
  0
  [Vl.mk (2 : Int)
  (IntKind.wrap IntKind.i64
  (U2.b (List.getD l 0 Enc.dflt)))
  0,
  Vl.mk (2 : Int)
  (IntKind.wrap IntKind.i64
  (U2.b (List.getD l 1 Enc.dflt)))
  0,
  Vl.mk (2 : Int)
  (IntKind.wrap IntKind.i64
  (U2.b (List.getD l 2 Enc.dflt)))
  0]
  0,
  Wr.mk (0 : Int) (0 : Int)
  [IntKind.wrap IntKind.i64
  (Int.tmod
  (U2.a (List.getD l 3 Enc.dflt))
  (8 : Int)),
  IntKind.wrap IntKind.i64
  (Int.tmod
  (U2.a (List.getD l 4 Enc.dflt))
  (8 : Int))]
  0
  [Vl.mk (2 : Int)
  (IntKind.wrap IntKind.i64
  (U2.b (List.getD l 3 Enc.dflt)))
  0,
  Vl.mk (2 : Int)
  (IntKind.wrap IntKind.i64
  (U2.b (List.getD l 4 Enc.dflt)))
  0]
  0]))
  (0 + i)))
  (listT Vl
  (Td.fr 3 (List.length (wantN l A 5)) 0
  fun i => encL (wantN l A 5) (0 + i))))
  True)))))) ∧
  (List.length l = 6 →
  need (true && Nat.ble (0 + List.length A) (List.length A))
  (need
  (ok2 Wr Vl (fun l x x_1 x_2 => List.all l (okA Wr))
  [Ta.cell
  (Td.fr 4 2 0
  (selT 4 2
  [Td.sc (Value.int IntKind.i64 (0 : Int)),
  Td.sc (Value.int IntKind.i64 (0 : Int)),
  Td.fr 1 3 0
  (selT 1 3
  [Td.sc
  (Value.int IntKind.i64
  (IntKind.wrap IntKind.i64
  (Int.tmod (U2.a (List.getD l 0 Enc.dflt))
  (8 : Int)))),
  Td.sc
  (Value.int IntKind.i64
  (IntKind.wrap IntKind.i64
  (Int.tmod (U2.a (List.getD l 1 Enc.dflt))
  (8 : Int)))),
  Td.sc
  (Value.int IntKind.i64
  (IntKind.wrap IntKind.i64
  (Int.tmod (U2.a (List.getD l 2 Enc.dflt))
  (8 : Int))))]),
  Td.fr 3 3 0
  (selT 3 3
  [Td.sc (Value.int IntKind.i64 (2 : Int)),
  Td.sc
  (Value.int IntKind.i64
  (IntKind.wrap IntKind.i64
  (U2.b (List.getD l 0 Enc.dflt)))),
  Td.sc (Value.float FloatKind.f64 0),
  Td.sc (Value.int IntKind.i64 (2 : Int)),
  Td.sc
  (Value.int IntKind.i64
  (IntKind.wrap IntKind.i64
  (U2.b (List.getD l 1 Enc.dflt)))),
  Td.sc (Value.float FloatKind.f64 0),
  Td.sc (Value.int IntKind.i64 (2 : Int)),
  Td.sc
  (Value.int IntKind.i64
  (IntKind.wrap IntKind.i64
  (U2.b (List.getD l 2 Enc.dflt)))),
  Td.sc (Value.float FloatKind.f64 0)]),
  Td.sc (Value.int IntKind.i64 (0 : Int)),
  Td.sc (Value.int IntKind.i64 (0 : Int)),
  Td.fr 1 3 0
  (selT 1 3
  [Td.sc
  (Value.int IntKind.i64
  (IntKind.wrap IntKind.i64
  (Int.tmod (U2.a (List.getD l 3 Enc.dflt))
  (8 : Int)))),
  Td.sc
  (Value.int IntKind.i64
  (IntKind.wrap IntKind.i64
  (Int.tmod (U2.a (List.getD l 4 Enc.dflt))
  (8 : Int)))),
  Td.sc
  (Value.int IntKind.i64
  (IntKind.wrap IntKind.i64
  (Int.tmod (U2.a (List.getD l 5 Enc.dflt))
  (8 : Int))))]),
  Td.fr 3 3 0
  (selT 3 3
  [Td.sc (Value.int IntKind.i64 (2 : Int)),
  Td.sc
  (Value.int IntKind.i64
  (IntKind.wrap IntKind.i64
  (U2.b (List.getD l 3 Enc.dflt)))),
  Td.sc (Value.float FloatKind.f64 0),
  Td.sc (Value.int IntKind.i64 (2 : Int)),
  Td.sc
  (Value.int IntKind.i64
  (IntKind.wrap IntKind.i64
  (U2.b (List.getD l 4 Enc.dflt)))),
  Td.sc (Value.float FloatKind.f64 0),
  Td.sc (Value.int IntKind.i64 (2 : Int)),
  Td.sc
  (Value.int IntKind.i64
  (IntKind.wrap IntKind.i64
  (U2.b (List.getD l 5 Enc.dflt)))),
  Td.sc (Value.float FloatKind.f64 0)])])),
  Ta.cell
  (Td.fr 3 (List.length A) 0 fun i =>
  encL A (0 + i))])
  (need
  (true &&
  Nat.ble
  (0 +
  List.length
  (drL
  [Wr.mk (0 : Int) (0 : Int)
  [IntKind.wrap IntKind.i64
  (Int.tmod (U2.a (List.getD l 0 Enc.dflt))
  (8 : Int)),
  IntKind.wrap IntKind.i64
  (Int.tmod (U2.a (List.getD l 1 Enc.dflt))
  (8 : Int)),
  IntKind.wrap IntKind.i64
  (Int.tmod (U2.a (List.getD l 2 Enc.dflt))
  (8 : Int))]
  0
  [Vl.mk (2 : Int)
  (IntKind.wrap IntKind.i64
  (U2.b (List.getD l 0 Enc.dflt)))
  0,
  Vl.mk (2 : Int)
  (IntKind.wrap IntKind.i64
  (U2.b (List.getD l 1 Enc.dflt)))
  0,
  Vl.mk (2 : Int)
  (IntKind.wrap IntKind.i64
  (U2.b (List.getD l 2 Enc.dflt)))
  0]
  0,
  Wr.mk (0 : Int) (0 : Int)
  [IntKind.wrap IntKind.i64
  (Int.tmod (U2.a (List.getD l 3 Enc.dflt))
  (8 : Int)),
  IntKind.wrap IntKind.i64
  (Int.tmod (U2.a (List.getD l 4 Enc.dflt))
  (8 : Int)),
  IntKind.wrap IntKind.i64
  (Int.tmod (U2.a (List.getD l 5 Enc.dflt))
  (8 : Int))]
  0
  [Vl.mk (2 : Int)
  (IntKind.wrap IntKind.i64
  (U2.b (List.getD l 3 Enc.dflt)))
  0,
  Vl.mk (2 : Int)
  (IntKind.wrap IntKind.i64
  (U2.b (List.getD l 4 Enc.dflt)))
  0,
  Vl.mk (2 : Int)
  (IntKind.wrap IntKind.i64
  (U2.b (List.getD l 5 Enc.dflt)))
  0]
  0]
  (listT Vl
  (Td.fr 3 (List.length A) 0 fun i =>
  encL A (0 + i)))
  (List.length
  [Wr.mk (0 : Int) (0 : Int)
  [IntKind.wrap IntKind.i64
  (Int.tmod (U2.a (List.getD l 0 Enc.dflt))
  (8 : Int)),
  IntKind.wrap IntKind.i64
  (Int.tmod (U2.a (List.getD l 1 Enc.dflt))
  (8 : Int)),
  IntKind.wrap IntKind.i64
  (Int.tmod (U2.a (List.getD l 2 Enc.dflt))
  (8 : Int))]
  0
  [Vl.mk (2 : Int)
  (IntKind.wrap IntKind.i64
  (U2.b (List.getD l 0 Enc.dflt)))
  0,
  Vl.mk (2 : Int)
  (IntKind.wrap IntKind.i64
  (U2.b (List.getD l 1 Enc.dflt)))
  0,
  Vl.mk (2 : Int)
  (IntKind.wrap IntKind.i64
  (U2.b (List.getD l 2 Enc.dflt)))
  0]
  0,
  Wr.mk (0 : Int) (0 : Int)
  [IntKind.wrap IntKind.i64
  (Int.tmod (U2.a (List.getD l 3 Enc.dflt))
  (8 : Int)),
  IntKind.wrap IntKind.i64
  (Int.tmod (U2.a (List.getD l 4 Enc.dflt))
  (8 : Int)),
  IntKind.wrap IntKind.i64
  (Int.tmod (U2.a (List.getD l 5 Enc.dflt))
  (8 : Int))]
  0
  [Vl.mk (2 : Int)
  (IntKind.wrap IntKind.i64
  (U2.b (List.getD l 3 Enc.dflt)))
  0,
  Vl.mk (2 : Int)
  (IntKind.wrap IntKind.i64
  (U2.b (List.getD l 4 Enc.dflt)))
  0,
  Vl.mk (2 : Int)
  (IntKind.wrap IntKind.i64
  (U2.b (List.getD l 5 Enc.dflt)))
  0]
  0])))
  (List.length
  (drL
  [Wr.mk (0 : Int) (0 : Int)
  [IntKind.wrap IntKind.i64
  (Int.tmod (U2.a (List.getD l 0 Enc.dflt))
  (8 : Int)),
  IntKind.wrap IntKind.i64
  (Int.tmod (U2.a (List.getD l 1 Enc.dflt))
  (8 : Int)),
  IntKind.wrap IntKind.i64
  (Int.tmod (U2.a (List.getD l 2 Enc.dflt))
  (8 : Int))]
  0
  [Vl.mk (2 : Int)
  (IntKind.wrap IntKind.i64
  (U2.b (List.getD l 0 Enc.dflt)))
  0,
  Vl.mk (2 : Int)
  (IntKind.wrap IntKind.i64
  (U2.b (List.getD l 1 Enc.dflt)))
  0,
  Vl.mk (2 : Int)
  (IntKind.wrap IntKind.i64
  (U2.b (List.getD l 2 Enc.dflt)))
  0]
  0,
  Wr.mk (0 : Int) (0 : Int)
  [IntKind.wrap IntKind.i64
  (Int.tmod (U2.a (List.getD l 3 Enc.dflt))
  (8 : Int)),
  IntKind.wrap IntKind.i64
  (Int.tmod (U2.a (List.getD l 4 Enc.dflt))
  (8 : Int)),
  IntKind.wrap IntKind.i64
  (Int.tmod (U2.a (List.getD l 5 Enc.dflt))
  (8 : Int))]
  0
  [Vl.mk (2 : Int)
  (IntKind.wrap IntKind.i64
  (U2.b (List.getD l 3 Enc.dflt)))
  0,
  Vl.mk (2 : Int)
  (IntKind.wrap IntKind.i64
  (U2.b (List.getD l 4 Enc.dflt)))
  0,
  Vl.mk (2 : Int)
  (IntKind.wrap IntKind.i64
  (U2.b (List.getD l 5 Enc.dflt)))
  0]
  0]
  (listT Vl
  (Td.fr 3 (List.length A) 0 fun i =>
  encL A (0 + i)))
  (List.length
  [Wr.mk (0 : Int) (0 : Int)
  [IntKind.wrap IntKind.i64
  (Int.tmod (U2.a (List.getD l 0 Enc.dflt))
  (8 : Int)),
  IntKind.wrap IntKind.i64
  (Int.tmod (U2.a (List.getD l 1 Enc.dflt))
  (8 : Int)),
  IntKind.wrap IntKind.i64
  (Int.tmod (U2.a (List.getD l 2 Enc.dflt))
  (8 : Int))]
  0
  [Vl.mk (2 : Int)
  (IntKind.wrap IntKind.i64
  (U2.b (List.getD l 0 Enc.dflt)))
  0,
  Vl.mk (2 : Int)
  (IntKind.wrap IntKind.i64
  (U2.b (List.getD l 1 Enc.dflt)))
  0,
  Vl.mk (2 : Int)
  (IntKind.wrap IntKind.i64
  (U2.b (List.getD l 2 Enc.dflt)))
  0]
  0,
  Wr.mk (0 : Int) (0 : Int)
  [IntKind.wrap IntKind.i64
  (Int.tmod (U2.a (List.getD l 3 Enc.dflt))
  (8 : Int)),
  IntKind.wrap IntKind.i64
  (Int.tmod (U2.a (List.getD l 4 Enc.dflt))
  (8 : Int)),
  IntKind.wrap IntKind.i64
  (Int.tmod (U2.a (List.getD l 5 Enc.dflt))
  (8 : Int))]
  0
  [Vl.mk (2 : Int)
  (IntKind.wrap IntKind.i64
  (U2.b (List.getD l 3 Enc.dflt)))
  0,
  Vl.mk (2 : Int)
  (IntKind.wrap IntKind.i64
  (U2.b (List.getD l 4 Enc.dflt)))
  0,
  Vl.mk (2 : Int)
  (IntKind.wrap IntKind.i64
  (U2.b (List.getD l 5 Enc.dflt)))
  0]
  0]))))
  (need
  (true &&
  Nat.ble (0 + List.length (wantN l A 6))
  (List.length (wantN l A 6)))
  (need
  (ok2 Vl Vl (fun x x_1 x_2 x_3 => true)
  [Ta.cell
  (Td.fr 3
  (List.length
  (drL
  [Wr.mk (0 : Int) (0 : Int)
  [IntKind.wrap IntKind.i64
  (Int.tmod
  (U2.a (List.getD l 0 Enc.dflt))
  (8 : Int)),
  IntKind.wrap IntKind.i64
  (Int.tmod
  (U2.a (List.getD l 1 Enc.dflt))
  (8 : Int)),
  IntKind.wrap IntKind.i64
  (Int.tmod
  (U2.a (List.getD l 2 Enc.dflt))
  (8 : Int))]
  0
  [Vl.mk (2 : Int)
  (IntKind.wrap IntKind.i64
  (U2.b (List.getD l 0 Enc.dflt)))
  0,
  Vl.mk (2 : Int)
  (IntKind.wrap IntKind.i64
  (U2.b (List.getD l 1 Enc.dflt)))
  0,
  Vl.mk (2 : Int)
  (IntKind.wrap IntKind.i64
  (U2.b (List.getD l 2 Enc.dflt)))
  0]
  0,
  Wr.mk (0 : Int) (0 : Int)
  [IntKind.wrap IntKind.i64
  (Int.tmod
  (U2.a (List.getD l 3 Enc.dflt))
  (8 : Int)),
  IntKind.wrap IntKind.i64
  (Int.tmod
  (U2.a (List.getD l 4 Enc.dflt))
  (8 : Int)),
  IntKind.wrap IntKind.i64
  (Int.tmod
  (U2.a (List.getD l 5 Enc.dflt))
  (8 : Int))]
  0
  [Vl.mk (2 : Int)
  (IntKind.wrap IntKind.i64
  (U2.b (List.getD l 3 Enc.dflt)))
  0,
  Vl.mk (2 : Int)
  (IntKind.wrap IntKind.i64
  (U2.b (List.getD l 4 Enc.dflt)))
  0,
  Vl.mk (2 : Int)
  (IntKind.wrap IntKind.i64
  (U2.b (List.getD l 5 Enc.dflt)))
  0]
  0]
  (listT Vl
  (Td.fr 3 (List.length A) 0 fun i =>
  encL A (0 + i)))
  (List.length
  [Wr.mk (0 : Int) (0 : Int)
  [IntKind.wrap IntKind.i64
  (Int.tmod
  (U2.a (List.getD l 0 Enc.dflt))
  (8 : Int)),
  IntKind.wrap IntKind.i64
  (Int.tmod
  (U2.a (List.getD l 1 Enc.dflt))
  (8 : Int)),
  IntKind.wrap IntKind.i64
  (Int.tmod
  (U2.a (List.getD l 2 Enc.dflt))
  (8 : Int))]
  0
  [Vl.mk (2 : Int)
  (IntKind.wrap IntKind.i64
  (U2.b (List.getD l 0 Enc.dflt)))
  0,
  Vl.mk (2 : Int)
  (IntKind.wrap IntKind.i64
  (U2.b (List.getD l 1 Enc.dflt)))
  0,
  Vl.mk (2 : Int)
  (IntKind.wrap IntKind.i64
  (U2.b (List.getD l 2 Enc.dflt)))
  0]
  0,
  Wr.mk (0 : Int) (0 : Int)
  [IntKind.wrap IntKind.i64
  (Int.tmod
  (U2.a (List.getD l 3 Enc.dflt))
  (8 : Int)),
  IntKind.wrap IntKind.i64
  (Int.tmod
  (U2.a (List.getD l 4 Enc.dflt))
  (8 : Int)),
  IntKind.wrap IntKind.i64
  (Int.tmod
  (U2.a (List.getD l 5 Enc.dflt))
  (8 : Int))]
  0
  [Vl.mk (2 : Int)
  (IntKind.wrap IntKind.i64
  (U2.b (List.getD l 3 Enc.dflt)))
  0,
  Vl.mk (2 : Int)
  (IntKind.wrap IntKind.i64
  (U2.b (List.getD l 4 Enc.dflt)))
  0,
  Vl.mk (2 : Int)
  (IntKind.wrap IntKind.i64
  (U2.b (List.getD l 5 Enc.dflt)))
  0]
  0])))
  0 fun i =>
  encL
  (drL
  [Wr.mk (0 : Int) (0 : Int)
  [IntKind.wrap IntKind.i64
  (Int.tmod
  (U2.a (List.getD l 0 Enc.dflt))
  (8 : Int)),
  IntKind.wrap IntKind.i64
  (Int.tmod
  (U2.a (List.getD l 1 Enc.dflt))
  (8 : Int)),
  IntKind.wrap IntKind.i64
  (Int.tmod
  (U2.a (List.getD l 2 Enc.dflt))
  (8 : Int))]
  0
  [Vl.mk (2 : Int)
  (IntKind.wrap IntKind.i64
  (U2.b (List.getD l 0 Enc.dflt)))
  0,
  Vl.mk (2 : Int)
  (IntKind.wrap IntKind.i64
  (U2.b (List.getD l 1 Enc.dflt)))
  0,
  Vl.mk (2 : Int)
  (IntKind.wrap IntKind.i64
  (U2.b (List.getD l 2 Enc.dflt)))
  0]
  0,
  Wr.mk (0 : Int) (0 : Int)
  [IntKind.wrap IntKind.i64
  (Int.tmod
  (U2.a (List.getD l 3 Enc.dflt))
  (8 : Int)),
  IntKind.wrap IntKind.i64
  (Int.tmod
  (U2.a (List.getD l 4 Enc.dflt))
  (8 : Int)),
  IntKind.wrap IntKind.i64
  (Int.tmod
  (U2.a (List.getD l 5 Enc.dflt))
  (8 : Int))]
  0
  [Vl.mk (2 : Int)
  (IntKind.wrap IntKind.i64
  (U2.b (List.getD l 3 Enc.dflt)))
  0,
  Vl.mk (2 : Int)
  (IntKind.wrap IntKind.i64
  (U2.b (List.getD l 4 Enc.dflt)))
  0,
  Vl.mk (2 : Int)
  (IntKind.wrap IntKind.i64
  (U2.b (List.getD l 5 Enc.dflt)))
  0]
  0]
  (listT Vl
  (Td.fr 3 (List.length A) 0 fun i =>
  encL A (0 + i)))
  (List.length
  [Wr.mk (0 : Int) (0 : Int)
  [IntKind.wrap IntKind.i64
  (Int.tmod
  (U2.a (List.getD l 0 Enc.dflt))
  (8 : Int)),
  IntKind.wrap IntKind.i64
  (Int.tmod
  (U2.a (List.getD l 1 Enc.dflt))
  (8 : Int)),
  IntKind.wrap IntKind.i64
  (Int.tmod
  (U2.a (List.getD l 2 Enc.dflt))
  (8 : Int))]
  0
  [Vl.mk (2 : Int)
  (IntKind.wrap IntKind.i64
  (U2.b (List.getD l 0 Enc.dflt)))
  0,
  Vl.mk (2 : Int)
  (IntKind.wrap IntKind.i64
  (U2.b (List.getD l 1 Enc.dflt)))
  0,
  Vl.mk (2 : Int)
  (IntKind.wrap IntKind.i64
  (U2.b (List.getD l 2 Enc.dflt)))
  0]
  0,
  Wr.mk (0 : Int) (0 : Int)
  [IntKind.wrap IntKind.i64
  (Int.tmod
  (U2.a (List.getD l 3 Enc.dflt))
  (8 : Int)),
  IntKind.wrap IntKind.i64
  (Int.tmod
  (U2.a (List.getD l 4 Enc.dflt))
  (8 : Int)),
  IntKind.wrap IntKind.i64
  (Int.tmod
  (U2.a (List.getD l 5 Enc.dflt))
  (8 : Int))]
  0
  [Vl.mk (2 : Int)
  (IntKind.wrap IntKind.i64
  (U2.b (List.getD l 3 Enc.dflt)))
  0,
  Vl.mk (2 : Int)
  (IntKind.wrap IntKind.i64
  (U2.b (List.getD l 4 Enc.dflt)))
  0,
  Vl.mk (2 : Int)
  (IntKind.wrap IntKind.i64
  (U2.b (List.getD l 5 Enc.dflt)))
  0]
  0]))
  (0 + i)),
  Ta.cell
  (Td.fr 3 (List.length (wantN l A 6)) 0
  fun i => encL (wantN l A 6) (0 + i))])
  (need
  (sameVs
  (listT Vl
  (Td.fr 3
  (List.length
  (drL
  [Wr.mk (0 : Int) (0 : Int)
  [IntKind.wrap IntKind.i64
  (Int.tmod
  (U2.a (List.getD l 0 Enc.dflt))
  (8 : Int)),
  IntKind.wrap IntKind.i64
  (Int.tmod
  (U2.a (List.getD l 1 Enc.dflt))
  (8 : Int)),
  IntKind.wrap IntKind.i64
  (Int.tmod
  (U2.a (List.getD l 2 Enc.dflt))
  (8 : Int))]
  0
  [Vl.mk (2 : Int)
  (IntKind.wrap IntKind.i64
  (U2.b (List.getD l 0 Enc.dflt)))
  0,
  Vl.mk (2 : Int)
  (IntKind.wrap IntKind.i64
  (U2.b (List.getD l 1 Enc.dflt)))
  0,
  Vl.mk (2 : Int)
  (IntKind.wrap IntKind.i64
  (U2.b (List.getD l 2 Enc.dflt)))
  0]
  0,
  Wr.mk (0 : Int) (0 : Int)
  [IntKind.wrap IntKind.i64
  (Int.tmod
  (U2.a (List.getD l 3 Enc.dflt))
  (8 : Int)),
  IntKind.wrap IntKind.i64
  (Int.tmod
  (U2.a (List.getD l 4 Enc.dflt))
  (8 : Int)),
  IntKind.wrap IntKind.i64
  (Int.tmod
  (U2.a (List.getD l 5 Enc.dflt))
  (8 : Int))]
  0
  [Vl.mk (2 : Int)
  (IntKind.wrap IntKind.i64
  (U2.b (List.getD l 3 Enc.dflt)))
  0,
  Vl.mk (2 : Int)
  (IntKind.wrap IntKind.i64
  (U2.b (List.getD l 4 Enc.dflt)))
  0,
  Vl.mk (2 : Int)
  (IntKind.wrap IntKind.i64
  (U2.b (List.getD l 5 Enc.dflt)))
  0]
  0]
  (listT Vl
  (Td.fr 3 (List.length A) 0 fun i =>
  encL A (0 + i)))
  (List.length
  [Wr.mk (0 : Int) (0 : Int)
  [IntKind.wrap IntKind.i64
  (Int.tmod
  (U2.a (List.getD l 0 Enc.dflt))
  (8 : Int)),
  IntKind.wrap IntKind.i64
  (Int.tmod
  (U2.a (List.getD l 1 Enc.dflt))
  (8 : Int)),
  IntKind.wrap IntKind.i64
  (Int.tmod
  (U2.a (List.getD l 2 Enc.dflt))
  (8 : Int))]
  0
  [Vl.mk (2 : Int)
  (IntKind.wrap IntKind.i64
  (U2.b (List.getD l 0 Enc.dflt)))
  0,
  Vl.mk (2 : Int)
  (IntKind.wrap IntKind.i64
  (U2.b (List.getD l 1 Enc.dflt)))
  0,
  Vl.mk (2 : Int)
  (IntKind.wrap IntKind.i64
  (U2.b (List.getD l 2 Enc.dflt)))
  0]
  0,
  Wr.mk (0 : Int) (0 : Int)
  [IntKind.wrap IntKind.i64
  (Int.tmod
  (U2.a (List.getD l 3 Enc.dflt))
  (8 : Int)),
  IntKind.wrap IntKind.i64
  (Int.tmod
  (U2.a (List.getD l 4 Enc.dflt))
  (8 : Int)),
  IntKind.wrap IntKind.i64
  (Int.tmod
  (U2.a (List.getD l 5 Enc.dflt))
  (8 : Int))]
  0
  [Vl.mk (2 : Int)
  (IntKind.wrap IntKind.i64
  (U2.b (List.getD l 3 Enc.dflt)))
  0,
  Vl.mk (2 : Int)
  (IntKind.wrap IntKind.i64
  (U2.b (List.getD l 4 Enc.dflt)))
  0,
  Vl.mk (2 : Int)
  (IntKind.wrap IntKind.i64
  (U2.b (List.getD l 5 Enc.dflt)))
  0]
  0])))
  0 fun i =>
  encL
  (drL
  [Wr.mk (0 : Int) (0 : Int)
  [IntKind.wrap IntKind.i64
  (Int.tmod
  (U2.a (List.getD l 0 Enc.dflt))
  (8 : Int)),
  IntKind.wrap IntKind.i64
  (Int.tmod
  (U2.a (List.getD l 1 Enc.dflt))
  (8 : Int)),
  IntKind.wrap IntKind.i64
  (Int.tmod
  (U2.a (List.getD l 2 Enc.dflt))
  (8 : Int))]
  0
  [Vl.mk (2 : Int)
  (IntKind.wrap IntKind.i64
  (U2.b (List.getD l 0 Enc.dflt)))
  0,
  Vl.mk (2 : Int)
  (IntKind.wrap IntKind.i64
  (U2.b (List.getD l 1 Enc.dflt)))
  0,
  Vl.mk (2 : Int)
  (IntKind.wrap IntKind.i64
  (U2.b (List.getD l 2 Enc.dflt)))
  0]
  0,
  Wr.mk (0 : Int) (0 : Int)
  [IntKind.wrap IntKind.i64
  (Int.tmod
  (U2.a (List.getD l 3 Enc.dflt))
  (8 : Int)),
  IntKind.wrap IntKind.i64
  (Int.tmod
  (U2.a (List.getD l 4 Enc.dflt))
  (8 : Int)),
  IntKind.wrap IntKind.i64
  (Int.tmod
  (U2.a (List.getD l 5 Enc.dflt))
  (8 : Int))]
  0
  [Vl.mk (2 : Int)
  (IntKind.wrap IntKind.i64
  (U2.b (List.getD l 3 Enc.dflt)))
  0,
  Vl.mk (2 : Int)
  (IntKind.wrap IntKind.i64
  (U2.b (List.getD l 4 Enc.dflt)))
  0,
  Vl.mk (2 : Int)
  (IntKind.wrap IntKind.i64
  (U2.b (List.getD l 5 Enc.dflt)))
  0]
  0]
  (listT Vl
  (Td.fr 3 (List.length A) 0 fun i =>
  encL A (0 + i)))
  (List.length
  [Wr.mk (0 : Int) (0 : Int)
  [IntKind.wrap IntKind.i64
  (Int.tmod
  (U2.a (List.getD l 0 Enc.dflt))
  (8 : Int)),
  IntKind.wrap IntKind.i64
  (Int.tmod
  (U2.a (List.getD l 1 Enc.dflt))
  (8 : Int)),
  IntKind.wrap IntKind.i64
  (Int.tmod
  (U2.a (List.getD l 2 Enc.dflt))
  (8 : Int))]
  0
  [Vl.mk (2 : Int)
  (IntKind.wrap IntKind.i64
  (U2.b (List.getD l 0 Enc.dflt)))
  0,
  Vl.mk (2 : Int)
  (IntKind.wrap IntKind.i64
  (U2.b (List.getD l 1 Enc.dflt)))
  0,
  Vl.mk (2 : Int)
  (IntKind.wrap IntKind.i64
  (U2.b (List.getD l 2 Enc.dflt)))
  0]
  0,
  Wr.mk (0 : Int) (0 : Int)
  [IntKind.wrap IntKind.i64
  (Int.tmod
  (U2.a (List.getD l 3 Enc.dflt))
  (8 : Int)),
  IntKind.wrap IntKind.i64
  (Int.tmod
  (U2.a (List.getD l 4 Enc.dflt))
  (8 : Int)),
  IntKind.wrap IntKind.i64
  (Int.tmod
  (U2.a (List.getD l 5 Enc.dflt))
  (8 : Int))]
  0
  [Vl.mk (2 : Int)
  (IntKind.wrap IntKind.i64
  (U2.b (List.getD l 3 Enc.dflt)))
  0,
  Vl.mk (2 : Int)
  (IntKind.wrap IntKind.i64
  (U2.b (List.getD l 4 Enc.dflt)))
  0,
  Vl.mk (2 : Int)
  (IntKind.wrap IntKind.i64
  (U2.b (List.getD l 5 Enc.dflt)))
  0]
  0]))
  (0 + i)))
  (listT Vl
  (Td.fr 3 (List.length (wantN l A 6)) 0
  fun i => encL (wantN l A 6) (0 + i))))
  True)))))) ∧
  (List.length l = 7 →
  need (true && Nat.ble (0 + List.length A) (List.length A))
  (need
  (ok2 Wr Vl (fun l x x_1 x_2 => List.all l (okA Wr))
  [Ta.cell
  (Td.fr 4 3 0
  (selT 4 3
  [Td.sc (Value.int IntKind.i64 (0 : Int)),
  Td.sc (Value.int IntKind.i64 (0 : Int)),
  Td.fr 1 3 0
  (selT 1 3
  [Td.sc
  (Value.int IntKind.i64
  (IntKind.wrap IntKind.i64
  (Int.tmod
  (U2.a (List.getD l 0 Enc.dflt))
  (8 : Int)))),
  Td.sc
  (Value.int IntKind.i64
  (IntKind.wrap IntKind.i64
  (Int.tmod
  (U2.a (List.getD l 1 Enc.dflt))
  (8 : Int)))),
  Td.sc
  (Value.int IntKind.i64
  (IntKind.wrap IntKind.i64
  (Int.tmod
  (U2.a (List.getD l 2 Enc.dflt))
  (8 : Int))))]),
  Td.fr 3 3 0
  (selT 3 3
  [Td.sc (Value.int IntKind.i64 (2 : Int)),
  Td.sc
  (Value.int IntKind.i64
  (IntKind.wrap IntKind.i64
  (U2.b (List.getD l 0 Enc.dflt)))),
  Td.sc (Value.float FloatKind.f64 0),
  Td.sc (Value.int IntKind.i64 (2 : Int)),
  Td.sc
  (Value.int IntKind.i64
  (IntKind.wrap IntKind.i64
  (U2.b (List.getD l 1 Enc.dflt)))),
  Td.sc (Value.float FloatKind.f64 0),
  Td.sc (Value.int IntKind.i64 (2 : Int)),
  Td.sc
  (Value.int IntKind.i64
  (IntKind.wrap IntKind.i64
  (U2.b (List.getD l 2 Enc.dflt)))),
  Td.sc (Value.float FloatKind.f64 0)]),
  Td.sc (Value.int IntKind.i64 (0 : Int)),
  Td.sc (Value.int IntKind.i64 (0 : Int)),
  Td.fr 1 3 0
  (selT 1 3
  [Td.sc
  (Value.int IntKind.i64
  (IntKind.wrap IntKind.i64
  (Int.tmod
  (U2.a (List.getD l 3 Enc.dflt))
  (8 : Int)))),
  Td.sc
  (Value.int IntKind.i64
  (IntKind.wrap IntKind.i64
  (Int.tmod
  (U2.a (List.getD l 4 Enc.dflt))
  (8 : Int)))),
  Td.sc
  (Value.int IntKind.i64
  (IntKind.wrap IntKind.i64
  (Int.tmod
  (U2.a (List.getD l 5 Enc.dflt))
  (8 : Int))))]),
  Td.fr 3 3 0
  (selT 3 3
  [Td.sc (Value.int IntKind.i64 (2 : Int)),
  Td.sc
  (Value.int IntKind.i64
  (IntKind.wrap IntKind.i64
  (U2.b (List.getD l 3 Enc.dflt)))),
  Td.sc (Value.float FloatKind.f64 0),
  Td.sc (Value.int IntKind.i64 (2 : Int)),
  Td.sc
  (Value.int IntKind.i64
  (IntKind.wrap IntKind.i64
  (U2.b (List.getD l 4 Enc.dflt)))),
  Td.sc (Value.float FloatKind.f64 0),
  Td.sc (Value.int IntKind.i64 (2 : Int)),
  Td.sc
  (Value.int IntKind.i64
  (IntKind.wrap IntKind.i64
  (U2.b (List.getD l 5 Enc.dflt)))),
  Td.sc (Value.float FloatKind.f64 0)]),
  Td.sc (Value.int IntKind.i64 (0 : Int)),
  Td.sc (Value.int IntKind.i64 (0 : Int)),
  Td.fr 1 1 0
  (selT 1 1
  [Td.sc
  (Value.int IntKind.i64
  (IntKind.wrap IntKind.i64
  (Int.tmod
  (U2.a (List.getD l 6 Enc.dflt))
  (8 : Int))))]),
  Td.fr 3 1 0
  (selT 3 1
  [Td.sc (Value.int IntKind.i64 (2 : Int)),
  Td.sc
  (Value.int IntKind.i64
  (IntKind.wrap IntKind.i64
  (U2.b (List.getD l 6 Enc.dflt)))),
  Td.sc (Value.float FloatKind.f64 0)])])),
  Ta.cell
  (Td.fr 3 (List.length A) 0 fun i =>
  encL A (0 + i))])
  (need
  (true &&
  Nat.ble
  (0 +
  List.length
  (drL
  [Wr.mk (0 : Int) (0 : Int)
  [IntKind.wrap IntKind.i64
  (Int.tmod (U2.a (List.getD l 0 Enc.dflt))
  (8 : Int)),
  IntKind.wrap IntKind.i64
  (Int.tmod (U2.a (List.getD l 1 Enc.dflt))
  (8 : Int)),
  IntKind.wrap IntKind.i64
  (Int.tmod (U2.a (List.getD l 2 Enc.dflt))
  (8 : Int))]
  0
  [Vl.mk (2 : Int)
  (IntKind.wrap IntKind.i64
  (U2.b (List.getD l 0 Enc.dflt)))
  0,
  Vl.mk (2 : Int)
  (IntKind.wrap IntKind.i64
  (U2.b (List.getD l 1 Enc.dflt)))
  0,
  Vl.mk (2 : Int)
  (IntKind.wrap IntKind.i64
  (U2.b (List.getD l 2 Enc.dflt)))
  0]
  0,
  Wr.mk (0 : Int) (0 : Int)
  [IntKind.wrap IntKind.i64
  (Int.tmod (U2.a (List.getD l 3 Enc.dflt))
  (8 : Int)),
  IntKind.wrap IntKind.i64
  (Int.tmod (U2.a (List.getD l 4 Enc.dflt))
  (8 : Int)),
  IntKind.wrap IntKind.i64
  (Int.tmod (U2.a (List.getD l 5 Enc.dflt))
  (8 : Int))]
  0
  [Vl.mk (2 : Int)
  (IntKind.wrap IntKind.i64
  (U2.b (List.getD l 3 Enc.dflt)))
  0,
  Vl.mk (2 : Int)
  (IntKind.wrap IntKind.i64
  (U2.b (List.getD l 4 Enc.dflt)))
  0,
  Vl.mk (2 : Int)
  (IntKind.wrap IntKind.i64
  (U2.b (List.getD l 5 Enc.dflt)))
  0]
  0,
  Wr.mk (0 : Int) (0 : Int)
  [IntKind.wrap IntKind.i64
  (Int.tmod (U2.a (List.getD l 6 Enc.dflt))
  (8 : Int))]
  0
  [Vl.mk (2 : Int)
  (IntKind.wrap IntKind.i64
  (U2.b (List.getD l 6 Enc.dflt)))
  0]
  0]
  (listT Vl
  (Td.fr 3 (List.length A) 0 fun i =>
  encL A (0 + i)))
  (List.length
  [Wr.mk (0 : Int) (0 : Int)
  [IntKind.wrap IntKind.i64
  (Int.tmod (U2.a (List.getD l 0 Enc.dflt))
  (8 : Int)),
  IntKind.wrap IntKind.i64
  (Int.tmod (U2.a (List.getD l 1 Enc.dflt))
  (8 : Int)),
  IntKind.wrap IntKind.i64
  (Int.tmod (U2.a (List.getD l 2 Enc.dflt))
  (8 : Int))]
  0
  [Vl.mk (2 : Int)
  (IntKind.wrap IntKind.i64
  (U2.b (List.getD l 0 Enc.dflt)))
  0,
  Vl.mk (2 : Int)
  (IntKind.wrap IntKind.i64
  (U2.b (List.getD l 1 Enc.dflt)))
  0,
  Vl.mk (2 : Int)
  (IntKind.wrap IntKind.i64
  (U2.b (List.getD l 2 Enc.dflt)))
  0]
  0,
  Wr.mk (0 : Int) (0 : Int)
  [IntKind.wrap IntKind.i64
  (Int.tmod (U2.a (List.getD l 3 Enc.dflt))
  (8 : Int)),
  IntKind.wrap IntKind.i64
  (Int.tmod (U2.a (List.getD l 4 Enc.dflt))
  (8 : Int)),
  IntKind.wrap IntKind.i64
  (Int.tmod (U2.a (List.getD l 5 Enc.dflt))
  (8 : Int))]
  0
  [Vl.mk (2 : Int)
  (IntKind.wrap IntKind.i64
  (U2.b (List.getD l 3 Enc.dflt)))
  0,
  Vl.mk (2 : Int)
  (IntKind.wrap IntKind.i64
  (U2.b (List.getD l 4 Enc.dflt)))
  0,
  Vl.mk (2 : Int)
  (IntKind.wrap IntKind.i64
  (U2.b (List.getD l 5 Enc.dflt)))
  0]
  0,
  Wr.mk (0 : Int) (0 : Int)
  [IntKind.wrap IntKind.i64
  (Int.tmod (U2.a (List.getD l 6 Enc.dflt))
  (8 : Int))]
  0
  [Vl.mk (2 : Int)
  (IntKind.wrap IntKind.i64
  (U2.b (List.getD l 6 Enc.dflt)))
  0]
  0])))
  (List.length
  (drL
  [Wr.mk (0 : Int) (0 : Int)
  [IntKind.wrap IntKind.i64
  (Int.tmod (U2.a (List.getD l 0 Enc.dflt))
  (8 : Int)),
  IntKind.wrap IntKind.i64
  (Int.tmod (U2.a (List.getD l 1 Enc.dflt))
  (8 : Int)),
  IntKind.wrap IntKind.i64
  (Int.tmod (U2.a (List.getD l 2 Enc.dflt))
  (8 : Int))]
  0
  [Vl.mk (2 : Int)
  (IntKind.wrap IntKind.i64
  (U2.b (List.getD l 0 Enc.dflt)))
  0,
  Vl.mk (2 : Int)
  (IntKind.wrap IntKind.i64
  (U2.b (List.getD l 1 Enc.dflt)))
  0,
  Vl.mk (2 : Int)
  (IntKind.wrap IntKind.i64
  (U2.b (List.getD l 2 Enc.dflt)))
  0]
  0,
  Wr.mk (0 : Int) (0 : Int)
  [IntKind.wrap IntKind.i64
  (Int.tmod (U2.a (List.getD l 3 Enc.dflt))
  (8 : Int)),
  IntKind.wrap IntKind.i64
  (Int.tmod (U2.a (List.getD l 4 Enc.dflt))
  (8 : Int)),
  IntKind.wrap IntKind.i64
  (Int.tmod (U2.a (List.getD l 5 Enc.dflt))
  (8 : Int))]
  0
  [Vl.mk (2 : Int)
  (IntKind.wrap IntKind.i64
  (U2.b (List.getD l 3 Enc.dflt)))
  0,
  Vl.mk (2 : Int)
  (IntKind.wrap IntKind.i64
  (U2.b (List.getD l 4 Enc.dflt)))
  0,
  Vl.mk (2 : Int)
  (IntKind.wrap IntKind.i64
  (U2.b (List.getD l 5 Enc.dflt)))
  0]
  0,
  Wr.mk (0 : Int) (0 : Int)
  [IntKind.wrap IntKind.i64
  (Int.tmod (U2.a (List.getD l 6 Enc.dflt))
  (8 : Int))]
  0
  [Vl.mk (2 : Int)
  (IntKind.wrap IntKind.i64
  (U2.b (List.getD l 6 Enc.dflt)))
  0]
  0]
  (listT Vl
  (Td.fr 3 (List.length A) 0 fun i =>
  encL A (0 + i)))
  (List.length
  [Wr.mk (0 : Int) (0 : Int)
  [IntKind.wrap IntKind.i64
  (Int.tmod (U2.a (List.getD l 0 Enc.dflt))
  (8 : Int)),
  IntKind.wrap IntKind.i64
  (Int.tmod (U2.a (List.getD l 1 Enc.dflt))
  (8 : Int)),
  IntKind.wrap IntKind.i64
  (Int.tmod (U2.a (List.getD l 2 Enc.dflt))
  (8 : Int))]
  0
  [Vl.mk (2 : Int)
  (IntKind.wrap IntKind.i64
  (U2.b (List.getD l 0 Enc.dflt)))
  0,
  Vl.mk (2 : Int)
  (IntKind.wrap IntKind.i64
  (U2.b (List.getD l 1 Enc.dflt)))
  0,
  Vl.mk (2 : Int)
  (IntKind.wrap IntKind.i64
  (U2.b (List.getD l 2 Enc.dflt)))
  0]
  0,
  Wr.mk (0 : Int) (0 : Int)
  [IntKind.wrap IntKind.i64
  (Int.tmod (U2.a (List.getD l 3 Enc.dflt))
  (8 : Int)),
  IntKind.wrap IntKind.i64
  (Int.tmod (U2.a (List.getD l 4 Enc.dflt))
  (8 : Int)),
  IntKind.wrap IntKind.i64
  (Int.tmod (U2.a (List.getD l 5 Enc.dflt))
  (8 : Int))]
  0
  [Vl.mk (2 : Int)
  (IntKind.wrap IntKind.i64
  (U2.b (List.getD l 3 Enc.dflt)))
  0,
  Vl.mk (2 : Int)
  (IntKind.wrap IntKind.i64
  (U2.b (List.getD l 4 Enc.dflt)))
  0,
  Vl.mk (2 : Int)
  (IntKind.wrap IntKind.i64
  (U2.b (List.getD l 5 Enc.dflt)))
  0]
  0,
  Wr.mk (0 : Int) (0 : Int)
  [IntKind.wrap IntKind.i64
  (Int.tmod (U2.a (List.getD l 6 Enc.dflt))
  (8 : Int))]
  0
  [Vl.mk (2 : Int)
  (IntKind.wrap IntKind.i64
  (U2.b (List.getD l 6 Enc.dflt)))
  0]
  0]))))
  (need
  (true &&
  Nat.ble (0 + List.length (wantN l A 7))
  (List.length (wantN l A 7)))
  (need
  (ok2 Vl Vl (fun x x_1 x_2 x_3 => true)
  [Ta.cell
  (Td.fr 3
  (List.length
  (drL
  [Wr.mk (0 : Int) (0 : Int)
  [IntKind.wrap IntKind.i64
  (Int.tmod
  (U2.a (List.getD l 0 Enc.dflt))
  (8 : Int)),
  IntKind.wrap IntKind.i64
  (Int.tmod
  (U2.a (List.getD l 1 Enc.dflt))
  (8 : Int)),
  IntKind.wrap IntKind.i64
  (Int.tmod
  (U2.a (List.getD l 2 Enc.dflt))
  (8 : Int))]
  0
  [Vl.mk (2 : Int)
  (IntKind.wrap IntKind.i64
  (U2.b (List.getD l 0 Enc.dflt)))
  0,
  Vl.mk (2 : Int)
  (IntKind.wrap IntKind.i64
  (U2.b (List.getD l 1 Enc.dflt)))
  0,
  Vl.mk (2 : Int)
  (IntKind.wrap IntKind.i64
  (U2.b (List.getD l 2 Enc.dflt)))
  0]
  0,
  Wr.mk (0 : Int) (0 : Int)
  [IntKind.wrap IntKind.i64
  (Int.tmod
  (U2.a (List.getD l 3 Enc.dflt))
  (8 : Int)),
  IntKind.wrap IntKind.i64
  (Int.tmod
  (U2.a (List.getD l 4 Enc.dflt))
  (8 : Int)),
  IntKind.wrap IntKind.i64
  (Int.tmod
  (U2.a (List.getD l 5 Enc.dflt))
  (8 : Int))]
  0
  [Vl.mk (2 : Int)
  (IntKind.wrap IntKind.i64
  (U2.b (List.getD l 3 Enc.dflt)))
  0,
  Vl.mk (2 : Int)
  (IntKind.wrap IntKind.i64
  (U2.b (List.getD l 4 Enc.dflt)))
  0,
  Vl.mk (2 : Int)
  (IntKind.wrap IntKind.i64
  (U2.b (List.getD l 5 Enc.dflt)))
  0]
  0,
  Wr.mk (0 : Int) (0 : Int)
  [IntKind.wrap IntKind.i64
  (Int.tmod
  (U2.a (List.getD l 6 Enc.dflt))
  (8 : Int))]
  0
  [Vl.mk (2 : Int)
  (IntKind.wrap IntKind.i64
  (U2.b (List.getD l 6 Enc.dflt)))
  0]
  0]
  (listT Vl
  (Td.fr 3 (List.length A) 0 fun i =>
  encL A (0 + i)))
  (List.length
  [Wr.mk (0 : Int) (0 : Int)
  [IntKind.wrap IntKind.i64
  (Int.tmod
  (U2.a (List.getD l 0 Enc.dflt))
  (8 : Int)),
  IntKind.wrap IntKind.i64
  (Int.tmod
  (U2.a (List.getD l 1 Enc.dflt))
  (8 : Int)),
  IntKind.wrap IntKind.i64
  (Int.tmod
  (U2.a (List.getD l 2 Enc.dflt))
  (8 : Int))]
  0
  [Vl.mk (2 : Int)
  (IntKind.wrap IntKind.i64
  (U2.b (List.getD l 0 Enc.dflt)))
  0,
  Vl.mk (2 : Int)
  (IntKind.wrap IntKind.i64
  (U2.b (List.getD l 1 Enc.dflt)))
  0,
  Vl.mk (2 : Int)
  (IntKind.wrap IntKind.i64
  (U2.b (List.getD l 2 Enc.dflt)))
  0]
  0,
  Wr.mk (0 : Int) (0 : Int)
  [IntKind.wrap IntKind.i64
  (Int.tmod
  (U2.a (List.getD l 3 Enc.dflt))
  (8 : Int)),
  IntKind.wrap IntKind.i64
  (Int.tmod
  (U2.a (List.getD l 4 Enc.dflt))
  (8 : Int)),
  IntKind.wrap IntKind.i64
  (Int.tmod
  (U2.a (List.getD l 5 Enc.dflt))
  (8 : Int))]
  0
  [Vl.mk (2 : Int)
  (IntKind.wrap IntKind.i64
  (U2.b (List.getD l 3 Enc.dflt)))
  0,
  Vl.mk (2 : Int)
  (IntKind.wrap IntKind.i64
  (U2.b (List.getD l 4 Enc.dflt)))
  0,
  Vl.mk (2 : Int)
  (IntKind.wrap IntKind.i64
  (U2.b (List.getD l 5 Enc.dflt)))
  0]
  0,
  Wr.mk (0 : Int) (0 : Int)
  [IntKind.wrap IntKind.i64
  (Int.tmod
  (U2.a (List.getD l 6 Enc.dflt))
  (8 : Int))]
  0
  [Vl.mk (2 : Int)
  (IntKind.wrap IntKind.i64
  (U2.b (List.getD l 6 Enc.dflt)))
  0]
  0])))
  0 fun i =>
  encL
  (drL
  [Wr.mk (0 : Int) (0 : Int)
  [IntKind.wrap IntKind.i64
  (Int.tmod
  (U2.a (List.getD l 0 Enc.dflt))
  (8 : Int)),
  IntKind.wrap IntKind.i64
  (Int.tmod
  (U2.a (List.getD l 1 Enc.dflt))
  (8 : Int)),
  IntKind.wrap IntKind.i64
  (Int.tmod
  (U2.a (List.getD l 2 Enc.dflt))
  (8 : Int))]
  0
  [Vl.mk (2 : Int)
  (IntKind.wrap IntKind.i64
  (U2.b (List.getD l 0 Enc.dflt)))
  0,
  Vl.mk (2 : Int)
  (IntKind.wrap IntKind.i64
  (U2.b (List.getD l 1 Enc.dflt)))
  0,
  Vl.mk (2 : Int)
  (IntKind.wrap IntKind.i64
  (U2.b (List.getD l 2 Enc.dflt)))
  0]
  0,
  Wr.mk (0 : Int) (0 : Int)
  [IntKind.wrap IntKind.i64
  (Int.tmod
  (U2.a (List.getD l 3 Enc.dflt))
  (8 : Int)),
  IntKind.wrap IntKind.i64
  (Int.tmod
  (U2.a (List.getD l 4 Enc.dflt))
  (8 : Int)),
  IntKind.wrap IntKind.i64
  (Int.tmod
  (U2.a (List.getD l 5 Enc.dflt))
  (8 : Int))]
  0
  [Vl.mk (2 : Int)
  (IntKind.wrap IntKind.i64
  (U2.b (List.getD l 3 Enc.dflt)))
  0,
  Vl.mk (2 : Int)
  (IntKind.wrap IntKind.i64
  (U2.b (List.getD l 4 Enc.dflt)))
  0,
  Vl.mk (2 : Int)
  (IntKind.wrap IntKind.i64
  (U2.b (List.getD l 5 Enc.dflt)))
  0]
  0,
  Wr.mk (0 : Int) (0 : Int)
  [IntKind.wrap IntKind.i64
  (Int.tmod
  (U2.a (List.getD l 6 Enc.dflt))
  (8 : Int))]
  0
  [Vl.mk (2 : Int)
  (IntKind.wrap IntKind.i64
  (U2.b (List.getD l 6 Enc.dflt)))
  0]
  0]
  (listT Vl
  (Td.fr 3 (List.length A) 0 fun i =>
  encL A (0 + i)))
  (List.length
  [Wr.mk (0 : Int) (0 : Int)
  [IntKind.wrap IntKind.i64
  (Int.tmod
  (U2.a (List.getD l 0 Enc.dflt))
  (8 : Int)),
  IntKind.wrap IntKind.i64
  (Int.tmod
  (U2.a (List.getD l 1 Enc.dflt))
  (8 : Int)),
  IntKind.wrap IntKind.i64
  (Int.tmod
  (U2.a (List.getD l 2 Enc.dflt))
  (8 : Int))]
  0
  [Vl.mk (2 : Int)
  (IntKind.wrap IntKind.i64
  (U2.b (List.getD l 0 Enc.dflt)))
  0,
  Vl.mk (2 : Int)
  (IntKind.wrap IntKind.i64
  (U2.b (List.getD l 1 Enc.dflt)))
  0,
  Vl.mk (2 : Int)
  (IntKind.wrap IntKind.i64
  (U2.b (List.getD l 2 Enc.dflt)))
  0]
  0,
  Wr.mk (0 : Int) (0 : Int)
  [IntKind.wrap IntKind.i64
  (Int.tmod
  (U2.a (List.getD l 3 Enc.dflt))
  (8 : Int)),
  IntKind.wrap IntKind.i64
  (Int.tmod
  (U2.a (List.getD l 4 Enc.dflt))
  (8 : Int)),
  IntKind.wrap IntKind.i64
  (Int.tmod
  (U2.a (List.getD l 5 Enc.dflt))
  (8 : Int))]
  0
  [Vl.mk (2 : Int)
  (IntKind.wrap IntKind.i64
  (U2.b (List.getD l 3 Enc.dflt)))
  0,
  Vl.mk (2 : Int)
  (IntKind.wrap IntKind.i64
  (U2.b (List.getD l 4 Enc.dflt)))
  0,
  Vl.mk (2 : Int)
  (IntKind.wrap IntKind.i64
  (U2.b (List.getD l 5 Enc.dflt)))
  0]
  0,
  Wr.mk (0 : Int) (0 : Int)
  [IntKind.wrap IntKind.i64
  (Int.tmod
  (U2.a (List.getD l 6 Enc.dflt))
  (8 : Int))]
  0
  [Vl.mk (2 : Int)
  (IntKind.wrap IntKind.i64
  (U2.b (List.getD l 6 Enc.dflt)))
  0]
  0]))
  (0 + i)),
  Ta.cell
  (Td.fr 3 (List.length (wantN l A 7))
  0 fun i =>
  encL (wantN l A 7) (0 + i))])
  (need
  (sameVs
  (listT Vl
  (Td.fr 3
  (List.length
  (drL
  [Wr.mk (0 : Int) (0 : Int)
  [IntKind.wrap IntKind.i64
  (Int.tmod
  (U2.a (List.getD l 0 Enc.dflt))
  (8 : Int)),
  IntKind.wrap IntKind.i64
  (Int.tmod
  (U2.a (List.getD l 1 Enc.dflt))
  (8 : Int)),
  IntKind.wrap IntKind.i64
  (Int.tmod
  (U2.a (List.getD l 2 Enc.dflt))
  (8 : Int))]
  0
  [Vl.mk (2 : Int)
  (IntKind.wrap IntKind.i64
  (U2.b (List.getD l 0 Enc.dflt)))
  0,
  Vl.mk (2 : Int)
  (IntKind.wrap IntKind.i64
  (U2.b (List.getD l 1 Enc.dflt)))
  0,
  Vl.mk (2 : Int)
  (IntKind.wrap IntKind.i64
  (U2.b (List.getD l 2 Enc.dflt)))
  0]
  0,
  Wr.mk (0 : Int) (0 : Int)
  [IntKind.wrap IntKind.i64
  (Int.tmod
  (U2.a (List.getD l 3 Enc.dflt))
  (8 : Int)),
  IntKind.wrap IntKind.i64
  (Int.tmod
  (U2.a (List.getD l 4 Enc.dflt))
  (8 : Int)),
  IntKind.wrap IntKind.i64
  (Int.tmod
  (U2.a (List.getD l 5 Enc.dflt))
  (8 : Int))]
  0
  [Vl.mk (2 : Int)
  (IntKind.wrap IntKind.i64
  (U2.b (List.getD l 3 Enc.dflt)))
  0,
  Vl.mk (2 : Int)
  (IntKind.wrap IntKind.i64
  (U2.b (List.getD l 4 Enc.dflt)))
  0,
  Vl.mk (2 : Int)
  (IntKind.wrap IntKind.i64
  (U2.b (List.getD l 5 Enc.dflt)))
  0]
  0,
  Wr.mk (0 : Int) (0 : Int)
  [IntKind.wrap IntKind.i64
  (Int.tmod
  (U2.a (List.getD l 6 Enc.dflt))
  (8 : Int))]
  0
  [Vl.mk (2 : Int)
  (IntKind.wrap IntKind.i64
  (U2.b (List.getD l 6 Enc.dflt)))
  0]
  0]
  (listT Vl
  (Td.fr 3 (List.length A) 0 fun i =>
  encL A (0 + i)))
  (List.length
  [Wr.mk (0 : Int) (0 : Int)
  [IntKind.wrap IntKind.i64
  (Int.tmod
  (U2.a (List.getD l 0 Enc.dflt))
  (8 : Int)),
  IntKind.wrap IntKind.i64
  (Int.tmod
  (U2.a (List.getD l 1 Enc.dflt))
  (8 : Int)),
  IntKind.wrap IntKind.i64
  (Int.tmod
  (U2.a (List.getD l 2 Enc.dflt))
  (8 : Int))]
  0
  [Vl.mk (2 : Int)
  (IntKind.wrap IntKind.i64
  (U2.b (List.getD l 0 Enc.dflt)))
  0,
  Vl.mk (2 : Int)
  (IntKind.wrap IntKind.i64
  (U2.b (List.getD l 1 Enc.dflt)))
  0,
  Vl.mk (2 : Int)
  (IntKind.wrap IntKind.i64
  (U2.b (List.getD l 2 Enc.dflt)))
  0]
  0,
  Wr.mk (0 : Int) (0 : Int)
  [IntKind.wrap IntKind.i64
  (Int.tmod
  (U2.a (List.getD l 3 Enc.dflt))
  (8 : Int)),
  IntKind.wrap IntKind.i64
  (Int.tmod
  (U2.a (List.getD l 4 Enc.dflt))
  (8 : Int)),
  IntKind.wrap IntKind.i64
  (Int.tmod
  (U2.a (List.getD l 5 Enc.dflt))
  (8 : Int))]
  0
  [Vl.mk (2 : Int)
  (IntKind.wrap IntKind.i64
  (U2.b (List.getD l 3 Enc.dflt)))
  0,
  Vl.mk (2 : Int)
  (IntKind.wrap IntKind.i64
  (U2.b (List.getD l 4 Enc.dflt)))
  0,
  Vl.mk (2 : Int)
  (IntKind.wrap IntKind.i64
  (U2.b (List.getD l 5 Enc.dflt)))
  0]
  0,
  Wr.mk (0 : Int) (0 : Int)
  [IntKind.wrap IntKind.i64
  (Int.tmod
  (U2.a (List.getD l 6 Enc.dflt))
  (8 : Int))]
  0
  [Vl.mk (2 : Int)
  (IntKind.wrap IntKind.i64
  (U2.b (List.getD l 6 Enc.dflt)))
  0]
  0])))
  0 fun i =>
  encL
  (drL
  [Wr.mk (0 : Int) (0 : Int)
  [IntKind.wrap IntKind.i64
  (Int.tmod
  (U2.a (List.getD l 0 Enc.dflt))
  (8 : Int)),
  IntKind.wrap IntKind.i64
  (Int.tmod
  (U2.a (List.getD l 1 Enc.dflt))
  (8 : Int)),
  IntKind.wrap IntKind.i64
  (Int.tmod
  (U2.a (List.getD l 2 Enc.dflt))
  (8 : Int))]
  0
  [Vl.mk (2 : Int)
  (IntKind.wrap IntKind.i64
  (U2.b (List.getD l 0 Enc.dflt)))
  0,
  Vl.mk (2 : Int)
  (IntKind.wrap IntKind.i64
  (U2.b (List.getD l 1 Enc.dflt)))
  0,
  Vl.mk (2 : Int)
  (IntKind.wrap IntKind.i64
  (U2.b (List.getD l 2 Enc.dflt)))
  0]
  0,
  Wr.mk (0 : Int) (0 : Int)
  [IntKind.wrap IntKind.i64
  (Int.tmod
  (U2.a (List.getD l 3 Enc.dflt))
  (8 : Int)),
  IntKind.wrap IntKind.i64
  (Int.tmod
  (U2.a (List.getD l 4 Enc.dflt))
  (8 : Int)),
  IntKind.wrap IntKind.i64
  (Int.tmod
  (U2.a (List.getD l 5 Enc.dflt))
  (8 : Int))]
  0
  [Vl.mk (2 : Int)
  (IntKind.wrap IntKind.i64
  (U2.b (List.getD l 3 Enc.dflt)))
  0,
  Vl.mk (2 : Int)
  (IntKind.wrap IntKind.i64
  (U2.b (List.getD l 4 Enc.dflt)))
  0,
  Vl.mk (2 : Int)
  (IntKind.wrap IntKind.i64
  (U2.b (List.getD l 5 Enc.dflt)))
  0]
  0,
  Wr.mk (0 : Int) (0 : Int)
  [IntKind.wrap IntKind.i64
  (Int.tmod
  (U2.a (List.getD l 6 Enc.dflt))
  (8 : Int))]
  0
  [Vl.mk (2 : Int)
  (IntKind.wrap IntKind.i64
  (U2.b (List.getD l 6 Enc.dflt)))
  0]
  0]
  (listT Vl
  (Td.fr 3 (List.length A) 0 fun i =>
  encL A (0 + i)))
  (List.length
  [Wr.mk (0 : Int) (0 : Int)
  [IntKind.wrap IntKind.i64
  (Int.tmod
  (U2.a (List.getD l 0 Enc.dflt))
  (8 : Int)),
  IntKind.wrap IntKind.i64
  (Int.tmod
  (U2.a (List.getD l 1 Enc.dflt))
  (8 : Int)),
  IntKind.wrap IntKind.i64
  (Int.tmod
  (U2.a (List.getD l 2 Enc.dflt))
  (8 : Int))]
  0
  [Vl.mk (2 : Int)
  (IntKind.wrap IntKind.i64
  (U2.b (List.getD l 0 Enc.dflt)))
  0,
  Vl.mk (2 : Int)
  (IntKind.wrap IntKind.i64
  (U2.b (List.getD l 1 Enc.dflt)))
  0,
  Vl.mk (2 : Int)
  (IntKind.wrap IntKind.i64
  (U2.b (List.getD l 2 Enc.dflt)))
  0]
  0,
  Wr.mk (0 : Int) (0 : Int)
  [IntKind.wrap IntKind.i64
  (Int.tmod
  (U2.a (List.getD l 3 Enc.dflt))
  (8 : Int)),
  IntKind.wrap IntKind.i64
  (Int.tmod
  (U2.a (List.getD l 4 Enc.dflt))
  (8 : Int)),
  IntKind.wrap IntKind.i64
  (Int.tmod
  (U2.a (List.getD l 5 Enc.dflt))
  (8 : Int))]
  0
  [Vl.mk (2 : Int)
  (IntKind.wrap IntKind.i64
  (U2.b (List.getD l 3 Enc.dflt)))
  0,
  Vl.mk (2 : Int)
  (IntKind.wrap IntKind.i64
  (U2.b (List.getD l 4 Enc.dflt)))
  0,
  Vl.mk (2 : Int)
  (IntKind.wrap IntKind.i64
  (U2.b (List.getD l 5 Enc.dflt)))
  0]
  0,
  Wr.mk (0 : Int) (0 : Int)
  [IntKind.wrap IntKind.i64
  (Int.tmod
  (U2.a (List.getD l 6 Enc.dflt))
  (8 : Int))]
  0
  [Vl.mk (2 : Int)
  (IntKind.wrap IntKind.i64
  (U2.b (List.getD l 6 Enc.dflt)))
  0]
  0]))
  (0 + i)))
  (listT Vl
  (Td.fr 3 (List.length (wantN l A 7))
  0 fun i =>
  encL (wantN l A 7) (0 + i))))
  True)))))) ∧
  (List.length l = 8 →
  need (true && Nat.ble (0 + List.length A) (List.length A))
  (need
  (ok2 Wr Vl (fun l x x_1 x_2 => List.all l (okA Wr))
  [Ta.cell
  (Td.fr 4 3 0
  (selT 4 3
  [Td.sc (Value.int IntKind.i64 (0 : Int)),
  Td.sc (Value.int IntKind.i64 (0 : Int)),
  Td.fr 1 3 0
  (selT 1 3
  [Td.sc
  (Value.int IntKind.i64
  (IntKind.wrap IntKind.i64
  (Int.tmod
  (U2.a (List.getD l 0 Enc.dflt))
  (8 : Int)))),
  Td.sc
  (Value.int IntKind.i64
  (IntKind.wrap IntKind.i64
  (Int.tmod
  (U2.a (List.getD l 1 Enc.dflt))
  (8 : Int)))),
  Td.sc
  (Value.int IntKind.i64
  (IntKind.wrap IntKind.i64
  (Int.tmod
  (U2.a (List.getD l 2 Enc.dflt))
  (8 : Int))))]),
  Td.fr 3 3 0
  (selT 3 3
  [Td.sc (Value.int IntKind.i64 (2 : Int)),
  Td.sc
  (Value.int IntKind.i64
  (IntKind.wrap IntKind.i64
  (U2.b (List.getD l 0 Enc.dflt)))),
  Td.sc (Value.float FloatKind.f64 0),
  Td.sc (Value.int IntKind.i64 (2 : Int)),
  Td.sc
  (Value.int IntKind.i64
  (IntKind.wrap IntKind.i64
  (U2.b (List.getD l 1 Enc.dflt)))),
  Td.sc (Value.float FloatKind.f64 0),
  Td.sc (Value.int IntKind.i64 (2 : Int)),
  Td.sc
  (Value.int IntKind.i64
  (IntKind.wrap IntKind.i64
  (U2.b (List.getD l 2 Enc.dflt)))),
  Td.sc (Value.float FloatKind.f64 0)]),
  Td.sc (Value.int IntKind.i64 (0 : Int)),
  Td.sc (Value.int IntKind.i64 (0 : Int)),
  Td.fr 1 3 0
  (selT 1 3
  [Td.sc
  (Value.int IntKind.i64
  (IntKind.wrap IntKind.i64
  (Int.tmod
  (U2.a (List.getD l 3 Enc.dflt))
  (8 : Int)))),
  Td.sc
  (Value.int IntKind.i64
  (IntKind.wrap IntKind.i64
  (Int.tmod
  (U2.a (List.getD l 4 Enc.dflt))
  (8 : Int)))),
  Td.sc
  (Value.int IntKind.i64
  (IntKind.wrap IntKind.i64
  (Int.tmod
  (U2.a (List.getD l 5 Enc.dflt))
  (8 : Int))))]),
  Td.fr 3 3 0
  (selT 3 3
  [Td.sc (Value.int IntKind.i64 (2 : Int)),
  Td.sc
  (Value.int IntKind.i64
  (IntKind.wrap IntKind.i64
  (U2.b (List.getD l 3 Enc.dflt)))),
  Td.sc (Value.float FloatKind.f64 0),
  Td.sc (Value.int IntKind.i64 (2 : Int)),
  Td.sc
  (Value.int IntKind.i64
  (IntKind.wrap IntKind.i64
  (U2.b (List.getD l 4 Enc.dflt)))),
  Td.sc (Value.float FloatKind.f64 0),
  Td.sc (Value.int IntKind.i64 (2 : Int)),
  Td.sc
  (Value.int IntKind.i64
  (IntKind.wrap IntKind.i64
  (U2.b (List.getD l 5 Enc.dflt)))),
  Td.sc (Value.float FloatKind.f64 0)]),
  Td.sc (Value.int IntKind.i64 (0 : Int)),
  Td.sc (Value.int IntKind.i64 (0 : Int)),
  Td.fr 1 2 0
  (selT 1 2
  [Td.sc
  (Value.int IntKind.i64
  (IntKind.wrap IntKind.i64
  (Int.tmod
  (U2.a (List.getD l 6 Enc.dflt))
  (8 : Int)))),
  Td.sc
  (Value.int IntKind.i64
  (IntKind.wrap IntKind.i64
  (Int.tmod
  (U2.a (List.getD l 7 Enc.dflt))
  (8 : Int))))]),
  Td.fr 3 2 0
  (selT 3 2
  [Td.sc (Value.int IntKind.i64 (2 : Int)),
  Td.sc
  (Value.int IntKind.i64
  (IntKind.wrap IntKind.i64
  (U2.b (List.getD l 6 Enc.dflt)))),
  Td.sc (Value.float FloatKind.f64 0),
  Td.sc (Value.int IntKind.i64 (2 : Int)),
  Td.sc
  (Value.int IntKind.i64
  (IntKind.wrap IntKind.i64
  (U2.b (List.getD l 7 Enc.dflt)))),
  Td.sc (Value.float FloatKind.f64 0)])])),
  Ta.cell
  (Td.fr 3 (List.length A) 0 fun i =>
  encL A (0 + i))])
  (need
  (true &&
  Nat.ble
  (0 +
  List.length
  (drL
  [Wr.mk (0 : Int) (0 : Int)
  [IntKind.wrap IntKind.i64
  (Int.tmod (U2.a (List.getD l 0 Enc.dflt))
  (8 : Int)),
  IntKind.wrap IntKind.i64
  (Int.tmod (U2.a (List.getD l 1 Enc.dflt))
  (8 : Int)),
  IntKind.wrap IntKind.i64
  (Int.tmod (U2.a (List.getD l 2 Enc.dflt))
  (8 : Int))]
  0
  [Vl.mk (2 : Int)
  (IntKind.wrap IntKind.i64
  (U2.b (List.getD l 0 Enc.dflt)))
  0,
  Vl.mk (2 : Int)
  (IntKind.wrap IntKind.i64
  (U2.b (List.getD l 1 Enc.dflt)))
  0,
  Vl.mk (2 : Int)
  (IntKind.wrap IntKind.i64
  (U2.b (List.getD l 2 Enc.dflt)))
  0]
  0,
  Wr.mk (0 : Int) (0 : Int)
  [IntKind.wrap IntKind.i64
  (Int.tmod (U2.a (List.getD l 3 Enc.dflt))
  (8 : Int)),
  IntKind.wrap IntKind.i64
  (Int.tmod (U2.a (List.getD l 4 Enc.dflt))
  (8 : Int)),
  IntKind.wrap IntKind.i64
  (Int.tmod (U2.a (List.getD l 5 Enc.dflt))
  (8 : Int))]
  0
  [Vl.mk (2 : Int)
  (IntKind.wrap IntKind.i64
  (U2.b (List.getD l 3 Enc.dflt)))
  0,
  Vl.mk (2 : Int)
  (IntKind.wrap IntKind.i64
  (U2.b (List.getD l 4 Enc.dflt)))
  0,
  Vl.mk (2 : Int)
  (IntKind.wrap IntKind.i64
  (U2.b (List.getD l 5 Enc.dflt)))
  0]
  0,
  Wr.mk (0 : Int) (0 : Int)
  [IntKind.wrap IntKind.i64
  (Int.tmod (U2.a (List.getD l 6 Enc.dflt))
  (8 : Int)),
  IntKind.wrap IntKind.i64
  (Int.tmod (U2.a (List.getD l 7 Enc.dflt))
  (8 : Int))]
  0
  [Vl.mk (2 : Int)
  (IntKind.wrap IntKind.i64
  (U2.b (List.getD l 6 Enc.dflt)))
  0,
  Vl.mk (2 : Int)
  (IntKind.wrap IntKind.i64
  (U2.b (List.getD l 7 Enc.dflt)))
  0]
  0]
  (listT Vl
  (Td.fr 3 (List.length A) 0 fun i =>
  encL A (0 + i)))
  (List.length
  [Wr.mk (0 : Int) (0 : Int)
  [IntKind.wrap IntKind.i64
  (Int.tmod
  (U2.a (List.getD l 0 Enc.dflt))
  (8 : Int)),
  IntKind.wrap IntKind.i64
  (Int.tmod
  (U2.a (List.getD l 1 Enc.dflt))
  (8 : Int)),
  IntKind.wrap IntKind.i64
  (Int.tmod
  (U2.a (List.getD l 2 Enc.dflt))
  (8 : Int))]
  0
  [Vl.mk (2 : Int)
  (IntKind.wrap IntKind.i64
  (U2.b (List.getD l 0 Enc.dflt)))
  0,
  Vl.mk (2 : Int)
  (IntKind.wrap IntKind.i64
  (U2.b (List.getD l 1 Enc.dflt)))
  0,
  Vl.mk (2 : Int)
  (IntKind.wrap IntKind.i64
  (U2.b (List.getD l 2 Enc.dflt)))
  0]
  0,
  Wr.mk (0 : Int) (0 : Int)
  [IntKind.wrap IntKind.i64
  (Int.tmod
  (U2.a (List.getD l 3 Enc.dflt))
  (8 : Int)),
  IntKind.wrap IntKind.i64
  (Int.tmod
  (U2.a (List.getD l 4 Enc.dflt))
  (8 : Int)),
  IntKind.wrap IntKind.i64
  (Int.tmod
  (U2.a (List.getD l 5 Enc.dflt))
  (8 : Int))]
  0
  [Vl.mk (2 : Int)
  (IntKind.wrap IntKind.i64
  (U2.b (List.getD l 3 Enc.dflt)))
  0,
  Vl.mk (2 : Int)
  (IntKind.wrap IntKind.i64
  (U2.b (List.getD l 4 Enc.dflt)))
  0,
  Vl.mk (2 : Int)
  (IntKind.wrap IntKind.i64
  (U2.b (List.getD l 5 Enc.dflt)))
  0]
  0,
  Wr.mk (0 : Int) (0 : Int)
  [IntKind.wrap IntKind.i64
  (Int.tmod
  (U2.a (List.getD l 6 Enc.dflt))
  (8 : Int)),
  IntKind.wrap IntKind.i64
  (Int.tmod
  (U2.a (List.getD l 7 Enc.dflt))
  (8 : Int))]
  0
  [Vl.mk (2 : Int)
  (IntKind.wrap IntKind.i64
  (U2.b (List.getD l 6 Enc.dflt)))
  0,
  Vl.mk (2 : Int)
  (IntKind.wrap IntKind.i64
  (U2.b (List.getD l 7 Enc.dflt)))
  0]
  0])))
  (List.length
  (drL
  [Wr.mk (0 : Int) (0 : Int)
  [IntKind.wrap IntKind.i64
  (Int.tmod (U2.a (List.getD l 0 Enc.dflt))
  (8 : Int)),
  IntKind.wrap IntKind.i64
  (Int.tmod (U2.a (List.getD l 1 Enc.dflt))
  (8 : Int)),
  IntKind.wrap IntKind.i64
  (Int.tmod (U2.a (List.getD l 2 Enc.dflt))
  (8 : Int))]
  0
  [Vl.mk (2 : Int)
  (IntKind.wrap IntKind.i64
  (U2.b (List.getD l 0 Enc.dflt)))
  0,
  Vl.mk (2 : Int)
  (IntKind.wrap IntKind.i64
  (U2.b (List.getD l 1 Enc.dflt)))
  0,
  Vl.mk (2 : Int)
  (IntKind.wrap IntKind.i64
  (U2.b (List.getD l 2 Enc.dflt)))
  0]
  0,
  Wr.mk (0 : Int) (0 : Int)
  [IntKind.wrap IntKind.i64
  (Int.tmod (U2.a (List.getD l 3 Enc.dflt))
  (8 : Int)),
  IntKind.wrap IntKind.i64
  (Int.tmod (U2.a (List.getD l 4 Enc.dflt))
  (8 : Int)),
  IntKind.wrap IntKind.i64
  (Int.tmod (U2.a (List.getD l 5 Enc.dflt))
  (8 : Int))]
  0
  [Vl.mk (2 : Int)
  (IntKind.wrap IntKind.i64
  (U2.b (List.getD l 3 Enc.dflt)))
  0,
  Vl.mk (2 : Int)
  (IntKind.wrap IntKind.i64
  (U2.b (List.getD l 4 Enc.dflt)))
  0,
  Vl.mk (2 : Int)
  (IntKind.wrap IntKind.i64
  (U2.b (List.getD l 5 Enc.dflt)))
  0]
  0,
  Wr.mk (0 : Int) (0 : Int)
  [IntKind.wrap IntKind.i64
  (Int.tmod (U2.a (List.getD l 6 Enc.dflt))
  (8 : Int)),
  IntKind.wrap IntKind.i64
  (Int.tmod (U2.a (List.getD l 7 Enc.dflt))
  (8 : Int))]
  0
  [Vl.mk (2 : Int)
  (IntKind.wrap IntKind.i64
  (U2.b (List.getD l 6 Enc.dflt)))
  0,
  Vl.mk (2 : Int)
  (IntKind.wrap IntKind.i64
  (U2.b (List.getD l 7 Enc.dflt)))
  0]
  0]
  (listT Vl
  (Td.fr 3 (List.length A) 0 fun i =>
  encL A (0 + i)))
  (List.length
  [Wr.mk (0 : Int) (0 : Int)
  [IntKind.wrap IntKind.i64
  (Int.tmod (U2.a (List.getD l 0 Enc.dflt))
  (8 : Int)),
  IntKind.wrap IntKind.i64
  (Int.tmod (U2.a (List.getD l 1 Enc.dflt))
  (8 : Int)),
  IntKind.wrap IntKind.i64
  (Int.tmod (U2.a (List.getD l 2 Enc.dflt))
  (8 : Int))]
  0
  [Vl.mk (2 : Int)
  (IntKind.wrap IntKind.i64
  (U2.b (List.getD l 0 Enc.dflt)))
  0,
  Vl.mk (2 : Int)
  (IntKind.wrap IntKind.i64
  (U2.b (List.getD l 1 Enc.dflt)))
  0,
  Vl.mk (2 : Int)
  (IntKind.wrap IntKind.i64
  (U2.b (List.getD l 2 Enc.dflt)))
  0]
  0,
  Wr.mk (0 : Int) (0 : Int)
  [IntKind.wrap IntKind.i64
  (Int.tmod (U2.a (List.getD l 3 Enc.dflt))
  (8 : Int)),
  IntKind.wrap IntKind.i64
  (Int.tmod (U2.a (List.getD l 4 Enc.dflt))
  (8 : Int)),
  IntKind.wrap IntKind.i64
  (Int.tmod (U2.a (List.getD l 5 Enc.dflt))
  (8 : Int))]
  0
  [Vl.mk (2 : Int)
  (IntKind.wrap IntKind.i64
  (U2.b (List.getD l 3 Enc.dflt)))
  0,
  Vl.mk (2 : Int)
  (IntKind.wrap IntKind.i64
  (U2.b (List.getD l 4 Enc.dflt)))
  0,
  Vl.mk (2 : Int)
  (IntKind.wrap IntKind.i64
  (U2.b (List.getD l 5 Enc.dflt)))
  0]
  0,
  Wr.mk (0 : Int) (0 : Int)
  [IntKind.wrap IntKind.i64
  (Int.tmod (U2.a (List.getD l 6 Enc.dflt))
  (8 : Int)),
  IntKind.wrap IntKind.i64
  (Int.tmod (U2.a (List.getD l 7 Enc.dflt))
  (8 : Int))]
  0
  [Vl.mk (2 : Int)
  (IntKind.wrap IntKind.i64
  (U2.b (List.getD l 6 Enc.dflt)))
  0,
  Vl.mk (2 : Int)
  (IntKind.wrap IntKind.i64
  (U2.b (List.getD l 7 Enc.dflt)))
  0]
  0]))))
  (need
  (true &&
  Nat.ble (0 + List.length (wantN l A 8))
  (List.length (wantN l A 8)))
  (need
  (ok2 Vl Vl (fun x x_1 x_2 x_3 => true)
  [Ta.cell
  (Td.fr 3
  (List.length
  (drL
  [Wr.mk (0 : Int) (0 : Int)
  [IntKind.wrap IntKind.i64
  (Int.tmod
  (U2.a (List.getD l 0 Enc.dflt))
  (8 : Int)),
  IntKind.wrap IntKind.i64
  (Int.tmod
  (U2.a (List.getD l 1 Enc.dflt))
  (8 : Int)),
  IntKind.wrap IntKind.i64
  (Int.tmod
  (U2.a (List.getD l 2 Enc.dflt))
  (8 : Int))]
  0
  [Vl.mk (2 : Int)
  (IntKind.wrap IntKind.i64
  (U2.b (List.getD l 0 Enc.dflt)))
  0,
  Vl.mk (2 : Int)
  (IntKind.wrap IntKind.i64
  (U2.b (List.getD l 1 Enc.dflt)))
  0,
  Vl.mk (2 : Int)
  (IntKind.wrap IntKind.i64
  (U2.b (List.getD l 2 Enc.dflt)))
  0]
  0,
  Wr.mk (0 : Int) (0 : Int)
  [IntKind.wrap IntKind.i64
  (Int.tmod
  (U2.a (List.getD l 3 Enc.dflt))
  (8 : Int)),
  IntKind.wrap IntKind.i64
  (Int.tmod
  (U2.a (List.getD l 4 Enc.dflt))
  (8 : Int)),
  IntKind.wrap IntKind.i64
  (Int.tmod
  (U2.a (List.getD l 5 Enc.dflt))
  (8 : Int))]
  0
  [Vl.mk (2 : Int)
  (IntKind.wrap IntKind.i64
  (U2.b (List.getD l 3 Enc.dflt)))
  0,
  Vl.mk (2 : Int)
  (IntKind.wrap IntKind.i64
  (U2.b (List.getD l 4 Enc.dflt)))
  0,
  Vl.mk (2 : Int)
  (IntKind.wrap IntKind.i64
  (U2.b (List.getD l 5 Enc.dflt)))
  0]
  0,
  Wr.mk (0 : Int) (0 : Int)
  [IntKind.wrap IntKind.i64
  (Int.tmod
  (U2.a (List.getD l 6 Enc.dflt))
  (8 : Int)),
  IntKind.wrap IntKind.i64
  (Int.tmod
  (U2.a (List.getD l 7 Enc.dflt))
  (8 : Int))]
  0
  [Vl.mk (2 : Int)
  (IntKind.wrap IntKind.i64
  (U2.b (List.getD l 6 Enc.dflt)))
  0,
  Vl.mk (2 : Int)
  (IntKind.wrap IntKind.i64
  (U2.b (List.getD l 7 Enc.dflt)))
  0]
  0]
  (listT Vl
  (Td.fr 3 (List.length A) 0
  fun i => encL A (0 + i)))
  (List.length
  [Wr.mk (0 : Int) (0 : Int)
  [IntKind.wrap IntKind.i64
  (Int.tmod
  (U2.a (List.getD l 0 Enc.dflt))
  (8 : Int)),
  IntKind.wrap IntKind.i64
  (Int.tmod
  (U2.a (List.getD l 1 Enc.dflt))
  (8 : Int)),
  IntKind.wrap IntKind.i64
  (Int.tmod
  (U2.a (List.getD l 2 Enc.dflt))
  (8 : Int))]
  0
  [Vl.mk (2 : Int)
  (IntKind.wrap IntKind.i64
  (U2.b (List.getD l 0 Enc.dflt)))
  0,
  Vl.mk (2 : Int)
  (IntKind.wrap IntKind.i64
  (U2.b (List.getD l 1 Enc.dflt)))
  0,
  Vl.mk (2 : Int)
  (IntKind.wrap IntKind.i64
  (U2.b (List.getD l 2 Enc.dflt)))
  0]
  0,
  Wr.mk (0 : Int) (0 : Int)
  [IntKind.wrap IntKind.i64
  (Int.tmod
  (U2.a (List.getD l 3 Enc.dflt))
  (8 : Int)),
  IntKind.wrap IntKind.i64
  (Int.tmod
  (U2.a (List.getD l 4 Enc.dflt))
  (8 : Int)),
  IntKind.wrap IntKind.i64
  (Int.tmod
  (U2.a (List.getD l 5 Enc.dflt))
  (8 : Int))]
  0
  [Vl.mk (2 : Int)
  (IntKind.wrap IntKind.i64
  (U2.b (List.getD l 3 Enc.dflt)))
  0,
  Vl.mk (2 : Int)
  (IntKind.wrap IntKind.i64
  (U2.b (List.getD l 4 Enc.dflt)))
  0,
  Vl.mk (2 : Int)
  (IntKind.wrap IntKind.i64
  (U2.b (List.getD l 5 Enc.dflt)))
  0]
  0,
  Wr.mk (0 : Int) (0 : Int)
  [IntKind.wrap IntKind.i64
  (Int.tmod
  (U2.a (List.getD l 6 Enc.dflt))
  (8 : Int)),
  IntKind.wrap IntKind.i64
  (Int.tmod
  (U2.a (List.getD l 7 Enc.dflt))
  (8 : Int))]
  0
  [Vl.mk (2 : Int)
  (IntKind.wrap IntKind.i64
  (U2.b (List.getD l 6 Enc.dflt)))
  0,
  Vl.mk (2 : Int)
  (IntKind.wrap IntKind.i64
  (U2.b (List.getD l 7 Enc.dflt)))
  0]
  0])))
  0 fun i =>
  encL
  (drL
  [Wr.mk (0 : Int) (0 : Int)
  [IntKind.wrap IntKind.i64
  (Int.tmod
  (U2.a (List.getD l 0 Enc.dflt))
  (8 : Int)),
  IntKind.wrap IntKind.i64
  (Int.tmod
  (U2.a (List.getD l 1 Enc.dflt))
  (8 : Int)),
  IntKind.wrap IntKind.i64
  (Int.tmod
  (U2.a (List.getD l 2 Enc.dflt))
  (8 : Int))]
  0
  [Vl.mk (2 : Int)
  (IntKind.wrap IntKind.i64
  (U2.b (List.getD l 0 Enc.dflt)))
  0,
  Vl.mk (2 : Int)
  (IntKind.wrap IntKind.i64
  (U2.b (List.getD l 1 Enc.dflt)))
  0,
  Vl.mk (2 : Int)
  (IntKind.wrap IntKind.i64
  (U2.b (List.getD l 2 Enc.dflt)))
  0]
  0,
  Wr.mk (0 : Int) (0 : Int)
  [IntKind.wrap IntKind.i64
  (Int.tmod
  (U2.a (List.getD l 3 Enc.dflt))
  (8 : Int)),
  IntKind.wrap IntKind.i64
  (Int.tmod
  (U2.a (List.getD l 4 Enc.dflt))
  (8 : Int)),
  IntKind.wrap IntKind.i64
  (Int.tmod
  (U2.a (List.getD l 5 Enc.dflt))
  (8 : Int))]
  0
  [Vl.mk (2 : Int)
  (IntKind.wrap IntKind.i64
  (U2.b (List.getD l 3 Enc.dflt)))
  0,
  Vl.mk (2 : Int)
  (IntKind.wrap IntKind.i64
  (U2.b (List.getD l 4 Enc.dflt)))
  0,
  Vl.mk (2 : Int)
  (IntKind.wrap IntKind.i64
  (U2.b (List.getD l 5 Enc.dflt)))
  0]
  0,
  Wr.mk (0 : Int) (0 : Int)
  [IntKind.wrap IntKind.i64
  (Int.tmod
  (U2.a (List.getD l 6 Enc.dflt))
  (8 : Int)),
  IntKind.wrap IntKind.i64
  (Int.tmod
  (U2.a (List.getD l 7 Enc.dflt))
  (8 : Int))]
  0
  [Vl.mk (2 : Int)
  (IntKind.wrap IntKind.i64
  (U2.b (List.getD l 6 Enc.dflt)))
  0,
  Vl.mk (2 : Int)
  (IntKind.wrap IntKind.i64
  (U2.b (List.getD l 7 Enc.dflt)))
  0]
  0]
  (listT Vl
  (Td.fr 3 (List.length A) 0
  fun i => encL A (0 + i)))
  (List.length
  [Wr.mk (0 : Int) (0 : Int)
  [IntKind.wrap IntKind.i64
  (Int.tmod
  (U2.a (List.getD l 0 Enc.dflt))
  (8 : Int)),
  IntKind.wrap IntKind.i64
  (Int.tmod
  (U2.a (List.getD l 1 Enc.dflt))
  (8 : Int)),
  IntKind.wrap IntKind.i64
  (Int.tmod
  (U2.a (List.getD l 2 Enc.dflt))
  (8 : Int))]
  0
  [Vl.mk (2 : Int)
  (IntKind.wrap IntKind.i64
  (U2.b (List.getD l 0 Enc.dflt)))
  0,
  Vl.mk (2 : Int)
  (IntKind.wrap IntKind.i64
  (U2.b (List.getD l 1 Enc.dflt)))
  0,
  Vl.mk (2 : Int)
  (IntKind.wrap IntKind.i64
  (U2.b (List.getD l 2 Enc.dflt)))
  0]
  0,
  Wr.mk (0 : Int) (0 : Int)
  [IntKind.wrap IntKind.i64
  (Int.tmod
  (U2.a (List.getD l 3 Enc.dflt))
  (8 : Int)),
  IntKind.wrap IntKind.i64
  (Int.tmod
  (U2.a (List.getD l 4 Enc.dflt))
  (8 : Int)),
  IntKind.wrap IntKind.i64
  (Int.tmod
  (U2.a (List.getD l 5 Enc.dflt))
  (8 : Int))]
  0
  [Vl.mk (2 : Int)
  (IntKind.wrap IntKind.i64
  (U2.b (List.getD l 3 Enc.dflt)))
  0,
  Vl.mk (2 : Int)
  (IntKind.wrap IntKind.i64
  (U2.b (List.getD l 4 Enc.dflt)))
  0,
  Vl.mk (2 : Int)
  (IntKind.wrap IntKind.i64
  (U2.b (List.getD l 5 Enc.dflt)))
  0]
  0,
  Wr.mk (0 : Int) (0 : Int)
  [IntKind.wrap IntKind.i64
  (Int.tmod
  (U2.a (List.getD l 6 Enc.dflt))
  (8 : Int)),
  IntKind.wrap IntKind.i64
  (Int.tmod
  (U2.a (List.getD l 7 Enc.dflt))
  (8 : Int))]
  0
  [Vl.mk (2 : Int)
  (IntKind.wrap IntKind.i64
  (U2.b (List.getD l 6 Enc.dflt)))
  0,
  Vl.mk (2 : Int)
  (IntKind.wrap IntKind.i64
  (U2.b (List.getD l 7 Enc.dflt)))
  0]
  0]))
  (0 + i)),
  Ta.cell
  (Td.fr 3 (List.length (wantN l A 8))
  0 fun i =>
  encL (wantN l A 8) (0 + i))])
  (need
  (sameVs
  (listT Vl
  (Td.fr 3
  (List.length
  (drL
  [Wr.mk (0 : Int) (0 : Int)
  [IntKind.wrap IntKind.i64
  (Int.tmod
  (U2.a (List.getD l 0 Enc.dflt))
  (8 : Int)),
  IntKind.wrap IntKind.i64
  (Int.tmod
  (U2.a (List.getD l 1 Enc.dflt))
  (8 : Int)),
  IntKind.wrap IntKind.i64
  (Int.tmod
  (U2.a (List.getD l 2 Enc.dflt))
  (8 : Int))]
  0
  [Vl.mk (2 : Int)
  (IntKind.wrap IntKind.i64
  (U2.b (List.getD l 0 Enc.dflt)))
  0,
  Vl.mk (2 : Int)
  (IntKind.wrap IntKind.i64
  (U2.b (List.getD l 1 Enc.dflt)))
  0,
  Vl.mk (2 : Int)
  (IntKind.wrap IntKind.i64
  (U2.b (List.getD l 2 Enc.dflt)))
  0]
  0,
  Wr.mk (0 : Int) (0 : Int)
  [IntKind.wrap IntKind.i64
  (Int.tmod
  (U2.a (List.getD l 3 Enc.dflt))
  (8 : Int)),
  IntKind.wrap IntKind.i64
  (Int.tmod
  (U2.a (List.getD l 4 Enc.dflt))
  (8 : Int)),
  IntKind.wrap IntKind.i64
  (Int.tmod
  (U2.a (List.getD l 5 Enc.dflt))
  (8 : Int))]
  0
  [Vl.mk (2 : Int)
  (IntKind.wrap IntKind.i64
  (U2.b (List.getD l 3 Enc.dflt)))
  0,
  Vl.mk (2 : Int)
  (IntKind.wrap IntKind.i64
  (U2.b (List.getD l 4 Enc.dflt)))
  0,
  Vl.mk (2 : Int)
  (IntKind.wrap IntKind.i64
  (U2.b (List.getD l 5 Enc.dflt)))
  0]
  0,
  Wr.mk (0 : Int) (0 : Int)
  [IntKind.wrap IntKind.i64
  (Int.tmod
  (U2.a (List.getD l 6 Enc.dflt))
  (8 : Int)),
  IntKind.wrap IntKind.i64
  (Int.tmod
  (U2.a (List.getD l 7 Enc.dflt))
  (8 : Int))]
  0
  [Vl.mk (2 : Int)
  (IntKind.wrap IntKind.i64
  (U2.b (List.getD l 6 Enc.dflt)))
  0,
  Vl.mk (2 : Int)
  (IntKind.wrap IntKind.i64
  (U2.b (List.getD l 7 Enc.dflt)))
  0]
  0]
  (listT Vl
  (Td.fr 3 (List.length A) 0
  fun i => encL A (0 + i)))
  (List.length
  [Wr.mk (0 : Int) (0 : Int)
  [IntKind.wrap IntKind.i64
  (Int.tmod
  (U2.a (List.getD l 0 Enc.dflt))
  (8 : Int)),
  IntKind.wrap IntKind.i64
  (Int.tmod
  (U2.a (List.getD l 1 Enc.dflt))
  (8 : Int)),
  IntKind.wrap IntKind.i64
  (Int.tmod
  (U2.a (List.getD l 2 Enc.dflt))
  (8 : Int))]
  0
  [Vl.mk (2 : Int)
  (IntKind.wrap IntKind.i64
  (U2.b (List.getD l 0 Enc.dflt)))
  0,
  Vl.mk (2 : Int)
  (IntKind.wrap IntKind.i64
  (U2.b (List.getD l 1 Enc.dflt)))
  0,
  Vl.mk (2 : Int)
  (IntKind.wrap IntKind.i64
  (U2.b (List.getD l 2 Enc.dflt)))
  0]
  0,
  Wr.mk (0 : Int) (0 : Int)
  [IntKind.wrap IntKind.i64
  (Int.tmod
  (U2.a (List.getD l 3 Enc.dflt))
  (8 : Int)),
  IntKind.wrap IntKind.i64
  (Int.tmod
  (U2.a (List.getD l 4 Enc.dflt))
  (8 : Int)),
  IntKind.wrap IntKind.i64
  (Int.tmod
  (U2.a (List.getD l 5 Enc.dflt))
  (8 : Int))]
  0
  [Vl.mk (2 : Int)
  (IntKind.wrap IntKind.i64
  (U2.b (List.getD l 3 Enc.dflt)))
  0,
  Vl.mk (2 : Int)
  (IntKind.wrap IntKind.i64
  (U2.b (List.getD l 4 Enc.dflt)))
  0,
  Vl.mk (2 : Int)
  (IntKind.wrap IntKind.i64
  (U2.b (List.getD l 5 Enc.dflt)))
  0]
  0,
  Wr.mk (0 : Int) (0 : Int)
  [IntKind.wrap IntKind.i64
  (Int.tmod
  (U2.a (List.getD l 6 Enc.dflt))
  (8 : Int)),
  IntKind.wrap IntKind.i64
  (Int.tmod
  (U2.a (List.getD l 7 Enc.dflt))
  (8 : Int))]
  0
  [Vl.mk (2 : Int)
  (IntKind.wrap IntKind.i64
  (U2.b (List.getD l 6 Enc.dflt)))
  0,
  Vl.mk (2 : Int)
  (IntKind.wrap IntKind.i64
  (U2.b (List.getD l 7 Enc.dflt)))
  0]
  0])))
  0 fun i =>
  encL
  (drL
  [Wr.mk (0 : Int) (0 : Int)
  [IntKind.wrap IntKind.i64
  (Int.tmod
  (U2.a (List.getD l 0 Enc.dflt))
  (8 : Int)),
  IntKind.wrap IntKind.i64
  (Int.tmod
  (U2.a (List.getD l 1 Enc.dflt))
  (8 : Int)),
  IntKind.wrap IntKind.i64
  (Int.tmod
  (U2.a (List.getD l 2 Enc.dflt))
  (8 : Int))]
  0
  [Vl.mk (2 : Int)
  (IntKind.wrap IntKind.i64
  (U2.b (List.getD l 0 Enc.dflt)))
  0,
  Vl.mk (2 : Int)
  (IntKind.wrap IntKind.i64
  (U2.b (List.getD l 1 Enc.dflt)))
  0,
  Vl.mk (2 : Int)
  (IntKind.wrap IntKind.i64
  (U2.b (List.getD l 2 Enc.dflt)))
  0]
  0,
  Wr.mk (0 : Int) (0 : Int)
  [IntKind.wrap IntKind.i64
  (Int.tmod
  (U2.a (List.getD l 3 Enc.dflt))
  (8 : Int)),
  IntKind.wrap IntKind.i64
  (Int.tmod
  (U2.a (List.getD l 4 Enc.dflt))
  (8 : Int)),
  IntKind.wrap IntKind.i64
  (Int.tmod
  (U2.a (List.getD l 5 Enc.dflt))
  (8 : Int))]
  0
  [Vl.mk (2 : Int)
  (IntKind.wrap IntKind.i64
  (U2.b (List.getD l 3 Enc.dflt)))
  0,
  Vl.mk (2 : Int)
  (IntKind.wrap IntKind.i64
  (U2.b (List.getD l 4 Enc.dflt)))
  0,
  Vl.mk (2 : Int)
  (IntKind.wrap IntKind.i64
  (U2.b (List.getD l 5 Enc.dflt)))
  0]
  0,
  Wr.mk (0 : Int) (0 : Int)
  [IntKind.wrap IntKind.i64
  (Int.tmod
  (U2.a (List.getD l 6 Enc.dflt))
  (8 : Int)),
  IntKind.wrap IntKind.i64
  (Int.tmod
  (U2.a (List.getD l 7 Enc.dflt))
  (8 : Int))]
  0
  [Vl.mk (2 : Int)
  (IntKind.wrap IntKind.i64
  (U2.b (List.getD l 6 Enc.dflt)))
  0,
  Vl.mk (2 : Int)
  (IntKind.wrap IntKind.i64
  (U2.b (List.getD l 7 Enc.dflt)))
  0]
  0]
  (listT Vl
  (Td.fr 3 (List.length A) 0
  fun i => encL A (0 + i)))
  (List.length
  [Wr.mk (0 : Int) (0 : Int)
  [IntKind.wrap IntKind.i64
  (Int.tmod
  (U2.a (List.getD l 0 Enc.dflt))
  (8 : Int)),
  IntKind.wrap IntKind.i64
  (Int.tmod
  (U2.a (List.getD l 1 Enc.dflt))
  (8 : Int)),
  IntKind.wrap IntKind.i64
  (Int.tmod
  (U2.a (List.getD l 2 Enc.dflt))
  (8 : Int))]
  0
  [Vl.mk (2 : Int)
  (IntKind.wrap IntKind.i64
  (U2.b (List.getD l 0 Enc.dflt)))
  0,
  Vl.mk (2 : Int)
  (IntKind.wrap IntKind.i64
  (U2.b (List.getD l 1 Enc.dflt)))
  0,
  Vl.mk (2 : Int)
  (IntKind.wrap IntKind.i64
  (U2.b (List.getD l 2 Enc.dflt)))
  0]
  0,
  Wr.mk (0 : Int) (0 : Int)
  [IntKind.wrap IntKind.i64
  (Int.tmod
  (U2.a (List.getD l 3 Enc.dflt))
  (8 : Int)),
  IntKind.wrap IntKind.i64
  (Int.tmod
  (U2.a (List.getD l 4 Enc.dflt))
  (8 : Int)),
  IntKind.wrap IntKind.i64
  (Int.tmod
  (U2.a (List.getD l 5 Enc.dflt))
  (8 : Int))]
  0
  [Vl.mk (2 : Int)
  (IntKind.wrap IntKind.i64
  (U2.b (List.getD l 3 Enc.dflt)))
  0,
  Vl.mk (2 : Int)
  (IntKind.wrap IntKind.i64
  (U2.b (List.getD l 4 Enc.dflt)))
  0,
  Vl.mk (2 : Int)
  (IntKind.wrap IntKind.i64
  (U2.b (List.getD l 5 Enc.dflt)))
  0]
  0,
  Wr.mk (0 : Int) (0 : Int)
  [IntKind.wrap IntKind.i64
  (Int.tmod
  (U2.a (List.getD l 6 Enc.dflt))
  (8 : Int)),
  IntKind.wrap IntKind.i64
  (Int.tmod
  (U2.a (List.getD l 7 Enc.dflt))
  (8 : Int))]
  0
  [Vl.mk (2 : Int)
  (IntKind.wrap IntKind.i64
  (U2.b (List.getD l 6 Enc.dflt)))
  0,
  Vl.mk (2 : Int)
  (IntKind.wrap IntKind.i64
  (U2.b (List.getD l 7 Enc.dflt)))
  0]
  0]))
  (0 + i)))
  (listT Vl
  (Td.fr 3 (List.length (wantN l A 8))
  0 fun i =>
  encL (wantN l A 8) (0 + i))))
  True)))))) ∧
  (List.length l = 9 →
  need (true && Nat.ble (0 + List.length A) (List.length A))
  (need
  (ok2 Wr Vl (fun l x x_1 x_2 => List.all l (okA Wr))
  [Ta.cell
  (Td.fr 4 3 0
  (selT 4 3
  [Td.sc (Value.int IntKind.i64 (0 : Int)),
  Td.sc (Value.int IntKind.i64 (0 : Int)),
  Td.fr 1 3 0
  (selT 1 3
  [Td.sc
  (Value.int IntKind.i64
  (IntKind.wrap IntKind.i64
  (Int.tmod
  (U2.a (List.getD l 0 Enc.dflt))
  (8 : Int)))),
  Td.sc
  (Value.int IntKind.i64
  (IntKind.wrap IntKind.i64
  (Int.tmod
  (U2.a (List.getD l 1 Enc.dflt))
  (8 : Int)))),
  Td.sc
  (Value.int IntKind.i64
  (IntKind.wrap IntKind.i64
  (Int.tmod
  (U2.a (List.getD l 2 Enc.dflt))
  (8 : Int))))]),
  Td.fr 3 3 0
  (selT 3 3
  [Td.sc (Value.int IntKind.i64 (2 : Int)),
  Td.sc
  (Value.int IntKind.i64
  (IntKind.wrap IntKind.i64
  (U2.b (List.getD l 0 Enc.dflt)))),
  Td.sc (Value.float FloatKind.f64 0),
  Td.sc (Value.int IntKind.i64 (2 : Int)),
  Td.sc
  (Value.int IntKind.i64
  (IntKind.wrap IntKind.i64
  (U2.b (List.getD l 1 Enc.dflt)))),
  Td.sc (Value.float FloatKind.f64 0),
  Td.sc (Value.int IntKind.i64 (2 : Int)),
  Td.sc
  (Value.int IntKind.i64
  (IntKind.wrap IntKind.i64
  (U2.b (List.getD l 2 Enc.dflt)))),
  Td.sc (Value.float FloatKind.f64 0)]),
  Td.sc (Value.int IntKind.i64 (0 : Int)),
  Td.sc (Value.int IntKind.i64 (0 : Int)),
  Td.fr 1 3 0
  (selT 1 3
  [Td.sc
  (Value.int IntKind.i64
  (IntKind.wrap IntKind.i64
  (Int.tmod
  (U2.a (List.getD l 3 Enc.dflt))
  (8 : Int)))),
  Td.sc
  (Value.int IntKind.i64
  (IntKind.wrap IntKind.i64
  (Int.tmod
  (U2.a (List.getD l 4 Enc.dflt))
  (8 : Int)))),
  Td.sc
  (Value.int IntKind.i64
  (IntKind.wrap IntKind.i64
  (Int.tmod
  (U2.a (List.getD l 5 Enc.dflt))
  (8 : Int))))]),
  Td.fr 3 3 0
  (selT 3 3
  [Td.sc (Value.int IntKind.i64 (2 : Int)),
  Td.sc
  (Value.int IntKind.i64
  (IntKind.wrap IntKind.i64
  (U2.b (List.getD l 3 Enc.dflt)))),
  Td.sc (Value.float FloatKind.f64 0),
  Td.sc (Value.int IntKind.i64 (2 : Int)),
  Td.sc
  (Value.int IntKind.i64
  (IntKind.wrap IntKind.i64
  (U2.b (List.getD l 4 Enc.dflt)))),
  Td.sc (Value.float FloatKind.f64 0),
  Td.sc (Value.int IntKind.i64 (2 : Int)),
  Td.sc
  (Value.int IntKind.i64
  (IntKind.wrap IntKind.i64
  (U2.b (List.getD l 5 Enc.dflt)))),
  Td.sc (Value.float FloatKind.f64 0)]),
  Td.sc (Value.int IntKind.i64 (0 : Int)),
  Td.sc (Value.int IntKind.i64 (0 : Int)),
  Td.fr 1 3 0
  (selT 1 3
  [Td.sc
  (Value.int IntKind.i64
  (IntKind.wrap IntKind.i64
  (Int.tmod
  (U2.a (List.getD l 6 Enc.dflt))
  (8 : Int)))),
  Td.sc
  (Value.int IntKind.i64
  (IntKind.wrap IntKind.i64
  (Int.tmod
  (U2.a (List.getD l 7 Enc.dflt))
  (8 : Int)))),
  Td.sc
  (Value.int IntKind.i64
  (IntKind.wrap IntKind.i64
  (Int.tmod
  (U2.a (List.getD l 8 Enc.dflt))
  (8 : Int))))]),
  Td.fr 3 3 0
  (selT 3 3
  [Td.sc (Value.int IntKind.i64 (2 : Int)),
  Td.sc
  (Value.int IntKind.i64
  (IntKind.wrap IntKind.i64
  (U2.b (List.getD l 6 Enc.dflt)))),
  Td.sc (Value.float FloatKind.f64 0),
  Td.sc (Value.int IntKind.i64 (2 : Int)),
  Td.sc
  (Value.int IntKind.i64
  (IntKind.wrap IntKind.i64
  (U2.b (List.getD l 7 Enc.dflt)))),
  Td.sc (Value.float FloatKind.f64 0),
  Td.sc (Value.int IntKind.i64 (2 : Int)),
  Td.sc
  (Value.int IntKind.i64
  (IntKind.wrap IntKind.i64
  (U2.b (List.getD l 8 Enc.dflt)))),
  Td.sc (Value.float FloatKind.f64 0)])])),
  Ta.cell
  (Td.fr 3 (List.length A) 0 fun i =>
  encL A (0 + i))])
  (need
  (true &&
  Nat.ble
  (0 +
  List.length
  (drL
  [Wr.mk (0 : Int) (0 : Int)
  [IntKind.wrap IntKind.i64
  (Int.tmod (U2.a (List.getD l 0 Enc.dflt))
  (8 : Int)),
  IntKind.wrap IntKind.i64
  (Int.tmod (U2.a (List.getD l 1 Enc.dflt))
  (8 : Int)),
  IntKind.wrap IntKind.i64
  (Int.tmod (U2.a (List.getD l 2 Enc.dflt))
  (8 : Int))]
  0
  [Vl.mk (2 : Int)
  (IntKind.wrap IntKind.i64
  (U2.b (List.getD l 0 Enc.dflt)))
  0,
  Vl.mk (2 : Int)
  (IntKind.wrap IntKind.i64
  (U2.b (List.getD l 1 Enc.dflt)))
  0,
  Vl.mk (2 : Int)
  (IntKind.wrap IntKind.i64
  (U2.b (List.getD l 2 Enc.dflt)))
  0]
  0,
  Wr.mk (0 : Int) (0 : Int)
  [IntKind.wrap IntKind.i64
  (Int.tmod (U2.a (List.getD l 3 Enc.dflt))
  (8 : Int)),
  IntKind.wrap IntKind.i64
  (Int.tmod (U2.a (List.getD l 4 Enc.dflt))
  (8 : Int)),
  IntKind.wrap IntKind.i64
  (Int.tmod (U2.a (List.getD l 5 Enc.dflt))
  (8 : Int))]
  0
  [Vl.mk (2 : Int)
  (IntKind.wrap IntKind.i64
  (U2.b (List.getD l 3 Enc.dflt)))
  0,
  Vl.mk (2 : Int)
  (IntKind.wrap IntKind.i64
  (U2.b (List.getD l 4 Enc.dflt)))
  0,
  Vl.mk (2 : Int)
  (IntKind.wrap IntKind.i64
  (U2.b (List.getD l 5 Enc.dflt)))
  0]
  0,
  Wr.mk (0 : Int) (0 : Int)
  [IntKind.wrap IntKind.i64
  (Int.tmod (U2.a (List.getD l 6 Enc.dflt))
  (8 : Int)),
  IntKind.wrap IntKind.i64
  (Int.tmod (U2.a (List.getD l 7 Enc.dflt))
  (8 : Int)),
  IntKind.wrap IntKind.i64
  (Int.tmod (U2.a (List.getD l 8 Enc.dflt))
  (8 : Int))]
  0
  [Vl.mk (2 : Int)
  (IntKind.wrap IntKind.i64
  (U2.b (List.getD l 6 Enc.dflt)))
  0,
  Vl.mk (2 : Int)
  (IntKind.wrap IntKind.i64
  (U2.b (List.getD l 7 Enc.dflt)))
  0,
  Vl.mk (2 : Int)
  (IntKind.wrap IntKind.i64
  (U2.b (List.getD l 8 Enc.dflt)))
  0]
  0]
  (listT Vl
  (Td.fr 3 (List.length A) 0 fun i =>
  encL A (0 + i)))
  (List.length
  [Wr.mk (0 : Int) (0 : Int)
  [IntKind.wrap IntKind.i64
  (Int.tmod
  (U2.a (List.getD l 0 Enc.dflt))
  (8 : Int)),
  IntKind.wrap IntKind.i64
  (Int.tmod
  (U2.a (List.getD l 1 Enc.dflt))
  (8 : Int)),
  IntKind.wrap IntKind.i64
  (Int.tmod
  (U2.a (List.getD l 2 Enc.dflt))
  (8 : Int))]
  0
  [Vl.mk (2 : Int)
  (IntKind.wrap IntKind.i64
  (U2.b (List.getD l 0 Enc.dflt)))
  0,
  Vl.mk (2 : Int)
  (IntKind.wrap IntKind.i64
  (U2.b (List.getD l 1 Enc.dflt)))
  0,
  Vl.mk (2 : Int)
  (IntKind.wrap IntKind.i64
  (U2.b (List.getD l 2 Enc.dflt)))
  0]
  0,
  Wr.mk (0 : Int) (0 : Int)
  [IntKind.wrap IntKind.i64
  (Int.tmod
  (U2.a (List.getD l 3 Enc.dflt))
  (8 : Int)),
  IntKind.wrap IntKind.i64
  (Int.tmod
  (U2.a (List.getD l 4 Enc.dflt))
  (8 : Int)),
  IntKind.wrap IntKind.i64
  (Int.tmod
  (U2.a (List.getD l 5 Enc.dflt))
  (8 : Int))]
  0
  [Vl.mk (2 : Int)
  (IntKind.wrap IntKind.i64
  (U2.b (List.getD l 3 Enc.dflt)))
  0,
  Vl.mk (2 : Int)
  (IntKind.wrap IntKind.i64
  (U2.b (List.getD l 4 Enc.dflt)))
  0,
  Vl.mk (2 : Int)
  (IntKind.wrap IntKind.i64
  (U2.b (List.getD l 5 Enc.dflt)))
  0]
  0,
  Wr.mk (0 : Int) (0 : Int)
  [IntKind.wrap IntKind.i64
  (Int.tmod
  (U2.a (List.getD l 6 Enc.dflt))
  (8 : Int)),
  IntKind.wrap IntKind.i64
  (Int.tmod
  (U2.a (List.getD l 7 Enc.dflt))
  (8 : Int)),
  IntKind.wrap IntKind.i64
  (Int.tmod
  (U2.a (List.getD l 8 Enc.dflt))
  (8 : Int))]
  0
  [Vl.mk (2 : Int)
  (IntKind.wrap IntKind.i64
  (U2.b (List.getD l 6 Enc.dflt)))
  0,
  Vl.mk (2 : Int)
  (IntKind.wrap IntKind.i64
  (U2.b (List.getD l 7 Enc.dflt)))
  0,
  Vl.mk (2 : Int)
  (IntKind.wrap IntKind.i64
  (U2.b (List.getD l 8 Enc.dflt)))
  0]
  0])))
  (List.length
  (drL
  [Wr.mk (0 : Int) (0 : Int)
  [IntKind.wrap IntKind.i64
  (Int.tmod (U2.a (List.getD l 0 Enc.dflt))
  (8 : Int)),
  IntKind.wrap IntKind.i64
  (Int.tmod (U2.a (List.getD l 1 Enc.dflt))
  (8 : Int)),
  IntKind.wrap IntKind.i64
  (Int.tmod (U2.a (List.getD l 2 Enc.dflt))
  (8 : Int))]
  0
  [Vl.mk (2 : Int)
  (IntKind.wrap IntKind.i64
  (U2.b (List.getD l 0 Enc.dflt)))
  0,
  Vl.mk (2 : Int)
  (IntKind.wrap IntKind.i64
  (U2.b (List.getD l 1 Enc.dflt)))
  0,
  Vl.mk (2 : Int)
  (IntKind.wrap IntKind.i64
  (U2.b (List.getD l 2 Enc.dflt)))
  0]
  0,
  Wr.mk (0 : Int) (0 : Int)
  [IntKind.wrap IntKind.i64
  (Int.tmod (U2.a (List.getD l 3 Enc.dflt))
  (8 : Int)),
  IntKind.wrap IntKind.i64
  (Int.tmod (U2.a (List.getD l 4 Enc.dflt))
  (8 : Int)),
  IntKind.wrap IntKind.i64
  (Int.tmod (U2.a (List.getD l 5 Enc.dflt))
  (8 : Int))]
  0
  [Vl.mk (2 : Int)
  (IntKind.wrap IntKind.i64
  (U2.b (List.getD l 3 Enc.dflt)))
  0,
  Vl.mk (2 : Int)
  (IntKind.wrap IntKind.i64
  (U2.b (List.getD l 4 Enc.dflt)))
  0,
  Vl.mk (2 : Int)
  (IntKind.wrap IntKind.i64
  (U2.b (List.getD l 5 Enc.dflt)))
  0]
  0,
  Wr.mk (0 : Int) (0 : Int)
  [IntKind.wrap IntKind.i64
  (Int.tmod (U2.a (List.getD l 6 Enc.dflt))
  (8 : Int)),
  IntKind.wrap IntKind.i64
  (Int.tmod (U2.a (List.getD l 7 Enc.dflt))
  (8 : Int)),
  IntKind.wrap IntKind.i64
  (Int.tmod (U2.a (List.getD l 8 Enc.dflt))
  (8 : Int))]
  0
  [Vl.mk (2 : Int)
  (IntKind.wrap IntKind.i64
  (U2.b (List.getD l 6 Enc.dflt)))
  0,
  Vl.mk (2 : Int)
  (IntKind.wrap IntKind.i64
  (U2.b (List.getD l 7 Enc.dflt)))
  0,
  Vl.mk (2 : Int)
  (IntKind.wrap IntKind.i64
  (U2.b (List.getD l 8 Enc.dflt)))
  0]
  0]
  (listT Vl
  (Td.fr 3 (List.length A) 0 fun i =>
  encL A (0 + i)))
  (List.length
  [Wr.mk (0 : Int) (0 : Int)
  [IntKind.wrap IntKind.i64
  (Int.tmod (U2.a (List.getD l 0 Enc.dflt))
  (8 : Int)),
  IntKind.wrap IntKind.i64
  (Int.tmod (U2.a (List.getD l 1 Enc.dflt))
  (8 : Int)),
  IntKind.wrap IntKind.i64
  (Int.tmod (U2.a (List.getD l 2 Enc.dflt))
  (8 : Int))]
  0
  [Vl.mk (2 : Int)
  (IntKind.wrap IntKind.i64
  (U2.b (List.getD l 0 Enc.dflt)))
  0,
  Vl.mk (2 : Int)
  (IntKind.wrap IntKind.i64
  (U2.b (List.getD l 1 Enc.dflt)))
  0,
  Vl.mk (2 : Int)
  (IntKind.wrap IntKind.i64
  (U2.b (List.getD l 2 Enc.dflt)))
  0]
  0,
  Wr.mk (0 : Int) (0 : Int)
  [IntKind.wrap IntKind.i64
  (Int.tmod (U2.a (List.getD l 3 Enc.dflt))
  (8 : Int)),
  IntKind.wrap IntKind.i64
  (Int.tmod (U2.a (List.getD l 4 Enc.dflt))
  (8 : Int)),
  IntKind.wrap IntKind.i64
  (Int.tmod (U2.a (List.getD l 5 Enc.dflt))
  (8 : Int))]
  0
  [Vl.mk (2 : Int)
  (IntKind.wrap IntKind.i64
  (U2.b (List.getD l 3 Enc.dflt)))
  0,
  Vl.mk (2 : Int)
  (IntKind.wrap IntKind.i64
  (U2.b (List.getD l 4 Enc.dflt)))
  0,
  Vl.mk (2 : Int)
  (IntKind.wrap IntKind.i64
  (U2.b (List.getD l 5 Enc.dflt)))
  0]
  0,
  Wr.mk (0 : Int) (0 : Int)
  [IntKind.wrap IntKind.i64
  (Int.tmod (U2.a (List.getD l 6 Enc.dflt))
  (8 : Int)),
  IntKind.wrap IntKind.i64
  (Int.tmod (U2.a (List.getD l 7 Enc.dflt))
  (8 : Int)),
  IntKind.wrap IntKind.i64
  (Int.tmod (U2.a (List.getD l 8 Enc.dflt))
  (8 : Int))]
  0
  [Vl.mk (2 : Int)
  (IntKind.wrap IntKind.i64
  (U2.b (List.getD l 6 Enc.dflt)))
  0,
  Vl.mk (2 : Int)
  (IntKind.wrap IntKind.i64
  (U2.b (List.getD l 7 Enc.dflt)))
  0,
  Vl.mk (2 : Int)
  (IntKind.wrap IntKind.i64
  (U2.b (List.getD l 8 Enc.dflt)))
  0]
  0]))))
  (need
  (true &&
  Nat.ble (0 + List.length (wantN l A 9))
  (List.length (wantN l A 9)))
  (need
  (ok2 Vl Vl (fun x x_1 x_2 x_3 => true)
  [Ta.cell
  (Td.fr 3
  (List.length
  (drL
  [Wr.mk (0 : Int) (0 : Int)
  [IntKind.wrap IntKind.i64
  (Int.tmod
  (U2.a (List.getD l 0 Enc.dflt))
  (8 : Int)),
  IntKind.wrap IntKind.i64
  (Int.tmod
  (U2.a (List.getD l 1 Enc.dflt))
  (8 : Int)),
  IntKind.wrap IntKind.i64
  (Int.tmod
  (U2.a (List.getD l 2 Enc.dflt))
  (8 : Int))]
  0
  [Vl.mk (2 : Int)
  (IntKind.wrap IntKind.i64
  (U2.b (List.getD l 0 Enc.dflt)))
  0,
  Vl.mk (2 : Int)
  (IntKind.wrap IntKind.i64
  (U2.b (List.getD l 1 Enc.dflt)))
  0,
  Vl.mk (2 : Int)
  (IntKind.wrap IntKind.i64
  (U2.b (List.getD l 2 Enc.dflt)))
  0]
  0,
  Wr.mk (0 : Int) (0 : Int)
  [IntKind.wrap IntKind.i64
  (Int.tmod
  (U2.a (List.getD l 3 Enc.dflt))
  (8 : Int)),
  IntKind.wrap IntKind.i64
  (Int.tmod
  (U2.a (List.getD l 4 Enc.dflt))
  (8 : Int)),
  IntKind.wrap IntKind.i64
  (Int.tmod
  (U2.a (List.getD l 5 Enc.dflt))
  (8 : Int))]
  0
  [Vl.mk (2 : Int)
  (IntKind.wrap IntKind.i64
  (U2.b (List.getD l 3 Enc.dflt)))
  0,
  Vl.mk (2 : Int)
  (IntKind.wrap IntKind.i64
  (U2.b (List.getD l 4 Enc.dflt)))
  0,
  Vl.mk (2 : Int)
  (IntKind.wrap IntKind.i64
  (U2.b (List.getD l 5 Enc.dflt)))
  0]
  0,
  Wr.mk (0 : Int) (0 : Int)
  [IntKind.wrap IntKind.i64
  (Int.tmod
  (U2.a (List.getD l 6 Enc.dflt))
  (8 : Int)),
  IntKind.wrap IntKind.i64
  (Int.tmod
  (U2.a (List.getD l 7 Enc.dflt))
  (8 : Int)),
  IntKind.wrap IntKind.i64
  (Int.tmod
  (U2.a (List.getD l 8 Enc.dflt))
  (8 : Int))]
  0
  [Vl.mk (2 : Int)
  (IntKind.wrap IntKind.i64
  (U2.b (List.getD l 6 Enc.dflt)))
  0,
  Vl.mk (2 : Int)
  (IntKind.wrap IntKind.i64
  (U2.b (List.getD l 7 Enc.dflt)))
  0,
  Vl.mk (2 : Int)
  (IntKind.wrap IntKind.i64
  (U2.b (List.getD l 8 Enc.dflt)))
  0]
  0]
  (listT Vl
  (Td.fr 3 (List.length A) 0
  fun i => encL A (0 + i)))
  (List.length
  [Wr.mk (0 : Int) (0 : Int)
  [IntKind.wrap IntKind.i64
  (Int.tmod
  (U2.a (List.getD l 0 Enc.dflt))
  (8 : Int)),
  IntKind.wrap IntKind.i64
  (Int.tmod
  (U2.a (List.getD l 1 Enc.dflt))
  (8 : Int)),
  IntKind.wrap IntKind.i64
  (Int.tmod
  (U2.a (List.getD l 2 Enc.dflt))
  (8 : Int))]
  0
  [Vl.mk (2 : Int)
  (IntKind.wrap IntKind.i64
  (U2.b (List.getD l 0 Enc.dflt)))
  0,
  Vl.mk (2 : Int)
  (IntKind.wrap IntKind.i64
  (U2.b (List.getD l 1 Enc.dflt)))
  0,
  Vl.mk (2 : Int)
  (IntKind.wrap IntKind.i64
  (U2.b (List.getD l 2 Enc.dflt)))
  0]
  0,
  Wr.mk (0 : Int) (0 : Int)
  [IntKind.wrap IntKind.i64
  (Int.tmod
  (U2.a (List.getD l 3 Enc.dflt))
  (8 : Int)),
  IntKind.wrap IntKind.i64
  (Int.tmod
  (U2.a (List.getD l 4 Enc.dflt))
  (8 : Int)),
  IntKind.wrap IntKind.i64
  (Int.tmod
  (U2.a (List.getD l 5 Enc.dflt))
  (8 : Int))]
  0
  [Vl.mk (2 : Int)
  (IntKind.wrap IntKind.i64
  (U2.b (List.getD l 3 Enc.dflt)))
  0,
  Vl.mk (2 : Int)
  (IntKind.wrap IntKind.i64
  (U2.b (List.getD l 4 Enc.dflt)))
  0,
  Vl.mk (2 : Int)
  (IntKind.wrap IntKind.i64
  (U2.b (List.getD l 5 Enc.dflt)))
  0]
  0,
  Wr.mk (0 : Int) (0 : Int)
  [IntKind.wrap IntKind.i64
  (Int.tmod
  (U2.a (List.getD l 6 Enc.dflt))
  (8 : Int)),
  IntKind.wrap IntKind.i64
  (Int.tmod
  (U2.a (List.getD l 7 Enc.dflt))
  (8 : Int)),
  IntKind.wrap IntKind.i64
  (Int.tmod
  (U2.a (List.getD l 8 Enc.dflt))
  (8 : Int))]
  0
  [Vl.mk (2 : Int)
  (IntKind.wrap IntKind.i64
  (U2.b (List.getD l 6 Enc.dflt)))
  0,
  Vl.mk (2 : Int)
  (IntKind.wrap IntKind.i64
  (U2.b (List.getD l 7 Enc.dflt)))
  0,
  Vl.mk (2 : Int)
  (IntKind.wrap IntKind.i64
  (U2.b (List.getD l 8 Enc.dflt)))
  0]
  0])))
  0 fun i =>
  encL
  (drL
  [Wr.mk (0 : Int) (0 : Int)
  [IntKind.wrap IntKind.i64
  (Int.tmod
  (U2.a (List.getD l 0 Enc.dflt))
  (8 : Int)),
  IntKind.wrap IntKind.i64
  (Int.tmod
  (U2.a (List.getD l 1 Enc.dflt))
  (8 : Int)),
  IntKind.wrap IntKind.i64
  (Int.tmod
  (U2.a (List.getD l 2 Enc.dflt))
  (8 : Int))]
  0
  [Vl.mk (2 : Int)
  (IntKind.wrap IntKind.i64
  (U2.b (List.getD l 0 Enc.dflt)))
  0,
  Vl.mk (2 : Int)
  (IntKind.wrap IntKind.i64
  (U2.b (List.getD l 1 Enc.dflt)))
  0,
  Vl.mk (2 : Int)
  (IntKind.wrap IntKind.i64
  (U2.b (List.getD l 2 Enc.dflt)))
  0]
  0,
  Wr.mk (0 : Int) (0 : Int)
  [IntKind.wrap IntKind.i64
  (Int.tmod
  (U2.a (List.getD l 3 Enc.dflt))
  (8 : Int)),
  IntKind.wrap IntKind.i64
  (Int.tmod
  (U2.a (List.getD l 4 Enc.dflt))
  (8 : Int)),
  IntKind.wrap IntKind.i64
  (Int.tmod
  (U2.a (List.getD l 5 Enc.dflt))
  (8 : Int))]
  0
  [Vl.mk (2 : Int)
  (IntKind.wrap IntKind.i64
  (U2.b (List.getD l 3 Enc.dflt)))
  0,
  Vl.mk (2 : Int)
  (IntKind.wrap IntKind.i64
  (U2.b (List.getD l 4 Enc.dflt)))
  0,
  Vl.mk (2 : Int)
  (IntKind.wrap IntKind.i64
  (U2.b (List.getD l 5 Enc.dflt)))
  0]
  0,
  Wr.mk (0 : Int) (0 : Int)
  [IntKind.wrap IntKind.i64
  (Int.tmod
  (U2.a (List.getD l 6 Enc.dflt))
  (8 : Int)),
  IntKind.wrap IntKind.i64
  (Int.tmod
  (U2.a (List.getD l 7 Enc.dflt))
  (8 : Int)),
  IntKind.wrap IntKind.i64
  (Int.tmod
  (U2.a (List.getD l 8 Enc.dflt))
  (8 : Int))]
  0
  [Vl.mk (2 : Int)
  (IntKind.wrap IntKind.i64
  (U2.b (List.getD l 6 Enc.dflt)))
  0,
  Vl.mk (2 : Int)
  (IntKind.wrap IntKind.i64
  (U2.b (List.getD l 7 Enc.dflt)))
  0,
  Vl.mk (2 : Int)
  (IntKind.wrap IntKind.i64
  (U2.b (List.getD l 8 Enc.dflt)))
  0]
  0]
  (listT Vl
  (Td.fr 3 (List.length A) 0
  fun i => encL A (0 + i)))
  (List.length
  [Wr.mk (0 : Int) (0 : Int)
  [IntKind.wrap IntKind.i64
  (Int.tmod
  (U2.a (List.getD l 0 Enc.dflt))
  (8 : Int)),
  IntKind.wrap IntKind.i64
  (Int.tmod
  (U2.a (List.getD l 1 Enc.dflt))
  (8 : Int)),
  IntKind.wrap IntKind.i64
  (Int.tmod
  (U2.a (List.getD l 2 Enc.dflt))
  (8 : Int))]
  0
  [Vl.mk (2 : Int)
  (IntKind.wrap IntKind.i64
  (U2.b (List.getD l 0 Enc.dflt)))
  0,
  Vl.mk (2 : Int)
  (IntKind.wrap IntKind.i64
  (U2.b (List.getD l 1 Enc.dflt)))
  0,
  Vl.mk (2 : Int)
  (IntKind.wrap IntKind.i64
  (U2.b (List.getD l 2 Enc.dflt)))
  0]
  0,
  Wr.mk (0 : Int) (0 : Int)
  [IntKind.wrap IntKind.i64
  (Int.tmod
  (U2.a (List.getD l 3 Enc.dflt))
  (8 : Int)),
  IntKind.wrap IntKind.i64
  (Int.tmod
  (U2.a (List.getD l 4 Enc.dflt))
  (8 : Int)),
  IntKind.wrap IntKind.i64
  (Int.tmod
  (U2.a (List.getD l 5 Enc.dflt))
  (8 : Int))]
  0
  [Vl.mk (2 : Int)
  (IntKind.wrap IntKind.i64
  (U2.b (List.getD l 3 Enc.dflt)))
  0,
  Vl.mk (2 : Int)
  (IntKind.wrap IntKind.i64
  (U2.b (List.getD l 4 Enc.dflt)))
  0,
  Vl.mk (2 : Int)
  (IntKind.wrap IntKind.i64
  (U2.b (List.getD l 5 Enc.dflt)))
  0]
  0,
  Wr.mk (0 : Int) (0 : Int)
  [IntKind.wrap IntKind.i64
  (Int.tmod
  (U2.a (List.getD l 6 Enc.dflt))
  (8 : Int)),
  IntKind.wrap IntKind.i64
  (Int.tmod
  (U2.a (List.getD l 7 Enc.dflt))
  (8 : Int)),
  IntKind.wrap IntKind.i64
  (Int.tmod
  (U2.a (List.getD l 8 Enc.dflt))
  (8 : Int))]
  0
  [Vl.mk (2 : Int)
  (IntKind.wrap IntKind.i64
  (U2.b (List.getD l 6 Enc.dflt)))
  0,
  Vl.mk (2 : Int)
  (IntKind.wrap IntKind.i64
  (U2.b (List.getD l 7 Enc.dflt)))
  0,
  Vl.mk (2 : Int)
  (IntKind.wrap IntKind.i64
  (U2.b (List.getD l 8 Enc.dflt)))
  0]
  0]))
  (0 + i)),
  Ta.cell
  (Td.fr 3 (List.length (wantN l A 9))
  0 fun i =>
  encL (wantN l A 9) (0 + i))])
  (need
  (sameVs
  (listT Vl
  (Td.fr 3
  (List.length
  (drL
  [Wr.mk (0 : Int) (0 : Int)
  [IntKind.wrap IntKind.i64
  (Int.tmod
  (U2.a (List.getD l 0 Enc.dflt))
  (8 : Int)),
  IntKind.wrap IntKind.i64
  (Int.tmod
  (U2.a (List.getD l 1 Enc.dflt))
  (8 : Int)),
  IntKind.wrap IntKind.i64
  (Int.tmod
  (U2.a (List.getD l 2 Enc.dflt))
  (8 : Int))]
  0
  [Vl.mk (2 : Int)
  (IntKind.wrap IntKind.i64
  (U2.b (List.getD l 0 Enc.dflt)))
  0,
  Vl.mk (2 : Int)
  (IntKind.wrap IntKind.i64
  (U2.b (List.getD l 1 Enc.dflt)))
  0,
  Vl.mk (2 : Int)
  (IntKind.wrap IntKind.i64
  (U2.b (List.getD l 2 Enc.dflt)))
  0]
  0,
  Wr.mk (0 : Int) (0 : Int)
  [IntKind.wrap IntKind.i64
  (Int.tmod
  (U2.a (List.getD l 3 Enc.dflt))
  (8 : Int)),
  IntKind.wrap IntKind.i64
  (Int.tmod
  (U2.a (List.getD l 4 Enc.dflt))
  (8 : Int)),
  IntKind.wrap IntKind.i64
  (Int.tmod
  (U2.a (List.getD l 5 Enc.dflt))
  (8 : Int))]
  0
  [Vl.mk (2 : Int)
  (IntKind.wrap IntKind.i64
  (U2.b (List.getD l 3 Enc.dflt)))
  0,
  Vl.mk (2 : Int)
  (IntKind.wrap IntKind.i64
  (U2.b (List.getD l 4 Enc.dflt)))
  0,
  Vl.mk (2 : Int)
  (IntKind.wrap IntKind.i64
  (U2.b (List.getD l 5 Enc.dflt)))
  0]
  0,
  Wr.mk (0 : Int) (0 : Int)
  [IntKind.wrap IntKind.i64
  (Int.tmod
  (U2.a (List.getD l 6 Enc.dflt))
  (8 : Int)),
  IntKind.wrap IntKind.i64
  (Int.tmod
  (U2.a (List.getD l 7 Enc.dflt))
  (8 : Int)),
  IntKind.wrap IntKind.i64
  (Int.tmod
  (U2.a (List.getD l 8 Enc.dflt))
  (8 : Int))]
  0
  [Vl.mk (2 : Int)
  (IntKind.wrap IntKind.i64
  (U2.b (List.getD l 6 Enc.dflt)))
  0,
  Vl.mk (2 : Int)
  (IntKind.wrap IntKind.i64
  (U2.b (List.getD l 7 Enc.dflt)))
  0,
  Vl.mk (2 : Int)
  (IntKind.wrap IntKind.i64
  (U2.b (List.getD l 8 Enc.dflt)))
  0]
  0]
  (listT Vl
  (Td.fr 3 (List.length A) 0
  fun i => encL A (0 + i)))
  (List.length
  [Wr.mk (0 : Int) (0 : Int)
  [IntKind.wrap IntKind.i64
  (Int.tmod
  (U2.a (List.getD l 0 Enc.dflt))
  (8 : Int)),
  IntKind.wrap IntKind.i64
  (Int.tmod
  (U2.a (List.getD l 1 Enc.dflt))
  (8 : Int)),
  IntKind.wrap IntKind.i64
  (Int.tmod
  (U2.a (List.getD l 2 Enc.dflt))
  (8 : Int))]
  0
  [Vl.mk (2 : Int)
  (IntKind.wrap IntKind.i64
  (U2.b (List.getD l 0 Enc.dflt)))
  0,
  Vl.mk (2 : Int)
  (IntKind.wrap IntKind.i64
  (U2.b (List.getD l 1 Enc.dflt)))
  0,
  Vl.mk (2 : Int)
  (IntKind.wrap IntKind.i64
  (U2.b (List.getD l 2 Enc.dflt)))
  0]
  0,
  Wr.mk (0 : Int) (0 : Int)
  [IntKind.wrap IntKind.i64
  (Int.tmod
  (U2.a (List.getD l 3 Enc.dflt))
  (8 : Int)),
  IntKind.wrap IntKind.i64
  (Int.tmod
  (U2.a (List.getD l 4 Enc.dflt))
  (8 : Int)),
  IntKind.wrap IntKind.i64
  (Int.tmod
  (U2.a (List.getD l 5 Enc.dflt))
  (8 : Int))]
  0
  [Vl.mk (2 : Int)
  (IntKind.wrap IntKind.i64
  (U2.b (List.getD l 3 Enc.dflt)))
  0,
  Vl.mk (2 : Int)
  (IntKind.wrap IntKind.i64
  (U2.b (List.getD l 4 Enc.dflt)))
  0,
  Vl.mk (2 : Int)
  (IntKind.wrap IntKind.i64
  (U2.b (List.getD l 5 Enc.dflt)))
  0]
  0,
  Wr.mk (0 : Int) (0 : Int)
  [IntKind.wrap IntKind.i64
  (Int.tmod
  (U2.a (List.getD l 6 Enc.dflt))
  (8 : Int)),
  IntKind.wrap IntKind.i64
  (Int.tmod
  (U2.a (List.getD l 7 Enc.dflt))
  (8 : Int)),
  IntKind.wrap IntKind.i64
  (Int.tmod
  (U2.a (List.getD l 8 Enc.dflt))
  (8 : Int))]
  0
  [Vl.mk (2 : Int)
  (IntKind.wrap IntKind.i64
  (U2.b (List.getD l 6 Enc.dflt)))
  0,
  Vl.mk (2 : Int)
  (IntKind.wrap IntKind.i64
  (U2.b (List.getD l 7 Enc.dflt)))
  0,
  Vl.mk (2 : Int)
  (IntKind.wrap IntKind.i64
  (U2.b (List.getD l 8 Enc.dflt)))
  0]
  0])))
  0 fun i =>
  encL
  (drL
  [Wr.mk (0 : Int) (0 : Int)
  [IntKind.wrap IntKind.i64
  (Int.tmod
  (U2.a (List.getD l 0 Enc.dflt))
  (8 : Int)),
  IntKind.wrap IntKind.i64
  (Int.tmod
  (U2.a (List.getD l 1 Enc.dflt))
  (8 : Int)),
  IntKind.wrap IntKind.i64
  (Int.tmod
  (U2.a (List.getD l 2 Enc.dflt))
  (8 : Int))]
  0
  [Vl.mk (2 : Int)
  (IntKind.wrap IntKind.i64
  (U2.b (List.getD l 0 Enc.dflt)))
  0,
  Vl.mk (2 : Int)
  (IntKind.wrap IntKind.i64
  (U2.b (List.getD l 1 Enc.dflt)))
  0,
  Vl.mk (2 : Int)
  (IntKind.wrap IntKind.i64
  (U2.b (List.getD l 2 Enc.dflt)))
  0]
  0,
  Wr.mk (0 : Int) (0 : Int)
  [IntKind.wrap IntKind.i64
  (Int.tmod
  (U2.a (List.getD l 3 Enc.dflt))
  (8 : Int)),
  IntKind.wrap IntKind.i64
  (Int.tmod
  (U2.a (List.getD l 4 Enc.dflt))
  (8 : Int)),
  IntKind.wrap IntKind.i64
  (Int.tmod
  (U2.a (List.getD l 5 Enc.dflt))
  (8 : Int))]
  0
  [Vl.mk (2 : Int)
  (IntKind.wrap IntKind.i64
  (U2.b (List.getD l 3 Enc.dflt)))
  0,
  Vl.mk (2 : Int)
  (IntKind.wrap IntKind.i64
  (U2.b (List.getD l 4 Enc.dflt)))
  0,
  Vl.mk (2 : Int)
  (IntKind.wrap IntKind.i64
  (U2.b (List.getD l 5 Enc.dflt)))
  0]
  0,
  Wr.mk (0 : Int) (0 : Int)
  [IntKind.wrap IntKind.i64
  (Int.tmod
  (U2.a (List.getD l 6 Enc.dflt))
  (8 : Int)),
  IntKind.wrap IntKind.i64
  (Int.tmod
  (U2.a (List.getD l 7 Enc.dflt))
  (8 : Int)),
  IntKind.wrap IntKind.i64
  (Int.tmod
  (U2.a (List.getD l 8 Enc.dflt))
  (8 : Int))]
  0
  [Vl.mk (2 : Int)
  (IntKind.wrap IntKind.i64
  (U2.b (List.getD l 6 Enc.dflt)))
  0,
  Vl.mk (2 : Int)
  (IntKind.wrap IntKind.i64
  (U2.b (List.getD l 7 Enc.dflt)))
  0,
  Vl.mk (2 : Int)
  (IntKind.wrap IntKind.i64
  (U2.b (List.getD l 8 Enc.dflt)))
  0]
  0]
  (listT Vl
  (Td.fr 3 (List.length A) 0
  fun i => encL A (0 + i)))
  (List.length
  [Wr.mk (0 : Int) (0 : Int)
  [IntKind.wrap IntKind.i64
  (Int.tmod
  (U2.a (List.getD l 0 Enc.dflt))
  (8 : Int)),
  IntKind.wrap IntKind.i64
  (Int.tmod
  (U2.a (List.getD l 1 Enc.dflt))
  (8 : Int)),
  IntKind.wrap IntKind.i64
  (Int.tmod
  (U2.a (List.getD l 2 Enc.dflt))
  (8 : Int))]
  0
  [Vl.mk (2 : Int)
  (IntKind.wrap IntKind.i64
  (U2.b (List.getD l 0 Enc.dflt)))
  0,
  Vl.mk (2 : Int)
  (IntKind.wrap IntKind.i64
  (U2.b (List.getD l 1 Enc.dflt)))
  0,
  Vl.mk (2 : Int)
  (IntKind.wrap IntKind.i64
  (U2.b (List.getD l 2 Enc.dflt)))
  0]
  0,
  Wr.mk (0 : Int) (0 : Int)
  [IntKind.wrap IntKind.i64
  (Int.tmod
  (U2.a (List.getD l 3 Enc.dflt))
  (8 : Int)),
  IntKind.wrap IntKind.i64
  (Int.tmod
  (U2.a (List.getD l 4 Enc.dflt))
  (8 : Int)),
  IntKind.wrap IntKind.i64
  (Int.tmod
  (U2.a (List.getD l 5 Enc.dflt))
  (8 : Int))]
  0
  [Vl.mk (2 : Int)
  (IntKind.wrap IntKind.i64
  (U2.b (List.getD l 3 Enc.dflt)))
  0,
  Vl.mk (2 : Int)
  (IntKind.wrap IntKind.i64
  (U2.b (List.getD l 4 Enc.dflt)))
  0,
  Vl.mk (2 : Int)
  (IntKind.wrap IntKind.i64
  (U2.b (List.getD l 5 Enc.dflt)))
  0]
  0,
  Wr.mk (0 : Int) (0 : Int)
  [IntKind.wrap IntKind.i64
  (Int.tmod
  (U2.a (List.getD l 6 Enc.dflt))
  (8 : Int)),
  IntKind.wrap IntKind.i64
  (Int.tmod
  (U2.a (List.getD l 7 Enc.dflt))
  (8 : Int)),
  IntKind.wrap IntKind.i64
  (Int.tmod
  (U2.a (List.getD l 8 Enc.dflt))
  (8 : Int))]
  0
  [Vl.mk (2 : Int)
  (IntKind.wrap IntKind.i64
  (U2.b (List.getD l 6 Enc.dflt)))
  0,
  Vl.mk (2 : Int)
  (IntKind.wrap IntKind.i64
  (U2.b (List.getD l 7 Enc.dflt)))
  0,
  Vl.mk (2 : Int)
  (IntKind.wrap IntKind.i64
  (U2.b (List.getD l 8 Enc.dflt)))
  0]
  0]))
  (0 + i)))
  (listT Vl
  (Td.fr 3 (List.length (wantN l A 9))
  0 fun i =>
  encL (wantN l A 9) (0 + i))))
  True)))))))))))))) := by kernel_rfl
end Go.Proofs.Ytpejhdbllphdaaa.Ev
