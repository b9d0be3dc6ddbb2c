/-
  What has to hold: printed by the evaluator.
-/
import Derived.Test.YtpejhdbllphdaaaU2
set_option linter.unusedVariables false
set_option maxRecDepth 1000000
namespace Go.Proofs.Ytpejhdbllphdaaa.Ev
open Go Go.Proofs
def slL (b : Nat) : List Nat := cond (Nat.beq b 0) [0, 5, 6, 7, 8] [0, 5, 6, 7, 9, 10]
def lvL : AX → List Nat := fun x => slL 2
def lvL0 : AX → List Nat := fun x => slL 0
def F1 (l : List U2) (A B : List Vl) (c : Nat) (N k : Int) : AFr := mkF 118 [(0, .slice (some ⟨0, 0, some 0⟩) l.length c), (5, .int .i64 N), (6, .slice (some ⟨1, 0, some 0⟩) A.length 0), (7, .slice (some ⟨2, 0, some 0⟩) B.length 0), (8, .int .i64 k)]
def S1 (l : List U2) (A B : List Vl) : ASt := mkS [some (rowO .still l), some (rowO .mine A), some (rowO .mine B)]
def F2_0 (l : List U2) (A W : List Vl) (c : Nat) (N : Int) : AFr := mkF 118 [(0, .slice (some ⟨0, 0, some 0⟩) l.length c), (5, .int .i64 N), (6, .slice (some ⟨1, 0, some 0⟩) A.length 0), (7, .slice (some ⟨2, 0, some 0⟩) W.length 0), (9, .slice none 0 0), (10, .int .i64 0)]
def S2_0 (l : List U2) (A W : List Vl) : ASt := mkS [some (rowO .still l), some (rowO .mine A), some (rowO .mine W)]
def F2_1 (l : List U2) (A W : List Vl) (c : Nat) (N : Int) : AFr := mkF 118 [(0, Value.slice (some (Addr.mk 0 0 (some 0))) (List.length l) c), (5, Value.int IntKind.i64 N), (6, Value.slice (some (Addr.mk 1 0 (some 0))) (List.length A) 0), (7, Value.slice (some (Addr.mk 2 0 (some 0))) (List.length W) 0), (9, Value.slice (some (Addr.mk 3 0 none)) 1 1), (10, Value.int IntKind.i64 (1 : Int))]
def S2_1 (l : List U2) (A W : List Vl) : ASt := mkS [some (AObj.row Rk.still 2 0 (List.length l) (encL l)), some (AObj.row Rk.mine 3 0 (List.length A) (encL A)), some (AObj.row Rk.mine 3 0 (List.length W) (encL W)), some (AObj.cells [Value.int IntKind.i64 (0 : Int), Value.int IntKind.i64 (0 : Int), Value.slice (some (Addr.mk 4 0 none)) 1 1, Value.slice (some (Addr.mk 5 0 none)) 1 1] false 4), some (AObj.cells [Value.int IntKind.i64 (IntKind.wrap IntKind.i64 (Int.tmod (U2.a (List.getD l 0 Enc.dflt)) (8 : Int)))] false 1), some (AObj.cells [Value.int IntKind.i64 (2 : Int), Value.int IntKind.i64 (IntKind.wrap IntKind.i64 (U2.b (List.getD l 0 Enc.dflt))), Value.float FloatKind.f64 0] false 3)]
def F2_2 (l : List U2) (A W : List Vl) (c : Nat) (N : Int) : AFr := mkF 118 [(0, Value.slice (some (Addr.mk 0 0 (some 0))) (List.length l) c), (5, Value.int IntKind.i64 N), (6, Value.slice (some (Addr.mk 1 0 (some 0))) (List.length A) 0), (7, Value.slice (some (Addr.mk 2 0 (some 0))) (List.length W) 0), (9, Value.slice (some (Addr.mk 3 0 none)) 1 1), (10, Value.int IntKind.i64 (2 : Int))]
def S2_2 (l : List U2) (A W : List Vl) : ASt := mkS [some (AObj.row Rk.still 2 0 (List.length l) (encL l)), some (AObj.row Rk.mine 3 0 (List.length A) (encL A)), some (AObj.row Rk.mine 3 0 (List.length W) (encL W)), some (AObj.cells [Value.int IntKind.i64 (0 : Int), Value.int IntKind.i64 (0 : Int), Value.slice (some (Addr.mk 4 0 none)) 2 2, Value.slice (some (Addr.mk 5 0 none)) 2 2] false 4), some (AObj.cells [Value.int IntKind.i64 (IntKind.wrap IntKind.i64 (Int.tmod (U2.a (List.getD l 0 Enc.dflt)) (8 : Int))), Value.int IntKind.i64 (IntKind.wrap IntKind.i64 (Int.tmod (U2.a (List.getD l 1 Enc.dflt)) (8 : Int)))] false 1), some (AObj.cells [Value.int IntKind.i64 (2 : Int), Value.int IntKind.i64 (IntKind.wrap IntKind.i64 (U2.b (List.getD l 0 Enc.dflt))), Value.float FloatKind.f64 0, Value.int IntKind.i64 (2 : Int), Value.int IntKind.i64 (IntKind.wrap IntKind.i64 (U2.b (List.getD l 1 Enc.dflt))), Value.float FloatKind.f64 0] false 3)]
def F2_3 (l : List U2) (A W : List Vl) (c : Nat) (N : Int) : AFr := mkF 118 [(0, Value.slice (some (Addr.mk 0 0 (some 0))) (List.length l) c), (5, Value.int IntKind.i64 N), (6, Value.slice (some (Addr.mk 1 0 (some 0))) (List.length A) 0), (7, Value.slice (some (Addr.mk 2 0 (some 0))) (List.length W) 0), (9, Value.slice (some (Addr.mk 3 0 none)) 1 1), (10, Value.int IntKind.i64 (3 : Int))]
def S2_3 (l : List U2) (A W : List Vl) : ASt := mkS [some (AObj.row Rk.still 2 0 (List.length l) (encL l)), some (AObj.row Rk.mine 3 0 (List.length A) (encL A)), some (AObj.row Rk.mine 3 0 (List.length W) (encL W)), some (AObj.cells [Value.int IntKind.i64 (0 : Int), Value.int IntKind.i64 (0 : Int), Value.slice (some (Addr.mk 4 0 none)) 3 3, Value.slice (some (Addr.mk 5 0 none)) 3 3] false 4), some (AObj.cells [Value.int IntKind.i64 (IntKind.wrap IntKind.i64 (Int.tmod (U2.a (List.getD l 0 Enc.dflt)) (8 : Int))), Value.int IntKind.i64 (IntKind.wrap IntKind.i64 (Int.tmod (U2.a (List.getD l 1 Enc.dflt)) (8 : Int))), Value.int IntKind.i64 (IntKind.wrap IntKind.i64 (Int.tmod (U2.a (List.getD l 2 Enc.dflt)) (8 : Int)))] false 1), some (AObj.cells [Value.int IntKind.i64 (2 : Int), Value.int IntKind.i64 (IntKind.wrap IntKind.i64 (U2.b (List.getD l 0 Enc.dflt))), Value.float FloatKind.f64 0, Value.int IntKind.i64 (2 : Int), Value.int IntKind.i64 (IntKind.wrap IntKind.i64 (U2.b (List.getD l 1 Enc.dflt))), Value.float FloatKind.f64 0, Value.int IntKind.i64 (2 : Int), Value.int IntKind.i64 (IntKind.wrap IntKind.i64 (U2.b (List.getD l 2 Enc.dflt))), Value.float FloatKind.f64 0] false 3)]
def F2_4 (l : List U2) (A W : List Vl) (c : Nat) (N : Int) : AFr := mkF 118 [(0, Value.slice (some (Addr.mk 0 0 (some 0))) (List.length l) c), (5, Value.int IntKind.i64 N), (6, Value.slice (some (Addr.mk 1 0 (some 0))) (List.length A) 0), (7, Value.slice (some (Addr.mk 2 0 (some 0))) (List.length W) 0), (9, Value.slice (some (Addr.mk 3 0 none)) 2 2), (10, Value.int IntKind.i64 (4 : Int))]
def S2_4 (l : List U2) (A W : List Vl) : ASt := mkS [some (AObj.row Rk.still 2 0 (List.length l) (encL l)), some (AObj.row Rk.mine 3 0 (List.length A) (encL A)), some (AObj.row Rk.mine 3 0 (List.length W) (encL W)), some (AObj.cells [Value.int IntKind.i64 (0 : Int), Value.int IntKind.i64 (0 : Int), Value.slice (some (Addr.mk 4 0 none)) 3 3, Value.slice (some (Addr.mk 5 0 none)) 3 3, Value.int IntKind.i64 (0 : Int), Value.int IntKind.i64 (0 : Int), Value.slice (some (Addr.mk 6 0 none)) 1 1, Value.slice (some (Addr.mk 7 0 none)) 1 1] false 4), some (AObj.cells [Value.int IntKind.i64 (IntKind.wrap IntKind.i64 (Int.tmod (U2.a (List.getD l 0 Enc.dflt)) (8 : Int))), Value.int IntKind.i64 (IntKind.wrap IntKind.i64 (Int.tmod (U2.a (List.getD l 1 Enc.dflt)) (8 : Int))), Value.int IntKind.i64 (IntKind.wrap IntKind.i64 (Int.tmod (U2.a (List.getD l 2 Enc.dflt)) (8 : Int)))] false 1), some (AObj.cells [Value.int IntKind.i64 (2 : Int), Value.int IntKind.i64 (IntKind.wrap IntKind.i64 (U2.b (List.getD l 0 Enc.dflt))), Value.float FloatKind.f64 0, Value.int IntKind.i64 (2 : Int), Value.int IntKind.i64 (IntKind.wrap IntKind.i64 (U2.b (List.getD l 1 Enc.dflt))), Value.float FloatKind.f64 0, Value.int IntKind.i64 (2 : Int), Value.int IntKind.i64 (IntKind.wrap IntKind.i64 (U2.b (List.getD l 2 Enc.dflt))), Value.float FloatKind.f64 0] false 3), some (AObj.cells [Value.int IntKind.i64 (IntKind.wrap IntKind.i64 (Int.tmod (U2.a (List.getD l 3 Enc.dflt)) (8 : Int)))] false 1), some (AObj.cells [Value.int IntKind.i64 (2 : Int), Value.int IntKind.i64 (IntKind.wrap IntKind.i64 (U2.b (List.getD l 3 Enc.dflt))), Value.float FloatKind.f64 0] false 3)]
def F2_5 (l : List U2) (A W : List Vl) (c : Nat) (N : Int) : AFr := mkF 118 [(0, Value.slice (some (Addr.mk 0 0 (some 0))) (List.length l) c), (5, Value.int IntKind.i64 N), (6, Value.slice (some (Addr.mk 1 0 (some 0))) (List.length A) 0), (7, Value.slice (some (Addr.mk 2 0 (some 0))) (List.length W) 0), (9, Value.slice (some (Addr.mk 3 0 none)) 2 2), (10, Value.int IntKind.i64 (5 : Int))]
def S2_5 (l : List U2) (A W : List Vl) : ASt := mkS [some (AObj.row Rk.still 2 0 (List.length l) (encL l)), some (AObj.row Rk.mine 3 0 (List.length A) (encL A)), some (AObj.row Rk.mine 3 0 (List.length W) (encL W)), some (AObj.cells [Value.int IntKind.i64 (0 : Int), Value.int IntKind.i64 (0 : Int), Value.slice (some (Addr.mk 4 0 none)) 3 3, Value.slice (some (Addr.mk 5 0 none)) 3 3, Value.int IntKind.i64 (0 : Int), Value.int IntKind.i64 (0 : Int), Value.slice (some (Addr.mk 6 0 none)) 2 2, Value.slice (some (Addr.mk 7 0 none)) 2 2] false 4), some (AObj.cells [Value.int IntKind.i64 (IntKind.wrap IntKind.i64 (Int.tmod (U2.a (List.getD l 0 Enc.dflt)) (8 : Int))), Value.int IntKind.i64 (IntKind.wrap IntKind.i64 (Int.tmod (U2.a (List.getD l 1 Enc.dflt)) (8 : Int))), Value.int IntKind.i64 (IntKind.wrap IntKind.i64 (Int.tmod (U2.a (List.getD l 2 Enc.dflt)) (8 : Int)))] false 1), some (AObj.cells [Value.int IntKind.i64 (2 : Int), Value.int IntKind.i64 (IntKind.wrap IntKind.i64 (U2.b (List.getD l 0 Enc.dflt))), Value.float FloatKind.f64 0, Value.int IntKind.i64 (2 : Int), Value.int IntKind.i64 (IntKind.wrap IntKind.i64 (U2.b (List.getD l 1 Enc.dflt))), Value.float FloatKind.f64 0, Value.int IntKind.i64 (2 : Int), Value.int IntKind.i64 (IntKind.wrap IntKind.i64 (U2.b (List.getD l 2 Enc.dflt))), Value.float FloatKind.f64 0] false 3), some (AObj.cells [Value.int IntKind.i64 (IntKind.wrap IntKind.i64 (Int.tmod (U2.a (List.getD l 3 Enc.dflt)) (8 : Int))), Value.int IntKind.i64 (IntKind.wrap IntKind.i64 (Int.tmod (U2.a (List.getD l 4 Enc.dflt)) (8 : Int)))] false 1), some (AObj.cells [Value.int IntKind.i64 (2 : Int), Value.int IntKind.i64 (IntKind.wrap IntKind.i64 (U2.b (List.getD l 3 Enc.dflt))), Value.float FloatKind.f64 0, Value.int IntKind.i64 (2 : Int), Value.int IntKind.i64 (IntKind.wrap IntKind.i64 (U2.b (List.getD l 4 Enc.dflt))), Value.float FloatKind.f64 0] false 3)]
def F2_6 (l : List U2) (A W : List Vl) (c : Nat) (N : Int) : AFr := mkF 118 [(0, Value.slice (some (Addr.mk 0 0 (some 0))) (List.length l) c), (5, Value.int IntKind.i64 N), (6, Value.slice (some (Addr.mk 1 0 (some 0))) (List.length A) 0), (7, Value.slice (some (Addr.mk 2 0 (some 0))) (List.length W) 0), (9, Value.slice (some (Addr.mk 3 0 none)) 2 2), (10, Value.int IntKind.i64 (6 : Int))]
def S2_6 (l : List U2) (A W : List Vl) : ASt := mkS [some (AObj.row Rk.still 2 0 (List.length l) (encL l)), some (AObj.row Rk.mine 3 0 (List.length A) (encL A)), some (AObj.row Rk.mine 3 0 (List.length W) (encL W)), some (AObj.cells [Value.int IntKind.i64 (0 : Int), Value.int IntKind.i64 (0 : Int), Value.slice (some (Addr.mk 4 0 none)) 3 3, Value.slice (some (Addr.mk 5 0 none)) 3 3, Value.int IntKind.i64 (0 : Int), Value.int IntKind.i64 (0 : Int), Value.slice (some (Addr.mk 6 0 none)) 3 3, Value.slice (some (Addr.mk 7 0 none)) 3 3] false 4), some (AObj.cells [Value.int IntKind.i64 (IntKind.wrap IntKind.i64 (Int.tmod (U2.a (List.getD l 0 Enc.dflt)) (8 : Int))), Value.int IntKind.i64 (IntKind.wrap IntKind.i64 (Int.tmod (U2.a (List.getD l 1 Enc.dflt)) (8 : Int))), Value.int IntKind.i64 (IntKind.wrap IntKind.i64 (Int.tmod (U2.a (List.getD l 2 Enc.dflt)) (8 : Int)))] false 1), some (AObj.cells [Value.int IntKind.i64 (2 : Int), Value.int IntKind.i64 (IntKind.wrap IntKind.i64 (U2.b (List.getD l 0 Enc.dflt))), Value.float FloatKind.f64 0, Value.int IntKind.i64 (2 : Int), Value.int IntKind.i64 (IntKind.wrap IntKind.i64 (U2.b (List.getD l 1 Enc.dflt))), Value.float FloatKind.f64 0, Value.int IntKind.i64 (2 : Int), Value.int IntKind.i64 (IntKind.wrap IntKind.i64 (U2.b (List.getD l 2 Enc.dflt))), Value.float FloatKind.f64 0] false 3), some (AObj.cells [Value.int IntKind.i64 (IntKind.wrap IntKind.i64 (Int.tmod (U2.a (List.getD l 3 Enc.dflt)) (8 : Int))), Value.int IntKind.i64 (IntKind.wrap IntKind.i64 (Int.tmod (U2.a (List.getD l 4 Enc.dflt)) (8 : Int))), Value.int IntKind.i64 (IntKind.wrap IntKind.i64 (Int.tmod (U2.a (List.getD l 5 Enc.dflt)) (8 : Int)))] false 1), some (AObj.cells [Value.int IntKind.i64 (2 : Int), Value.int IntKind.i64 (IntKind.wrap IntKind.i64 (U2.b (List.getD l 3 Enc.dflt))), Value.float FloatKind.f64 0, Value.int IntKind.i64 (2 : Int), Value.int IntKind.i64 (IntKind.wrap IntKind.i64 (U2.b (List.getD l 4 Enc.dflt))), Value.float FloatKind.f64 0, Value.int IntKind.i64 (2 : Int), Value.int IntKind.i64 (IntKind.wrap IntKind.i64 (U2.b (List.getD l 5 Enc.dflt))), Value.float FloatKind.f64 0] false 3)]
def F2_7 (l : List U2) (A W : List Vl) (c : Nat) (N : Int) : AFr := mkF 118 [(0, Value.slice (some (Addr.mk 0 0 (some 0))) (List.length l) c), (5, Value.int IntKind.i64 N), (6, Value.slice (some (Addr.mk 1 0 (some 0))) (List.length A) 0), (7, Value.slice (some (Addr.mk 2 0 (some 0))) (List.length W) 0), (9, Value.slice (some (Addr.mk 3 0 none)) 3 3), (10, Value.int IntKind.i64 (7 : Int))]
def S2_7 (l : List U2) (A W : List Vl) : ASt := mkS [some (AObj.row Rk.still 2 0 (List.length l) (encL l)), some (AObj.row Rk.mine 3 0 (List.length A) (encL A)), some (AObj.row Rk.mine 3 0 (List.length W) (encL W)), some (AObj.cells [Value.int IntKind.i64 (0 : Int), Value.int IntKind.i64 (0 : Int), Value.slice (some (Addr.mk 4 0 none)) 3 3, Value.slice (some (Addr.mk 5 0 none)) 3 3, Value.int IntKind.i64 (0 : Int), Value.int IntKind.i64 (0 : Int), Value.slice (some (Addr.mk 6 0 none)) 3 3, Value.slice (some (Addr.mk 7 0 none)) 3 3, Value.int IntKind.i64 (0 : Int), Value.int IntKind.i64 (0 : Int), Value.slice (some (Addr.mk 8 0 none)) 1 1, Value.slice (some (Addr.mk 9 0 none)) 1 1] false 4), some (AObj.cells [Value.int IntKind.i64 (IntKind.wrap IntKind.i64 (Int.tmod (U2.a (List.getD l 0 Enc.dflt)) (8 : Int))), Value.int IntKind.i64 (IntKind.wrap IntKind.i64 (Int.tmod (U2.a (List.getD l 1 Enc.dflt)) (8 : Int))), Value.int IntKind.i64 (IntKind.wrap IntKind.i64 (Int.tmod (U2.a (List.getD l 2 Enc.dflt)) (8 : Int)))] false 1), some (AObj.cells [Value.int IntKind.i64 (2 : Int), Value.int IntKind.i64 (IntKind.wrap IntKind.i64 (U2.b (List.getD l 0 Enc.dflt))), Value.float FloatKind.f64 0, Value.int IntKind.i64 (2 : Int), Value.int IntKind.i64 (IntKind.wrap IntKind.i64 (U2.b (List.getD l 1 Enc.dflt))), Value.float FloatKind.f64 0, Value.int IntKind.i64 (2 : Int), Value.int IntKind.i64 (IntKind.wrap IntKind.i64 (U2.b (List.getD l 2 Enc.dflt))), Value.float FloatKind.f64 0] false 3), some (AObj.cells [Value.int IntKind.i64 (IntKind.wrap IntKind.i64 (Int.tmod (U2.a (List.getD l 3 Enc.dflt)) (8 : Int))), Value.int IntKind.i64 (IntKind.wrap IntKind.i64 (Int.tmod (U2.a (List.getD l 4 Enc.dflt)) (8 : Int))), Value.int IntKind.i64 (IntKind.wrap IntKind.i64 (Int.tmod (U2.a (List.getD l 5 Enc.dflt)) (8 : Int)))] false 1), some (AObj.cells [Value.int IntKind.i64 (2 : Int), Value.int IntKind.i64 (IntKind.wrap IntKind.i64 (U2.b (List.getD l 3 Enc.dflt))), Value.float FloatKind.f64 0, Value.int IntKind.i64 (2 : Int), Value.int IntKind.i64 (IntKind.wrap IntKind.i64 (U2.b (List.getD l 4 Enc.dflt))), Value.float FloatKind.f64 0, Value.int IntKind.i64 (2 : Int), Value.int IntKind.i64 (IntKind.wrap IntKind.i64 (U2.b (List.getD l 5 Enc.dflt))), Value.float FloatKind.f64 0] false 3), some (AObj.cells [Value.int IntKind.i64 (IntKind.wrap IntKind.i64 (Int.tmod (U2.a (List.getD l 6 Enc.dflt)) (8 : Int)))] false 1), some (AObj.cells [Value.int IntKind.i64 (2 : Int), Value.int IntKind.i64 (IntKind.wrap IntKind.i64 (U2.b (List.getD l 6 Enc.dflt))), Value.float FloatKind.f64 0] false 3)]
def F2_8 (l : List U2) (A W : List Vl) (c : Nat) (N : Int) : AFr := mkF 118 [(0, Value.slice (some (Addr.mk 0 0 (some 0))) (List.length l) c), (5, Value.int IntKind.i64 N), (6, Value.slice (some (Addr.mk 1 0 (some 0))) (List.length A) 0), (7, Value.slice (some (Addr.mk 2 0 (some 0))) (List.length W) 0), (9, Value.slice (some (Addr.mk 3 0 none)) 3 3), (10, Value.int IntKind.i64 (8 : Int))]
def S2_8 (l : List U2) (A W : List Vl) : ASt := mkS [some (AObj.row Rk.still 2 0 (List.length l) (encL l)), some (AObj.row Rk.mine 3 0 (List.length A) (encL A)), some (AObj.row Rk.mine 3 0 (List.length W) (encL W)), some (AObj.cells [Value.int IntKind.i64 (0 : Int), Value.int IntKind.i64 (0 : Int), Value.slice (some (Addr.mk 4 0 none)) 3 3, Value.slice (some (Addr.mk 5 0 none)) 3 3, Value.int IntKind.i64 (0 : Int), Value.int IntKind.i64 (0 : Int), Value.slice (some (Addr.mk 6 0 none)) 3 3, Value.slice (some (Addr.mk 7 0 none)) 3 3, Value.int IntKind.i64 (0 : Int), Value.int IntKind.i64 (0 : Int), Value.slice (some (Addr.mk 8 0 none)) 2 2, Value.slice (some (Addr.mk 9 0 none)) 2 2] false 4), some (AObj.cells [Value.int IntKind.i64 (IntKind.wrap IntKind.i64 (Int.tmod (U2.a (List.getD l 0 Enc.dflt)) (8 : Int))), Value.int IntKind.i64 (IntKind.wrap IntKind.i64 (Int.tmod (U2.a (List.getD l 1 Enc.dflt)) (8 : Int))), Value.int IntKind.i64 (IntKind.wrap IntKind.i64 (Int.tmod (U2.a (List.getD l 2 Enc.dflt)) (8 : Int)))] false 1), some (AObj.cells [Value.int IntKind.i64 (2 : Int), Value.int IntKind.i64 (IntKind.wrap IntKind.i64 (U2.b (List.getD l 0 Enc.dflt))), Value.float FloatKind.f64 0, Value.int IntKind.i64 (2 : Int), Value.int IntKind.i64 (IntKind.wrap IntKind.i64 (U2.b (List.getD l 1 Enc.dflt))), Value.float FloatKind.f64 0, Value.int IntKind.i64 (2 : Int), Value.int IntKind.i64 (IntKind.wrap IntKind.i64 (U2.b (List.getD l 2 Enc.dflt))), Value.float FloatKind.f64 0] false 3), some (AObj.cells [Value.int IntKind.i64 (IntKind.wrap IntKind.i64 (Int.tmod (U2.a (List.getD l 3 Enc.dflt)) (8 : Int))), Value.int IntKind.i64 (IntKind.wrap IntKind.i64 (Int.tmod (U2.a (List.getD l 4 Enc.dflt)) (8 : Int))), Value.int IntKind.i64 (IntKind.wrap IntKind.i64 (Int.tmod (U2.a (List.getD l 5 Enc.dflt)) (8 : Int)))] false 1), some (AObj.cells [Value.int IntKind.i64 (2 : Int), Value.int IntKind.i64 (IntKind.wrap IntKind.i64 (U2.b (List.getD l 3 Enc.dflt))), Value.float FloatKind.f64 0, Value.int IntKind.i64 (2 : Int), Value.int IntKind.i64 (IntKind.wrap IntKind.i64 (U2.b (List.getD l 4 Enc.dflt))), Value.float FloatKind.f64 0, Value.int IntKind.i64 (2 : Int), Value.int IntKind.i64 (IntKind.wrap IntKind.i64 (U2.b (List.getD l 5 Enc.dflt))), Value.float FloatKind.f64 0] false 3), some (AObj.cells [Value.int IntKind.i64 (IntKind.wrap IntKind.i64 (Int.tmod (U2.a (List.getD l 6 Enc.dflt)) (8 : Int))), Value.int IntKind.i64 (IntKind.wrap IntKind.i64 (Int.tmod (U2.a (List.getD l 7 Enc.dflt)) (8 : Int)))] false 1), some (AObj.cells [Value.int IntKind.i64 (2 : Int), Value.int IntKind.i64 (IntKind.wrap IntKind.i64 (U2.b (List.getD l 6 Enc.dflt))), Value.float FloatKind.f64 0, Value.int IntKind.i64 (2 : Int), Value.int IntKind.i64 (IntKind.wrap IntKind.i64 (U2.b (List.getD l 7 Enc.dflt))), Value.float FloatKind.f64 0] false 3)]
def F2_9 (l : List U2) (A W : List Vl) (c : Nat) (N : Int) : AFr := mkF 118 [(0, Value.slice (some (Addr.mk 0 0 (some 0))) (List.length l) c), (5, Value.int IntKind.i64 N), (6, Value.slice (some (Addr.mk 1 0 (some 0))) (List.length A) 0), (7, Value.slice (some (Addr.mk 2 0 (some 0))) (List.length W) 0), (9, Value.slice (some (Addr.mk 3 0 none)) 3 3), (10, Value.int IntKind.i64 (9 : Int))]
def S2_9 (l : List U2) (A W : List Vl) : ASt := mkS [some (AObj.row Rk.still 2 0 (List.length l) (encL l)), some (AObj.row Rk.mine 3 0 (List.length A) (encL A)), some (AObj.row Rk.mine 3 0 (List.length W) (encL W)), some (AObj.cells [Value.int IntKind.i64 (0 : Int), Value.int IntKind.i64 (0 : Int), Value.slice (some (Addr.mk 4 0 none)) 3 3, Value.slice (some (Addr.mk 5 0 none)) 3 3, Value.int IntKind.i64 (0 : Int), Value.int IntKind.i64 (0 : Int), Value.slice (some (Addr.mk 6 0 none)) 3 3, Value.slice (some (Addr.mk 7 0 none)) 3 3, Value.int IntKind.i64 (0 : Int), Value.int IntKind.i64 (0 : Int), Value.slice (some (Addr.mk 8 0 none)) 3 3, Value.slice (some (Addr.mk 9 0 none)) 3 3] false 4), some (AObj.cells [Value.int IntKind.i64 (IntKind.wrap IntKind.i64 (Int.tmod (U2.a (List.getD l 0 Enc.dflt)) (8 : Int))), Value.int IntKind.i64 (IntKind.wrap IntKind.i64 (Int.tmod (U2.a (List.getD l 1 Enc.dflt)) (8 : Int))), Value.int IntKind.i64 (IntKind.wrap IntKind.i64 (Int.tmod (U2.a (List.getD l 2 Enc.dflt)) (8 : Int)))] false 1), some (AObj.cells [Value.int IntKind.i64 (2 : Int), Value.int IntKind.i64 (IntKind.wrap IntKind.i64 (U2.b (List.getD l 0 Enc.dflt))), Value.float FloatKind.f64 0, Value.int IntKind.i64 (2 : Int), Value.int IntKind.i64 (IntKind.wrap IntKind.i64 (U2.b (List.getD l 1 Enc.dflt))), Value.float FloatKind.f64 0, Value.int IntKind.i64 (2 : Int), Value.int IntKind.i64 (IntKind.wrap IntKind.i64 (U2.b (List.getD l 2 Enc.dflt))), Value.float FloatKind.f64 0] false 3), some (AObj.cells [Value.int IntKind.i64 (IntKind.wrap IntKind.i64 (Int.tmod (U2.a (List.getD l 3 Enc.dflt)) (8 : Int))), Value.int IntKind.i64 (IntKind.wrap IntKind.i64 (Int.tmod (U2.a (List.getD l 4 Enc.dflt)) (8 : Int))), Value.int IntKind.i64 (IntKind.wrap IntKind.i64 (Int.tmod (U2.a (List.getD l 5 Enc.dflt)) (8 : Int)))] false 1), some (AObj.cells [Value.int IntKind.i64 (2 : Int), Value.int IntKind.i64 (IntKind.wrap IntKind.i64 (U2.b (List.getD l 3 Enc.dflt))), Value.float FloatKind.f64 0, Value.int IntKind.i64 (2 : Int), Value.int IntKind.i64 (IntKind.wrap IntKind.i64 (U2.b (List.getD l 4 Enc.dflt))), Value.float FloatKind.f64 0, Value.int IntKind.i64 (2 : Int), Value.int IntKind.i64 (IntKind.wrap IntKind.i64 (U2.b (List.getD l 5 Enc.dflt))), Value.float FloatKind.f64 0] false 3), some (AObj.cells [Value.int IntKind.i64 (IntKind.wrap IntKind.i64 (Int.tmod (U2.a (List.getD l 6 Enc.dflt)) (8 : Int))), Value.int IntKind.i64 (IntKind.wrap IntKind.i64 (Int.tmod (U2.a (List.getD l 7 Enc.dflt)) (8 : Int))), Value.int IntKind.i64 (IntKind.wrap IntKind.i64 (Int.tmod (U2.a (List.getD l 8 Enc.dflt)) (8 : Int)))] false 1), some (AObj.cells [Value.int IntKind.i64 (2 : Int), Value.int IntKind.i64 (IntKind.wrap IntKind.i64 (U2.b (List.getD l 6 Enc.dflt))), Value.float FloatKind.f64 0, Value.int IntKind.i64 (2 : Int), Value.int IntKind.i64 (IntKind.wrap IntKind.i64 (U2.b (List.getD l 7 Enc.dflt))), Value.float FloatKind.f64 0, Value.int IntKind.i64 (2 : Int), Value.int IntKind.i64 (IntKind.wrap IntKind.i64 (U2.b (List.getD l 8 Enc.dflt))), Value.float FloatKind.f64 0] false 3)]
theorem vc_l1 (l : List U2) (A B : List Vl) (c : Nat) (N k : Int) (β : Bs) (M : Kt) (ex : Nat → Kt → Prop) : roundJ Try.prog toldL 100 20 β (fun _ => 0) (cnOf 1 slL) ex 5 0 1 lvL0 (F1 l A B c N k) (S1 l A B) M =
(  br (decide (k < N))
  (need (decide ((0 : Int) ≤ k))
  (need (Nat.blt (Int.toNat k) (List.length A))
  (need (Nat.blt (0 + Int.toNat k) (List.length A))
  (need (decide ((0 : Int) ≤ k))
  (need (Nat.blt (Int.toNat k) (List.length A))
  (need (Nat.ble 0 (0 + Int.toNat k) && Nat.blt (0 + Int.toNat k) (List.length A))
  (need (decide ((0 : Int) ≤ k))
  (need (Nat.blt (Int.toNat k) (List.length B))
  (need (Nat.blt (0 + Int.toNat k) (List.length B))
  (M AX.normal
  (mkF 118
  [(0,
  Value.slice (some (Addr.mk 0 0 (some 0))) (List.length l) c),
  (5, Value.int IntKind.i64 N),
  (6,
  Value.slice (some (Addr.mk 1 0 (some 0))) (List.length A)
  0),
  (7,
  Value.slice (some (Addr.mk 2 0 (some 0))) (List.length B)
  0),
  (8, Value.int IntKind.i64 (IntKind.wrap IntKind.i64 (k + (1 : Int))))])
  (mkS
  [some (AObj.row Rk.still 2 0 (List.length l) (encL l)),
  some
  (AObj.row Rk.mine 3 0 (List.length A)
  (putT (0 + Int.toNat k) 0
  [Td.sc (Value.int IntKind.i64 (2 : Int)),
  Td.sc (Value.int IntKind.i64 (IntKind.wrap IntKind.i64 ((100 : Int) + k))),
  Td.sc (Value.float FloatKind.f64 0)]
  (encL A))),
  some
  (AObj.row Rk.mine 3 0 (List.length B)
  (putT (0 + Int.toNat k) 0
  [Td.sc
  (Value.int IntKind.i64
  (bif Nat.beq (0 + Int.toNat k) (0 + Int.toNat k) then (2 : Int)
  else Vl.k (List.getD A (0 + Int.toNat k) Enc.dflt))),
  Td.sc
  (Value.int IntKind.i64
  (bif Nat.beq (0 + Int.toNat k) (0 + Int.toNat k) then
  IntKind.wrap IntKind.i64 ((100 : Int) + k)
  else Vl.i (List.getD A (0 + Int.toNat k) Enc.dflt))),
  Td.sc
  (Value.float FloatKind.f64
  (bif Nat.beq (0 + Int.toNat k) (0 + Int.toNat k) then 0
  else Vl.f (List.getD A (0 + Int.toNat k) Enc.dflt)))]
  (encL B)))])))))))))))
  (M (AX.exit 0)
  (mkF 118
  [(0, Value.slice (some (Addr.mk 0 0 (some 0))) (List.length l) c),
  (5, Value.int IntKind.i64 N),
  (6, Value.slice (some (Addr.mk 1 0 (some 0))) (List.length A) 0),
  (7, Value.slice (some (Addr.mk 2 0 (some 0))) (List.length B) 0),
  (8, Value.int IntKind.i64 k)])
  (mkS
  [some (AObj.row Rk.still 2 0 (List.length l) (encL l)),
  some (AObj.row Rk.mine 3 0 (List.length A) (encL A)),
  some (AObj.row Rk.mine 3 0 (List.length B) (encL B))]))) := by kernel_rfl
theorem vc_lr0 (l : List U2) (A W : List Vl) (c : Nat) (N : Int) (β : Bs) (M : Kt) (ex : Nat → Kt → Prop) : roundJ Try.prog toldL 100 20 β (fun _ => 0) (cnOf 1 slL) ex 5 2 1 lvL (F2_0 l A W c N) (S2_0 l A W) M =
(  br (decide ((0 : Int) < Int.ofNat (List.length l)))
  (need (Nat.blt 0 (List.length l))
  (need (true && Nat.blt 0 (List.length l))
  (need (Nat.blt 0 (List.length l))
  (need (true && Nat.blt 0 (List.length l))
  (need (Nat.blt 0 (List.length l))
  (need (true && Nat.blt 0 (List.length l))
  (br (decide (IntKind.wrap IntKind.i64 (Int.tmod (U2.a (List.getD l 0 Enc.dflt)) (8 : Int)) < N))
  (need (Nat.blt 0 (List.length l))
  (need (true && Nat.blt 0 (List.length l))
  (need (decide ((0 : Int) ≤ Int.tmod (U2.a (List.getD l 0 Enc.dflt)) (8 : Int)))
  (need
  (Nat.blt (Int.toNat (Int.tmod (U2.a (List.getD l 0 Enc.dflt)) (8 : Int)))
  (List.length W))
  (need
  (Nat.blt (0 + Int.toNat (Int.tmod (U2.a (List.getD l 0 Enc.dflt)) (8 : Int)))
  (List.length W))
  (M AX.normal
  (mkF 118
  [(0,
  Value.slice (some (Addr.mk 0 0 (some 0))) (List.length l) c),
  (5, Value.int IntKind.i64 N),
  (6,
  Value.slice (some (Addr.mk 1 0 (some 0))) (List.length A)
  0),
  (7,
  Value.slice (some (Addr.mk 2 0 (some 0))) (List.length W)
  0),
  (9, Value.slice (some (Addr.mk 3 0 none)) 1 1),
  (10, Value.int IntKind.i64 (1 : Int))])
  (mkS
  [some (AObj.row Rk.still 2 0 (List.length l) (encL l)),
  some (AObj.row Rk.mine 3 0 (List.length A) (encL A)),
  some
  (AObj.row Rk.mine 3 0 (List.length W)
  (putT
  (0 +
  Int.toNat (Int.tmod (U2.a (List.getD l 0 Enc.dflt)) (8 : Int)))
  0
  [Td.sc (Value.int IntKind.i64 (2 : Int)),
  Td.sc
  (Value.int IntKind.i64
  (IntKind.wrap IntKind.i64 (U2.b (List.getD l 0 Enc.dflt)))),
  Td.sc (Value.float FloatKind.f64 0)]
  (encL W))),
  some
  (AObj.cells
  [Value.int IntKind.i64 (0 : Int), Value.int IntKind.i64 (0 : Int),
  Value.slice (some (Addr.mk 4 0 none)) 1 1,
  Value.slice (some (Addr.mk 5 0 none)) 1 1]
  false 4),
  some
  (AObj.cells
  [Value.int IntKind.i64
  (IntKind.wrap IntKind.i64
  (Int.tmod (U2.a (List.getD l 0 Enc.dflt)) (8 : Int)))]
  false 1),
  some
  (AObj.cells
  [Value.int IntKind.i64 (2 : Int),
  Value.int IntKind.i64
  (IntKind.wrap IntKind.i64 (U2.b (List.getD l 0 Enc.dflt))),
  Value.float FloatKind.f64 0]
  false 3)])))))))
  (M AX.normal
  (mkF 118
  [(0, Value.slice (some (Addr.mk 0 0 (some 0))) (List.length l) c),
  (5, Value.int IntKind.i64 N),
  (6,
  Value.slice (some (Addr.mk 1 0 (some 0))) (List.length A) 0),
  (7,
  Value.slice (some (Addr.mk 2 0 (some 0))) (List.length W) 0),
  (9, Value.slice (some (Addr.mk 3 0 none)) 1 1),
  (10, Value.int IntKind.i64 (1 : Int))])
  (mkS
  [some (AObj.row Rk.still 2 0 (List.length l) (encL l)),
  some (AObj.row Rk.mine 3 0 (List.length A) (encL A)),
  some (AObj.row Rk.mine 3 0 (List.length W) (encL W)),
  some
  (AObj.cells
  [Value.int IntKind.i64 (0 : Int), Value.int IntKind.i64 (0 : Int),
  Value.slice (some (Addr.mk 4 0 none)) 1 1,
  Value.slice (some (Addr.mk 5 0 none)) 1 1]
  false 4),
  some
  (AObj.cells
  [Value.int IntKind.i64
  (IntKind.wrap IntKind.i64 (Int.tmod (U2.a (List.getD l 0 Enc.dflt)) (8 : Int)))]
  false 1),
  some
  (AObj.cells
  [Value.int IntKind.i64 (2 : Int),
  Value.int IntKind.i64 (IntKind.wrap IntKind.i64 (U2.b (List.getD l 0 Enc.dflt))),
  Value.float FloatKind.f64 0]
  false 3)])))))))))
  (M (AX.exit 2)
  (mkF 118
  [(0, Value.slice (some (Addr.mk 0 0 (some 0))) (List.length l) c),
  (5, Value.int IntKind.i64 N),
  (6, Value.slice (some (Addr.mk 1 0 (some 0))) (List.length A) 0),
  (7, Value.slice (some (Addr.mk 2 0 (some 0))) (List.length W) 0),
  (9, Value.slice none 0 0), (10, Value.int IntKind.i64 (0 : Int))])
  (mkS
  [some (AObj.row Rk.still 2 0 (List.length l) (encL l)),
  some (AObj.row Rk.mine 3 0 (List.length A) (encL A)),
  some (AObj.row Rk.mine 3 0 (List.length W) (encL W))]))) := by kernel_rfl
theorem vc_lr1 (l : List U2) (A W : List Vl) (c : Nat) (N : Int) (β : Bs) (M : Kt) (ex : Nat → Kt → Prop) : roundJ Try.prog toldL 100 20 β (fun _ => 0) (cnOf 1 slL) ex 5 2 1 lvL (F2_1 l A W c N) (S2_1 l A W) M =
(  br (decide ((1 : Int) < Int.ofNat (List.length l)))
  (need (Nat.blt 1 (List.length l))
  (need (true && Nat.blt 1 (List.length l))
  (need (Nat.blt 1 (List.length l))
  (need (true && Nat.blt 1 (List.length l))
  (need (Nat.blt 1 (List.length l))
  (need (true && Nat.blt 1 (List.length l))
  (br (decide (IntKind.wrap IntKind.i64 (Int.tmod (U2.a (List.getD l 1 Enc.dflt)) (8 : Int)) < N))
  (need (Nat.blt 1 (List.length l))
  (need (true && Nat.blt 1 (List.length l))
  (need (decide ((0 : Int) ≤ Int.tmod (U2.a (List.getD l 1 Enc.dflt)) (8 : Int)))
  (need
  (Nat.blt (Int.toNat (Int.tmod (U2.a (List.getD l 1 Enc.dflt)) (8 : Int)))
  (List.length W))
  (need
  (Nat.blt (0 + Int.toNat (Int.tmod (U2.a (List.getD l 1 Enc.dflt)) (8 : Int)))
  (List.length W))
  (M AX.normal
  (mkF 118
  [(0,
  Value.slice (some (Addr.mk 0 0 (some 0))) (List.length l) c),
  (5, Value.int IntKind.i64 N),
  (6,
  Value.slice (some (Addr.mk 1 0 (some 0))) (List.length A)
  0),
  (7,
  Value.slice (some (Addr.mk 2 0 (some 0))) (List.length W)
  0),
  (9, Value.slice (some (Addr.mk 3 0 none)) 1 1),
  (10, Value.int IntKind.i64 (2 : Int))])
  (mkS
  [some (AObj.row Rk.still 2 0 (List.length l) (encL l)),
  some (AObj.row Rk.mine 3 0 (List.length A) (encL A)),
  some
  (AObj.row Rk.mine 3 0 (List.length W)
  (putT
  (0 +
  Int.toNat (Int.tmod (U2.a (List.getD l 1 Enc.dflt)) (8 : Int)))
  0
  [Td.sc (Value.int IntKind.i64 (2 : Int)),
  Td.sc
  (Value.int IntKind.i64
  (IntKind.wrap IntKind.i64 (U2.b (List.getD l 1 Enc.dflt)))),
  Td.sc (Value.float FloatKind.f64 0)]
  (encL W))),
  some
  (AObj.cells
  [Value.int IntKind.i64 (0 : Int), Value.int IntKind.i64 (0 : Int),
  Value.slice (some (Addr.mk 4 0 none)) 2 2,
  Value.slice (some (Addr.mk 5 0 none)) 2 2]
  false 4),
  some
  (AObj.cells
  [Value.int IntKind.i64
  (IntKind.wrap IntKind.i64
  (Int.tmod (U2.a (List.getD l 0 Enc.dflt)) (8 : Int))),
  Value.int IntKind.i64
  (IntKind.wrap IntKind.i64
  (Int.tmod (U2.a (List.getD l 1 Enc.dflt)) (8 : Int)))]
  false 1),
  some
  (AObj.cells
  [Value.int IntKind.i64 (2 : Int),
  Value.int IntKind.i64
  (IntKind.wrap IntKind.i64 (U2.b (List.getD l 0 Enc.dflt))),
  Value.float FloatKind.f64 0, Value.int IntKind.i64 (2 : Int),
  Value.int IntKind.i64
  (IntKind.wrap IntKind.i64 (U2.b (List.getD l 1 Enc.dflt))),
  Value.float FloatKind.f64 0]
  false 3)])))))))
  (M AX.normal
  (mkF 118
  [(0, Value.slice (some (Addr.mk 0 0 (some 0))) (List.length l) c),
  (5, Value.int IntKind.i64 N),
  (6,
  Value.slice (some (Addr.mk 1 0 (some 0))) (List.length A) 0),
  (7,
  Value.slice (some (Addr.mk 2 0 (some 0))) (List.length W) 0),
  (9, Value.slice (some (Addr.mk 3 0 none)) 1 1),
  (10, Value.int IntKind.i64 (2 : Int))])
  (mkS
  [some (AObj.row Rk.still 2 0 (List.length l) (encL l)),
  some (AObj.row Rk.mine 3 0 (List.length A) (encL A)),
  some (AObj.row Rk.mine 3 0 (List.length W) (encL W)),
  some
  (AObj.cells
  [Value.int IntKind.i64 (0 : Int), Value.int IntKind.i64 (0 : Int),
  Value.slice (some (Addr.mk 4 0 none)) 2 2,
  Value.slice (some (Addr.mk 5 0 none)) 2 2]
  false 4),
  some
  (AObj.cells
  [Value.int IntKind.i64
  (IntKind.wrap IntKind.i64 (Int.tmod (U2.a (List.getD l 0 Enc.dflt)) (8 : Int))),
  Value.int IntKind.i64
  (IntKind.wrap IntKind.i64 (Int.tmod (U2.a (List.getD l 1 Enc.dflt)) (8 : Int)))]
  false 1),
  some
  (AObj.cells
  [Value.int IntKind.i64 (2 : Int),
  Value.int IntKind.i64 (IntKind.wrap IntKind.i64 (U2.b (List.getD l 0 Enc.dflt))),
  Value.float FloatKind.f64 0, Value.int IntKind.i64 (2 : Int),
  Value.int IntKind.i64 (IntKind.wrap IntKind.i64 (U2.b (List.getD l 1 Enc.dflt))),
  Value.float FloatKind.f64 0]
  false 3)])))))))))
  (M (AX.exit 2)
  (mkF 118
  [(0, Value.slice (some (Addr.mk 0 0 (some 0))) (List.length l) c),
  (5, Value.int IntKind.i64 N),
  (6, Value.slice (some (Addr.mk 1 0 (some 0))) (List.length A) 0),
  (7, Value.slice (some (Addr.mk 2 0 (some 0))) (List.length W) 0),
  (9, Value.slice (some (Addr.mk 3 0 none)) 1 1),
  (10, Value.int IntKind.i64 (1 : Int))])
  (mkS
  [some (AObj.row Rk.still 2 0 (List.length l) (encL l)),
  some (AObj.row Rk.mine 3 0 (List.length A) (encL A)),
  some (AObj.row Rk.mine 3 0 (List.length W) (encL W)),
  some
  (AObj.cells
  [Value.int IntKind.i64 (0 : Int), Value.int IntKind.i64 (0 : Int),
  Value.slice (some (Addr.mk 4 0 none)) 1 1,
  Value.slice (some (Addr.mk 5 0 none)) 1 1]
  false 4),
  some
  (AObj.cells
  [Value.int IntKind.i64
  (IntKind.wrap IntKind.i64 (Int.tmod (U2.a (List.getD l 0 Enc.dflt)) (8 : Int)))]
  false 1),
  some
  (AObj.cells
  [Value.int IntKind.i64 (2 : Int),
  Value.int IntKind.i64 (IntKind.wrap IntKind.i64 (U2.b (List.getD l 0 Enc.dflt))),
  Value.float FloatKind.f64 0]
  false 3)]))) := by kernel_rfl
theorem vc_lr2 (l : List U2) (A W : List Vl) (c : Nat) (N : Int) (β : Bs) (M : Kt) (ex : Nat → Kt → Prop) : roundJ Try.prog toldL 100 20 β (fun _ => 0) (cnOf 1 slL) ex 5 2 1 lvL (F2_2 l A W c N) (S2_2 l A W) M =
(  br (decide ((2 : Int) < Int.ofNat (List.length l)))
  (need (Nat.blt 2 (List.length l))
  (need (true && Nat.blt 2 (List.length l))
  (need (Nat.blt 2 (List.length l))
  (need (true && Nat.blt 2 (List.length l))
  (need (Nat.blt 2 (List.length l))
  (need (true && Nat.blt 2 (List.length l))
  (br (decide (IntKind.wrap IntKind.i64 (Int.tmod (U2.a (List.getD l 2 Enc.dflt)) (8 : Int)) < N))
  (need (Nat.blt 2 (List.length l))
  (need (true && Nat.blt 2 (List.length l))
  (need (decide ((0 : Int) ≤ Int.tmod (U2.a (List.getD l 2 Enc.dflt)) (8 : Int)))
  (need
  (Nat.blt (Int.toNat (Int.tmod (U2.a (List.getD l 2 Enc.dflt)) (8 : Int)))
  (List.length W))
  (need
  (Nat.blt (0 + Int.toNat (Int.tmod (U2.a (List.getD l 2 Enc.dflt)) (8 : Int)))
  (List.length W))
  (M AX.normal
  (mkF 118
  [(0,
  Value.slice (some (Addr.mk 0 0 (some 0))) (List.length l) c),
  (5, Value.int IntKind.i64 N),
  (6,
  Value.slice (some (Addr.mk 1 0 (some 0))) (List.length A)
  0),
  (7,
  Value.slice (some (Addr.mk 2 0 (some 0))) (List.length W)
  0),
  (9, Value.slice (some (Addr.mk 3 0 none)) 1 1),
  (10, Value.int IntKind.i64 (3 : Int))])
  (mkS
  [some (AObj.row Rk.still 2 0 (List.length l) (encL l)),
  some (AObj.row Rk.mine 3 0 (List.length A) (encL A)),
  some
  (AObj.row Rk.mine 3 0 (List.length W)
  (putT
  (0 +
  Int.toNat (Int.tmod (U2.a (List.getD l 2 Enc.dflt)) (8 : Int)))
  0
  [Td.sc (Value.int IntKind.i64 (2 : Int)),
  Td.sc
  (Value.int IntKind.i64
  (IntKind.wrap IntKind.i64 (U2.b (List.getD l 2 Enc.dflt)))),
  Td.sc (Value.float FloatKind.f64 0)]
  (encL W))),
  some
  (AObj.cells
  [Value.int IntKind.i64 (0 : Int), Value.int IntKind.i64 (0 : Int),
  Value.slice (some (Addr.mk 4 0 none)) 3 3,
  Value.slice (some (Addr.mk 5 0 none)) 3 3]
  false 4),
  some
  (AObj.cells
  [Value.int IntKind.i64
  (IntKind.wrap IntKind.i64
  (Int.tmod (U2.a (List.getD l 0 Enc.dflt)) (8 : Int))),
  Value.int IntKind.i64
  (IntKind.wrap IntKind.i64
  (Int.tmod (U2.a (List.getD l 1 Enc.dflt)) (8 : Int))),
  Value.int IntKind.i64
  (IntKind.wrap IntKind.i64
  (Int.tmod (U2.a (List.getD l 2 Enc.dflt)) (8 : Int)))]
  false 1),
  some
  (AObj.cells
  [Value.int IntKind.i64 (2 : Int),
  Value.int IntKind.i64
  (IntKind.wrap IntKind.i64 (U2.b (List.getD l 0 Enc.dflt))),
  Value.float FloatKind.f64 0, Value.int IntKind.i64 (2 : Int),
  Value.int IntKind.i64
  (IntKind.wrap IntKind.i64 (U2.b (List.getD l 1 Enc.dflt))),
  Value.float FloatKind.f64 0, Value.int IntKind.i64 (2 : Int),
  Value.int IntKind.i64
  (IntKind.wrap IntKind.i64 (U2.b (List.getD l 2 Enc.dflt))),
  Value.float FloatKind.f64 0]
  false 3)])))))))
  (M AX.normal
  (mkF 118
  [(0, Value.slice (some (Addr.mk 0 0 (some 0))) (List.length l) c),
  (5, Value.int IntKind.i64 N),
  (6,
  Value.slice (some (Addr.mk 1 0 (some 0))) (List.length A) 0),
  (7,
  Value.slice (some (Addr.mk 2 0 (some 0))) (List.length W) 0),
  (9, Value.slice (some (Addr.mk 3 0 none)) 1 1),
  (10, Value.int IntKind.i64 (3 : Int))])
  (mkS
  [some (AObj.row Rk.still 2 0 (List.length l) (encL l)),
  some (AObj.row Rk.mine 3 0 (List.length A) (encL A)),
  some (AObj.row Rk.mine 3 0 (List.length W) (encL W)),
  some
  (AObj.cells
  [Value.int IntKind.i64 (0 : Int), Value.int IntKind.i64 (0 : Int),
  Value.slice (some (Addr.mk 4 0 none)) 3 3,
  Value.slice (some (Addr.mk 5 0 none)) 3 3]
  false 4),
  some
  (AObj.cells
  [Value.int IntKind.i64
  (IntKind.wrap IntKind.i64 (Int.tmod (U2.a (List.getD l 0 Enc.dflt)) (8 : Int))),
  Value.int IntKind.i64
  (IntKind.wrap IntKind.i64 (Int.tmod (U2.a (List.getD l 1 Enc.dflt)) (8 : Int))),
  Value.int IntKind.i64
  (IntKind.wrap IntKind.i64 (Int.tmod (U2.a (List.getD l 2 Enc.dflt)) (8 : Int)))]
  false 1),
  some
  (AObj.cells
  [Value.int IntKind.i64 (2 : Int),
  Value.int IntKind.i64 (IntKind.wrap IntKind.i64 (U2.b (List.getD l 0 Enc.dflt))),
  Value.float FloatKind.f64 0, Value.int IntKind.i64 (2 : Int),
  Value.int IntKind.i64 (IntKind.wrap IntKind.i64 (U2.b (List.getD l 1 Enc.dflt))),
  Value.float FloatKind.f64 0, Value.int IntKind.i64 (2 : Int),
  Value.int IntKind.i64 (IntKind.wrap IntKind.i64 (U2.b (List.getD l 2 Enc.dflt))),
  Value.float FloatKind.f64 0]
  false 3)])))))))))
  (M (AX.exit 2)
  (mkF 118
  [(0, Value.slice (some (Addr.mk 0 0 (some 0))) (List.length l) c),
  (5, Value.int IntKind.i64 N),
  (6, Value.slice (some (Addr.mk 1 0 (some 0))) (List.length A) 0),
  (7, Value.slice (some (Addr.mk 2 0 (some 0))) (List.length W) 0),
  (9, Value.slice (some (Addr.mk 3 0 none)) 1 1),
  (10, Value.int IntKind.i64 (2 : Int))])
  (mkS
  [some (AObj.row Rk.still 2 0 (List.length l) (encL l)),
  some (AObj.row Rk.mine 3 0 (List.length A) (encL A)),
  some (AObj.row Rk.mine 3 0 (List.length W) (encL W)),
  some
  (AObj.cells
  [Value.int IntKind.i64 (0 : Int), Value.int IntKind.i64 (0 : Int),
  Value.slice (some (Addr.mk 4 0 none)) 2 2,
  Value.slice (some (Addr.mk 5 0 none)) 2 2]
  false 4),
  some
  (AObj.cells
  [Value.int IntKind.i64
  (IntKind.wrap IntKind.i64 (Int.tmod (U2.a (List.getD l 0 Enc.dflt)) (8 : Int))),
  Value.int IntKind.i64
  (IntKind.wrap IntKind.i64 (Int.tmod (U2.a (List.getD l 1 Enc.dflt)) (8 : Int)))]
  false 1),
  some
  (AObj.cells
  [Value.int IntKind.i64 (2 : Int),
  Value.int IntKind.i64 (IntKind.wrap IntKind.i64 (U2.b (List.getD l 0 Enc.dflt))),
  Value.float FloatKind.f64 0, Value.int IntKind.i64 (2 : Int),
  Value.int IntKind.i64 (IntKind.wrap IntKind.i64 (U2.b (List.getD l 1 Enc.dflt))),
  Value.float FloatKind.f64 0]
  false 3)]))) := by kernel_rfl
theorem vc_lr3 (l : List U2) (A W : List Vl) (c : Nat) (N : Int) (β : Bs) (M : Kt) (ex : Nat → Kt → Prop) : roundJ Try.prog toldL 100 20 β (fun _ => 0) (cnOf 1 slL) ex 5 2 1 lvL (F2_3 l A W c N) (S2_3 l A W) M =
(  br (decide ((3 : Int) < Int.ofNat (List.length l)))
  (need (Nat.blt 3 (List.length l))
  (need (true && Nat.blt 3 (List.length l))
  (need (Nat.blt 3 (List.length l))
  (need (true && Nat.blt 3 (List.length l))
  (need (Nat.blt 3 (List.length l))
  (need (true && Nat.blt 3 (List.length l))
  (br (decide (IntKind.wrap IntKind.i64 (Int.tmod (U2.a (List.getD l 3 Enc.dflt)) (8 : Int)) < N))
  (need (Nat.blt 3 (List.length l))
  (need (true && Nat.blt 3 (List.length l))
  (need (decide ((0 : Int) ≤ Int.tmod (U2.a (List.getD l 3 Enc.dflt)) (8 : Int)))
  (need
  (Nat.blt (Int.toNat (Int.tmod (U2.a (List.getD l 3 Enc.dflt)) (8 : Int)))
  (List.length W))
  (need
  (Nat.blt (0 + Int.toNat (Int.tmod (U2.a (List.getD l 3 Enc.dflt)) (8 : Int)))
  (List.length W))
  (M AX.normal
  (mkF 118
  [(0,
  Value.slice (some (Addr.mk 0 0 (some 0))) (List.length l) c),
  (5, Value.int IntKind.i64 N),
  (6,
  Value.slice (some (Addr.mk 1 0 (some 0))) (List.length A)
  0),
  (7,
  Value.slice (some (Addr.mk 2 0 (some 0))) (List.length W)
  0),
  (9, Value.slice (some (Addr.mk 3 0 none)) 2 2),
  (10, Value.int IntKind.i64 (4 : Int))])
  (mkS
  [some (AObj.row Rk.still 2 0 (List.length l) (encL l)),
  some (AObj.row Rk.mine 3 0 (List.length A) (encL A)),
  some
  (AObj.row Rk.mine 3 0 (List.length W)
  (putT
  (0 +
  Int.toNat (Int.tmod (U2.a (List.getD l 3 Enc.dflt)) (8 : Int)))
  0
  [Td.sc (Value.int IntKind.i64 (2 : Int)),
  Td.sc
  (Value.int IntKind.i64
  (IntKind.wrap IntKind.i64 (U2.b (List.getD l 3 Enc.dflt)))),
  Td.sc (Value.float FloatKind.f64 0)]
  (encL W))),
  some
  (AObj.cells
  [Value.int IntKind.i64 (0 : Int), Value.int IntKind.i64 (0 : Int),
  Value.slice (some (Addr.mk 4 0 none)) 3 3,
  Value.slice (some (Addr.mk 5 0 none)) 3 3,
  Value.int IntKind.i64 (0 : Int), Value.int IntKind.i64 (0 : Int),
  Value.slice (some (Addr.mk 6 0 none)) 1 1,
  Value.slice (some (Addr.mk 7 0 none)) 1 1]
  false 4),
  some
  (AObj.cells
  [Value.int IntKind.i64
  (IntKind.wrap IntKind.i64
  (Int.tmod (U2.a (List.getD l 0 Enc.dflt)) (8 : Int))),
  Value.int IntKind.i64
  (IntKind.wrap IntKind.i64
  (Int.tmod (U2.a (List.getD l 1 Enc.dflt)) (8 : Int))),
  Value.int IntKind.i64
  (IntKind.wrap IntKind.i64
  (Int.tmod (U2.a (List.getD l 2 Enc.dflt)) (8 : Int)))]
  false 1),
  some
  (AObj.cells
  [Value.int IntKind.i64 (2 : Int),
  Value.int IntKind.i64
  (IntKind.wrap IntKind.i64 (U2.b (List.getD l 0 Enc.dflt))),
  Value.float FloatKind.f64 0, Value.int IntKind.i64 (2 : Int),
  Value.int IntKind.i64
  (IntKind.wrap IntKind.i64 (U2.b (List.getD l 1 Enc.dflt))),
  Value.float FloatKind.f64 0, Value.int IntKind.i64 (2 : Int),
  Value.int IntKind.i64
  (IntKind.wrap IntKind.i64 (U2.b (List.getD l 2 Enc.dflt))),
  Value.float FloatKind.f64 0]
  false 3),
  some
  (AObj.cells
  [Value.int IntKind.i64
  (IntKind.wrap IntKind.i64
  (Int.tmod (U2.a (List.getD l 3 Enc.dflt)) (8 : Int)))]
  false 1),
  some
  (AObj.cells
  [Value.int IntKind.i64 (2 : Int),
  Value.int IntKind.i64
  (IntKind.wrap IntKind.i64 (U2.b (List.getD l 3 Enc.dflt))),
  Value.float FloatKind.f64 0]
  false 3)])))))))
  (M AX.normal
  (mkF 118
  [(0, Value.slice (some (Addr.mk 0 0 (some 0))) (List.length l) c),
  (5, Value.int IntKind.i64 N),
  (6,
  Value.slice (some (Addr.mk 1 0 (some 0))) (List.length A) 0),
  (7,
  Value.slice (some (Addr.mk 2 0 (some 0))) (List.length W) 0),
  (9, Value.slice (some (Addr.mk 3 0 none)) 2 2),
  (10, Value.int IntKind.i64 (4 : Int))])
  (mkS
  [some (AObj.row Rk.still 2 0 (List.length l) (encL l)),
  some (AObj.row Rk.mine 3 0 (List.length A) (encL A)),
  some (AObj.row Rk.mine 3 0 (List.length W) (encL W)),
  some
  (AObj.cells
  [Value.int IntKind.i64 (0 : Int), Value.int IntKind.i64 (0 : Int),
  Value.slice (some (Addr.mk 4 0 none)) 3 3,
  Value.slice (some (Addr.mk 5 0 none)) 3 3,
  Value.int IntKind.i64 (0 : Int), Value.int IntKind.i64 (0 : Int),
  Value.slice (some (Addr.mk 6 0 none)) 1 1,
  Value.slice (some (Addr.mk 7 0 none)) 1 1]
  false 4),
  some
  (AObj.cells
  [Value.int IntKind.i64
  (IntKind.wrap IntKind.i64 (Int.tmod (U2.a (List.getD l 0 Enc.dflt)) (8 : Int))),
  Value.int IntKind.i64
  (IntKind.wrap IntKind.i64 (Int.tmod (U2.a (List.getD l 1 Enc.dflt)) (8 : Int))),
  Value.int IntKind.i64
  (IntKind.wrap IntKind.i64 (Int.tmod (U2.a (List.getD l 2 Enc.dflt)) (8 : Int)))]
  false 1),
  some
  (AObj.cells
  [Value.int IntKind.i64 (2 : Int),
  Value.int IntKind.i64 (IntKind.wrap IntKind.i64 (U2.b (List.getD l 0 Enc.dflt))),
  Value.float FloatKind.f64 0, Value.int IntKind.i64 (2 : Int),
  Value.int IntKind.i64 (IntKind.wrap IntKind.i64 (U2.b (List.getD l 1 Enc.dflt))),
  Value.float FloatKind.f64 0, Value.int IntKind.i64 (2 : Int),
  Value.int IntKind.i64 (IntKind.wrap IntKind.i64 (U2.b (List.getD l 2 Enc.dflt))),
  Value.float FloatKind.f64 0]
  false 3),
  some
  (AObj.cells
  [Value.int IntKind.i64
  (IntKind.wrap IntKind.i64 (Int.tmod (U2.a (List.getD l 3 Enc.dflt)) (8 : Int)))]
  false 1),
  some
  (AObj.cells
  [Value.int IntKind.i64 (2 : Int),
  Value.int IntKind.i64 (IntKind.wrap IntKind.i64 (U2.b (List.getD l 3 Enc.dflt))),
  Value.float FloatKind.f64 0]
  false 3)])))))))))
  (M (AX.exit 2)
  (mkF 118
  [(0, Value.slice (some (Addr.mk 0 0 (some 0))) (List.length l) c),
  (5, Value.int IntKind.i64 N),
  (6, Value.slice (some (Addr.mk 1 0 (some 0))) (List.length A) 0),
  (7, Value.slice (some (Addr.mk 2 0 (some 0))) (List.length W) 0),
  (9, Value.slice (some (Addr.mk 3 0 none)) 1 1),
  (10, Value.int IntKind.i64 (3 : Int))])
  (mkS
  [some (AObj.row Rk.still 2 0 (List.length l) (encL l)),
  some (AObj.row Rk.mine 3 0 (List.length A) (encL A)),
  some (AObj.row Rk.mine 3 0 (List.length W) (encL W)),
  some
  (AObj.cells
  [Value.int IntKind.i64 (0 : Int), Value.int IntKind.i64 (0 : Int),
  Value.slice (some (Addr.mk 4 0 none)) 3 3,
  Value.slice (some (Addr.mk 5 0 none)) 3 3]
  false 4),
  some
  (AObj.cells
  [Value.int IntKind.i64
  (IntKind.wrap IntKind.i64 (Int.tmod (U2.a (List.getD l 0 Enc.dflt)) (8 : Int))),
  Value.int IntKind.i64
  (IntKind.wrap IntKind.i64 (Int.tmod (U2.a (List.getD l 1 Enc.dflt)) (8 : Int))),
  Value.int IntKind.i64
  (IntKind.wrap IntKind.i64 (Int.tmod (U2.a (List.getD l 2 Enc.dflt)) (8 : Int)))]
  false 1),
  some
  (AObj.cells
  [Value.int IntKind.i64 (2 : Int),
  Value.int IntKind.i64 (IntKind.wrap IntKind.i64 (U2.b (List.getD l 0 Enc.dflt))),
  Value.float FloatKind.f64 0, Value.int IntKind.i64 (2 : Int),
  Value.int IntKind.i64 (IntKind.wrap IntKind.i64 (U2.b (List.getD l 1 Enc.dflt))),
  Value.float FloatKind.f64 0, Value.int IntKind.i64 (2 : Int),
  Value.int IntKind.i64 (IntKind.wrap IntKind.i64 (U2.b (List.getD l 2 Enc.dflt))),
  Value.float FloatKind.f64 0]
  false 3)]))) := by kernel_rfl
theorem vc_lr4 (l : List U2) (A W : List Vl) (c : Nat) (N : Int) (β : Bs) (M : Kt) (ex : Nat → Kt → Prop) : roundJ Try.prog toldL 100 20 β (fun _ => 0) (cnOf 1 slL) ex 5 2 1 lvL (F2_4 l A W c N) (S2_4 l A W) M =
(  br (decide ((4 : Int) < Int.ofNat (List.length l)))
  (need (Nat.blt 4 (List.length l))
  (need (true && Nat.blt 4 (List.length l))
  (need (Nat.blt 4 (List.length l))
  (need (true && Nat.blt 4 (List.length l))
  (need (Nat.blt 4 (List.length l))
  (need (true && Nat.blt 4 (List.length l))
  (br (decide (IntKind.wrap IntKind.i64 (Int.tmod (U2.a (List.getD l 4 Enc.dflt)) (8 : Int)) < N))
  (need (Nat.blt 4 (List.length l))
  (need (true && Nat.blt 4 (List.length l))
  (need (decide ((0 : Int) ≤ Int.tmod (U2.a (List.getD l 4 Enc.dflt)) (8 : Int)))
  (need
  (Nat.blt (Int.toNat (Int.tmod (U2.a (List.getD l 4 Enc.dflt)) (8 : Int)))
  (List.length W))
  (need
  (Nat.blt (0 + Int.toNat (Int.tmod (U2.a (List.getD l 4 Enc.dflt)) (8 : Int)))
  (List.length W))
  (M AX.normal
  (mkF 118
  [(0,
  Value.slice (some (Addr.mk 0 0 (some 0))) (List.length l) c),
  (5, Value.int IntKind.i64 N),
  (6,
  Value.slice (some (Addr.mk 1 0 (some 0))) (List.length A)
  0),
  (7,
  Value.slice (some (Addr.mk 2 0 (some 0))) (List.length W)
  0),
  (9, Value.slice (some (Addr.mk 3 0 none)) 2 2),
  (10, Value.int IntKind.i64 (5 : Int))])
  (mkS
  [some (AObj.row Rk.still 2 0 (List.length l) (encL l)),
  some (AObj.row Rk.mine 3 0 (List.length A) (encL A)),
  some
  (AObj.row Rk.mine 3 0 (List.length W)
  (putT
  (0 +
  Int.toNat (Int.tmod (U2.a (List.getD l 4 Enc.dflt)) (8 : Int)))
  0
  [Td.sc (Value.int IntKind.i64 (2 : Int)),
  Td.sc
  (Value.int IntKind.i64
  (IntKind.wrap IntKind.i64 (U2.b (List.getD l 4 Enc.dflt)))),
  Td.sc (Value.float FloatKind.f64 0)]
  (encL W))),
  some
  (AObj.cells
  [Value.int IntKind.i64 (0 : Int), Value.int IntKind.i64 (0 : Int),
  Value.slice (some (Addr.mk 4 0 none)) 3 3,
  Value.slice (some (Addr.mk 5 0 none)) 3 3,
  Value.int IntKind.i64 (0 : Int), Value.int IntKind.i64 (0 : Int),
  Value.slice (some (Addr.mk 6 0 none)) 2 2,
  Value.slice (some (Addr.mk 7 0 none)) 2 2]
  false 4),
  some
  (AObj.cells
  [Value.int IntKind.i64
  (IntKind.wrap IntKind.i64
  (Int.tmod (U2.a (List.getD l 0 Enc.dflt)) (8 : Int))),
  Value.int IntKind.i64
  (IntKind.wrap IntKind.i64
  (Int.tmod (U2.a (List.getD l 1 Enc.dflt)) (8 : Int))),
  Value.int IntKind.i64
  (IntKind.wrap IntKind.i64
  (Int.tmod (U2.a (List.getD l 2 Enc.dflt)) (8 : Int)))]
  false 1),
  some
  (AObj.cells
  [Value.int IntKind.i64 (2 : Int),
  Value.int IntKind.i64
  (IntKind.wrap IntKind.i64 (U2.b (List.getD l 0 Enc.dflt))),
  Value.float FloatKind.f64 0, Value.int IntKind.i64 (2 : Int),
  Value.int IntKind.i64
  (IntKind.wrap IntKind.i64 (U2.b (List.getD l 1 Enc.dflt))),
  Value.float FloatKind.f64 0, Value.int IntKind.i64 (2 : Int),
  Value.int IntKind.i64
  (IntKind.wrap IntKind.i64 (U2.b (List.getD l 2 Enc.dflt))),
  Value.float FloatKind.f64 0]
  false 3),
  some
  (AObj.cells
  [Value.int IntKind.i64
  (IntKind.wrap IntKind.i64
  (Int.tmod (U2.a (List.getD l 3 Enc.dflt)) (8 : Int))),
  Value.int IntKind.i64
  (IntKind.wrap IntKind.i64
  (Int.tmod (U2.a (List.getD l 4 Enc.dflt)) (8 : Int)))]
  false 1),
  some
  (AObj.cells
  [Value.int IntKind.i64 (2 : Int),
  Value.int IntKind.i64
  (IntKind.wrap IntKind.i64 (U2.b (List.getD l 3 Enc.dflt))),
  Value.float FloatKind.f64 0, Value.int IntKind.i64 (2 : Int),
  Value.int IntKind.i64
  (IntKind.wrap IntKind.i64 (U2.b (List.getD l 4 Enc.dflt))),
  Value.float FloatKind.f64 0]
  false 3)])))))))
  (M AX.normal
  (mkF 118
  [(0, Value.slice (some (Addr.mk 0 0 (some 0))) (List.length l) c),
  (5, Value.int IntKind.i64 N),
  (6,
  Value.slice (some (Addr.mk 1 0 (some 0))) (List.length A) 0),
  (7,
  Value.slice (some (Addr.mk 2 0 (some 0))) (List.length W) 0),
  (9, Value.slice (some (Addr.mk 3 0 none)) 2 2),
  (10, Value.int IntKind.i64 (5 : Int))])
  (mkS
  [some (AObj.row Rk.still 2 0 (List.length l) (encL l)),
  some (AObj.row Rk.mine 3 0 (List.length A) (encL A)),
  some (AObj.row Rk.mine 3 0 (List.length W) (encL W)),
  some
  (AObj.cells
  [Value.int IntKind.i64 (0 : Int), Value.int IntKind.i64 (0 : Int),
  Value.slice (some (Addr.mk 4 0 none)) 3 3,
  Value.slice (some (Addr.mk 5 0 none)) 3 3,
  Value.int IntKind.i64 (0 : Int), Value.int IntKind.i64 (0 : Int),
  Value.slice (some (Addr.mk 6 0 none)) 2 2,
  Value.slice (some (Addr.mk 7 0 none)) 2 2]
  false 4),
  some
  (AObj.cells
  [Value.int IntKind.i64
  (IntKind.wrap IntKind.i64 (Int.tmod (U2.a (List.getD l 0 Enc.dflt)) (8 : Int))),
  Value.int IntKind.i64
  (IntKind.wrap IntKind.i64 (Int.tmod (U2.a (List.getD l 1 Enc.dflt)) (8 : Int))),
  Value.int IntKind.i64
  (IntKind.wrap IntKind.i64 (Int.tmod (U2.a (List.getD l 2 Enc.dflt)) (8 : Int)))]
  false 1),
  some
  (AObj.cells
  [Value.int IntKind.i64 (2 : Int),
  Value.int IntKind.i64 (IntKind.wrap IntKind.i64 (U2.b (List.getD l 0 Enc.dflt))),
  Value.float FloatKind.f64 0, Value.int IntKind.i64 (2 : Int),
  Value.int IntKind.i64 (IntKind.wrap IntKind.i64 (U2.b (List.getD l 1 Enc.dflt))),
  Value.float FloatKind.f64 0, Value.int IntKind.i64 (2 : Int),
  Value.int IntKind.i64 (IntKind.wrap IntKind.i64 (U2.b (List.getD l 2 Enc.dflt))),
  Value.float FloatKind.f64 0]
  false 3),
  some
  (AObj.cells
  [Value.int IntKind.i64
  (IntKind.wrap IntKind.i64 (Int.tmod (U2.a (List.getD l 3 Enc.dflt)) (8 : Int))),
  Value.int IntKind.i64
  (IntKind.wrap IntKind.i64 (Int.tmod (U2.a (List.getD l 4 Enc.dflt)) (8 : Int)))]
  false 1),
  some
  (AObj.cells
  [Value.int IntKind.i64 (2 : Int),
  Value.int IntKind.i64 (IntKind.wrap IntKind.i64 (U2.b (List.getD l 3 Enc.dflt))),
  Value.float FloatKind.f64 0, Value.int IntKind.i64 (2 : Int),
  Value.int IntKind.i64 (IntKind.wrap IntKind.i64 (U2.b (List.getD l 4 Enc.dflt))),
  Value.float FloatKind.f64 0]
  false 3)])))))))))
  (M (AX.exit 2)
  (mkF 118
  [(0, Value.slice (some (Addr.mk 0 0 (some 0))) (List.length l) c),
  (5, Value.int IntKind.i64 N),
  (6, Value.slice (some (Addr.mk 1 0 (some 0))) (List.length A) 0),
  (7, Value.slice (some (Addr.mk 2 0 (some 0))) (List.length W) 0),
  (9, Value.slice (some (Addr.mk 3 0 none)) 2 2),
  (10, Value.int IntKind.i64 (4 : Int))])
  (mkS
  [some (AObj.row Rk.still 2 0 (List.length l) (encL l)),
  some (AObj.row Rk.mine 3 0 (List.length A) (encL A)),
  some (AObj.row Rk.mine 3 0 (List.length W) (encL W)),
  some
  (AObj.cells
  [Value.int IntKind.i64 (0 : Int), Value.int IntKind.i64 (0 : Int),
  Value.slice (some (Addr.mk 4 0 none)) 3 3,
  Value.slice (some (Addr.mk 5 0 none)) 3 3,
  Value.int IntKind.i64 (0 : Int), Value.int IntKind.i64 (0 : Int),
  Value.slice (some (Addr.mk 6 0 none)) 1 1,
  Value.slice (some (Addr.mk 7 0 none)) 1 1]
  false 4),
  some
  (AObj.cells
  [Value.int IntKind.i64
  (IntKind.wrap IntKind.i64 (Int.tmod (U2.a (List.getD l 0 Enc.dflt)) (8 : Int))),
  Value.int IntKind.i64
  (IntKind.wrap IntKind.i64 (Int.tmod (U2.a (List.getD l 1 Enc.dflt)) (8 : Int))),
  Value.int IntKind.i64
  (IntKind.wrap IntKind.i64 (Int.tmod (U2.a (List.getD l 2 Enc.dflt)) (8 : Int)))]
  false 1),
  some
  (AObj.cells
  [Value.int IntKind.i64 (2 : Int),
  Value.int IntKind.i64 (IntKind.wrap IntKind.i64 (U2.b (List.getD l 0 Enc.dflt))),
  Value.float FloatKind.f64 0, Value.int IntKind.i64 (2 : Int),
  Value.int IntKind.i64 (IntKind.wrap IntKind.i64 (U2.b (List.getD l 1 Enc.dflt))),
  Value.float FloatKind.f64 0, Value.int IntKind.i64 (2 : Int),
  Value.int IntKind.i64 (IntKind.wrap IntKind.i64 (U2.b (List.getD l 2 Enc.dflt))),
  Value.float FloatKind.f64 0]
  false 3),
  some
  (AObj.cells
  [Value.int IntKind.i64
  (IntKind.wrap IntKind.i64 (Int.tmod (U2.a (List.getD l 3 Enc.dflt)) (8 : Int)))]
  false 1),
  some
  (AObj.cells
  [Value.int IntKind.i64 (2 : Int),
  Value.int IntKind.i64 (IntKind.wrap IntKind.i64 (U2.b (List.getD l 3 Enc.dflt))),
  Value.float FloatKind.f64 0]
  false 3)]))) := by kernel_rfl
theorem vc_lr5 (l : List U2) (A W : List Vl) (c : Nat) (N : Int) (β : Bs) (M : Kt) (ex : Nat → Kt → Prop) : roundJ Try.prog toldL 100 20 β (fun _ => 0) (cnOf 1 slL) ex 5 2 1 lvL (F2_5 l A W c N) (S2_5 l A W) M =
(  br (decide ((5 : Int) < Int.ofNat (List.length l)))
  (need (Nat.blt 5 (List.length l))
  (need (true && Nat.blt 5 (List.length l))
  (need (Nat.blt 5 (List.length l))
  (need (true && Nat.blt 5 (List.length l))
  (need (Nat.blt 5 (List.length l))
  (need (true && Nat.blt 5 (List.length l))
  (br (decide (IntKind.wrap IntKind.i64 (Int.tmod (U2.a (List.getD l 5 Enc.dflt)) (8 : Int)) < N))
  (need (Nat.blt 5 (List.length l))
  (need (true && Nat.blt 5 (List.length l))
  (need (decide ((0 : Int) ≤ Int.tmod (U2.a (List.getD l 5 Enc.dflt)) (8 : Int)))
  (need
  (Nat.blt (Int.toNat (Int.tmod (U2.a (List.getD l 5 Enc.dflt)) (8 : Int)))
  (List.length W))
  (need
  (Nat.blt (0 + Int.toNat (Int.tmod (U2.a (List.getD l 5 Enc.dflt)) (8 : Int)))
  (List.length W))
  (M AX.normal
  (mkF 118
  [(0,
  Value.slice (some (Addr.mk 0 0 (some 0))) (List.length l) c),
  (5, Value.int IntKind.i64 N),
  (6,
  Value.slice (some (Addr.mk 1 0 (some 0))) (List.length A)
  0),
  (7,
  Value.slice (some (Addr.mk 2 0 (some 0))) (List.length W)
  0),
  (9, Value.slice (some (Addr.mk 3 0 none)) 2 2),
  (10, Value.int IntKind.i64 (6 : Int))])
  (mkS
  [some (AObj.row Rk.still 2 0 (List.length l) (encL l)),
  some (AObj.row Rk.mine 3 0 (List.length A) (encL A)),
  some
  (AObj.row Rk.mine 3 0 (List.length W)
  (putT
  (0 +
  Int.toNat (Int.tmod (U2.a (List.getD l 5 Enc.dflt)) (8 : Int)))
  0
  [Td.sc (Value.int IntKind.i64 (2 : Int)),
  Td.sc
  (Value.int IntKind.i64
  (IntKind.wrap IntKind.i64 (U2.b (List.getD l 5 Enc.dflt)))),
  Td.sc (Value.float FloatKind.f64 0)]
  (encL W))),
  some
  (AObj.cells
  [Value.int IntKind.i64 (0 : Int), Value.int IntKind.i64 (0 : Int),
  Value.slice (some (Addr.mk 4 0 none)) 3 3,
  Value.slice (some (Addr.mk 5 0 none)) 3 3,
  Value.int IntKind.i64 (0 : Int), Value.int IntKind.i64 (0 : Int),
  Value.slice (some (Addr.mk 6 0 none)) 3 3,
  Value.slice (some (Addr.mk 7 0 none)) 3 3]
  false 4),
  some
  (AObj.cells
  [Value.int IntKind.i64
  (IntKind.wrap IntKind.i64
  (Int.tmod (U2.a (List.getD l 0 Enc.dflt)) (8 : Int))),
  Value.int IntKind.i64
  (IntKind.wrap IntKind.i64
  (Int.tmod (U2.a (List.getD l 1 Enc.dflt)) (8 : Int))),
  Value.int IntKind.i64
  (IntKind.wrap IntKind.i64
  (Int.tmod (U2.a (List.getD l 2 Enc.dflt)) (8 : Int)))]
  false 1),
  some
  (AObj.cells
  [Value.int IntKind.i64 (2 : Int),
  Value.int IntKind.i64
  (IntKind.wrap IntKind.i64 (U2.b (List.getD l 0 Enc.dflt))),
  Value.float FloatKind.f64 0, Value.int IntKind.i64 (2 : Int),
  Value.int IntKind.i64
  (IntKind.wrap IntKind.i64 (U2.b (List.getD l 1 Enc.dflt))),
  Value.float FloatKind.f64 0, Value.int IntKind.i64 (2 : Int),
  Value.int IntKind.i64
  (IntKind.wrap IntKind.i64 (U2.b (List.getD l 2 Enc.dflt))),
  Value.float FloatKind.f64 0]
  false 3),
  some
  (AObj.cells
  [Value.int IntKind.i64
  (IntKind.wrap IntKind.i64
  (Int.tmod (U2.a (List.getD l 3 Enc.dflt)) (8 : Int))),
  Value.int IntKind.i64
  (IntKind.wrap IntKind.i64
  (Int.tmod (U2.a (List.getD l 4 Enc.dflt)) (8 : Int))),
  Value.int IntKind.i64
  (IntKind.wrap IntKind.i64
  (Int.tmod (U2.a (List.getD l 5 Enc.dflt)) (8 : Int)))]
  false 1),
  some
  (AObj.cells
  [Value.int IntKind.i64 (2 : Int),
  Value.int IntKind.i64
  (IntKind.wrap IntKind.i64 (U2.b (List.getD l 3 Enc.dflt))),
  Value.float FloatKind.f64 0, Value.int IntKind.i64 (2 : Int),
  Value.int IntKind.i64
  (IntKind.wrap IntKind.i64 (U2.b (List.getD l 4 Enc.dflt))),
  Value.float FloatKind.f64 0, Value.int IntKind.i64 (2 : Int),
  Value.int IntKind.i64
  (IntKind.wrap IntKind.i64 (U2.b (List.getD l 5 Enc.dflt))),
  Value.float FloatKind.f64 0]
  false 3)])))))))
  (M AX.normal
  (mkF 118
  [(0, Value.slice (some (Addr.mk 0 0 (some 0))) (List.length l) c),
  (5, Value.int IntKind.i64 N),
  (6,
  Value.slice (some (Addr.mk 1 0 (some 0))) (List.length A) 0),
  (7,
  Value.slice (some (Addr.mk 2 0 (some 0))) (List.length W) 0),
  (9, Value.slice (some (Addr.mk 3 0 none)) 2 2),
  (10, Value.int IntKind.i64 (6 : Int))])
  (mkS
  [some (AObj.row Rk.still 2 0 (List.length l) (encL l)),
  some (AObj.row Rk.mine 3 0 (List.length A) (encL A)),
  some (AObj.row Rk.mine 3 0 (List.length W) (encL W)),
  some
  (AObj.cells
  [Value.int IntKind.i64 (0 : Int), Value.int IntKind.i64 (0 : Int),
  Value.slice (some (Addr.mk 4 0 none)) 3 3,
  Value.slice (some (Addr.mk 5 0 none)) 3 3,
  Value.int IntKind.i64 (0 : Int), Value.int IntKind.i64 (0 : Int),
  Value.slice (some (Addr.mk 6 0 none)) 3 3,
  Value.slice (some (Addr.mk 7 0 none)) 3 3]
  false 4),
  some
  (AObj.cells
  [Value.int IntKind.i64
  (IntKind.wrap IntKind.i64 (Int.tmod (U2.a (List.getD l 0 Enc.dflt)) (8 : Int))),
  Value.int IntKind.i64
  (IntKind.wrap IntKind.i64 (Int.tmod (U2.a (List.getD l 1 Enc.dflt)) (8 : Int))),
  Value.int IntKind.i64
  (IntKind.wrap IntKind.i64 (Int.tmod (U2.a (List.getD l 2 Enc.dflt)) (8 : Int)))]
  false 1),
  some
  (AObj.cells
  [Value.int IntKind.i64 (2 : Int),
  Value.int IntKind.i64 (IntKind.wrap IntKind.i64 (U2.b (List.getD l 0 Enc.dflt))),
  Value.float FloatKind.f64 0, Value.int IntKind.i64 (2 : Int),
  Value.int IntKind.i64 (IntKind.wrap IntKind.i64 (U2.b (List.getD l 1 Enc.dflt))),
  Value.float FloatKind.f64 0, Value.int IntKind.i64 (2 : Int),
  Value.int IntKind.i64 (IntKind.wrap IntKind.i64 (U2.b (List.getD l 2 Enc.dflt))),
  Value.float FloatKind.f64 0]
  false 3),
  some
  (AObj.cells
  [Value.int IntKind.i64
  (IntKind.wrap IntKind.i64 (Int.tmod (U2.a (List.getD l 3 Enc.dflt)) (8 : Int))),
  Value.int IntKind.i64
  (IntKind.wrap IntKind.i64 (Int.tmod (U2.a (List.getD l 4 Enc.dflt)) (8 : Int))),
  Value.int IntKind.i64
  (IntKind.wrap IntKind.i64 (Int.tmod (U2.a (List.getD l 5 Enc.dflt)) (8 : Int)))]
  false 1),
  some
  (AObj.cells
  [Value.int IntKind.i64 (2 : Int),
  Value.int IntKind.i64 (IntKind.wrap IntKind.i64 (U2.b (List.getD l 3 Enc.dflt))),
  Value.float FloatKind.f64 0, Value.int IntKind.i64 (2 : Int),
  Value.int IntKind.i64 (IntKind.wrap IntKind.i64 (U2.b (List.getD l 4 Enc.dflt))),
  Value.float FloatKind.f64 0, Value.int IntKind.i64 (2 : Int),
  Value.int IntKind.i64 (IntKind.wrap IntKind.i64 (U2.b (List.getD l 5 Enc.dflt))),
  Value.float FloatKind.f64 0]
  false 3)])))))))))
  (M (AX.exit 2)
  (mkF 118
  [(0, Value.slice (some (Addr.mk 0 0 (some 0))) (List.length l) c),
  (5, Value.int IntKind.i64 N),
  (6, Value.slice (some (Addr.mk 1 0 (some 0))) (List.length A) 0),
  (7, Value.slice (some (Addr.mk 2 0 (some 0))) (List.length W) 0),
  (9, Value.slice (some (Addr.mk 3 0 none)) 2 2),
  (10, Value.int IntKind.i64 (5 : Int))])
  (mkS
  [some (AObj.row Rk.still 2 0 (List.length l) (encL l)),
  some (AObj.row Rk.mine 3 0 (List.length A) (encL A)),
  some (AObj.row Rk.mine 3 0 (List.length W) (encL W)),
  some
  (AObj.cells
  [Value.int IntKind.i64 (0 : Int), Value.int IntKind.i64 (0 : Int),
  Value.slice (some (Addr.mk 4 0 none)) 3 3,
  Value.slice (some (Addr.mk 5 0 none)) 3 3,
  Value.int IntKind.i64 (0 : Int), Value.int IntKind.i64 (0 : Int),
  Value.slice (some (Addr.mk 6 0 none)) 2 2,
  Value.slice (some (Addr.mk 7 0 none)) 2 2]
  false 4),
  some
  (AObj.cells
  [Value.int IntKind.i64
  (IntKind.wrap IntKind.i64 (Int.tmod (U2.a (List.getD l 0 Enc.dflt)) (8 : Int))),
  Value.int IntKind.i64
  (IntKind.wrap IntKind.i64 (Int.tmod (U2.a (List.getD l 1 Enc.dflt)) (8 : Int))),
  Value.int IntKind.i64
  (IntKind.wrap IntKind.i64 (Int.tmod (U2.a (List.getD l 2 Enc.dflt)) (8 : Int)))]
  false 1),
  some
  (AObj.cells
  [Value.int IntKind.i64 (2 : Int),
  Value.int IntKind.i64 (IntKind.wrap IntKind.i64 (U2.b (List.getD l 0 Enc.dflt))),
  Value.float FloatKind.f64 0, Value.int IntKind.i64 (2 : Int),
  Value.int IntKind.i64 (IntKind.wrap IntKind.i64 (U2.b (List.getD l 1 Enc.dflt))),
  Value.float FloatKind.f64 0, Value.int IntKind.i64 (2 : Int),
  Value.int IntKind.i64 (IntKind.wrap IntKind.i64 (U2.b (List.getD l 2 Enc.dflt))),
  Value.float FloatKind.f64 0]
  false 3),
  some
  (AObj.cells
  [Value.int IntKind.i64
  (IntKind.wrap IntKind.i64 (Int.tmod (U2.a (List.getD l 3 Enc.dflt)) (8 : Int))),
  Value.int IntKind.i64
  (IntKind.wrap IntKind.i64 (Int.tmod (U2.a (List.getD l 4 Enc.dflt)) (8 : Int)))]
  false 1),
  some
  (AObj.cells
  [Value.int IntKind.i64 (2 : Int),
  Value.int IntKind.i64 (IntKind.wrap IntKind.i64 (U2.b (List.getD l 3 Enc.dflt))),
  Value.float FloatKind.f64 0, Value.int IntKind.i64 (2 : Int),
  Value.int IntKind.i64 (IntKind.wrap IntKind.i64 (U2.b (List.getD l 4 Enc.dflt))),
  Value.float FloatKind.f64 0]
  false 3)]))) := by kernel_rfl
theorem vc_lr6 (l : List U2) (A W : List Vl) (c : Nat) (N : Int) (β : Bs) (M : Kt) (ex : Nat → Kt → Prop) : roundJ Try.prog toldL 100 20 β (fun _ => 0) (cnOf 1 slL) ex 5 2 1 lvL (F2_6 l A W c N) (S2_6 l A W) M =
(  br (decide ((6 : Int) < Int.ofNat (List.length l)))
  (need (Nat.blt 6 (List.length l))
  (need (true && Nat.blt 6 (List.length l))
  (need (Nat.blt 6 (List.length l))
  (need (true && Nat.blt 6 (List.length l))
  (need (Nat.blt 6 (List.length l))
  (need (true && Nat.blt 6 (List.length l))
  (br (decide (IntKind.wrap IntKind.i64 (Int.tmod (U2.a (List.getD l 6 Enc.dflt)) (8 : Int)) < N))
  (need (Nat.blt 6 (List.length l))
  (need (true && Nat.blt 6 (List.length l))
  (need (decide ((0 : Int) ≤ Int.tmod (U2.a (List.getD l 6 Enc.dflt)) (8 : Int)))
  (need
  (Nat.blt (Int.toNat (Int.tmod (U2.a (List.getD l 6 Enc.dflt)) (8 : Int)))
  (List.length W))
  (need
  (Nat.blt (0 + Int.toNat (Int.tmod (U2.a (List.getD l 6 Enc.dflt)) (8 : Int)))
  (List.length W))
  (M AX.normal
  (mkF 118
  [(0,
  Value.slice (some (Addr.mk 0 0 (some 0))) (List.length l) c),
  (5, Value.int IntKind.i64 N),
  (6,
  Value.slice (some (Addr.mk 1 0 (some 0))) (List.length A)
  0),
  (7,
  Value.slice (some (Addr.mk 2 0 (some 0))) (List.length W)
  0),
  (9, Value.slice (some (Addr.mk 3 0 none)) 3 3),
  (10, Value.int IntKind.i64 (7 : Int))])
  (mkS
  [some (AObj.row Rk.still 2 0 (List.length l) (encL l)),
  some (AObj.row Rk.mine 3 0 (List.length A) (encL A)),
  some
  (AObj.row Rk.mine 3 0 (List.length W)
  (putT
  (0 +
  Int.toNat (Int.tmod (U2.a (List.getD l 6 Enc.dflt)) (8 : Int)))
  0
  [Td.sc (Value.int IntKind.i64 (2 : Int)),
  Td.sc
  (Value.int IntKind.i64
  (IntKind.wrap IntKind.i64 (U2.b (List.getD l 6 Enc.dflt)))),
  Td.sc (Value.float FloatKind.f64 0)]
  (encL W))),
  some
  (AObj.cells
  [Value.int IntKind.i64 (0 : Int), Value.int IntKind.i64 (0 : Int),
  Value.slice (some (Addr.mk 4 0 none)) 3 3,
  Value.slice (some (Addr.mk 5 0 none)) 3 3,
  Value.int IntKind.i64 (0 : Int), Value.int IntKind.i64 (0 : Int),
  Value.slice (some (Addr.mk 6 0 none)) 3 3,
  Value.slice (some (Addr.mk 7 0 none)) 3 3,
  Value.int IntKind.i64 (0 : Int), Value.int IntKind.i64 (0 : Int),
  Value.slice (some (Addr.mk 8 0 none)) 1 1,
  Value.slice (some (Addr.mk 9 0 none)) 1 1]
  false 4),
  some
  (AObj.cells
  [Value.int IntKind.i64
  (IntKind.wrap IntKind.i64
  (Int.tmod (U2.a (List.getD l 0 Enc.dflt)) (8 : Int))),
  Value.int IntKind.i64
  (IntKind.wrap IntKind.i64
  (Int.tmod (U2.a (List.getD l 1 Enc.dflt)) (8 : Int))),
  Value.int IntKind.i64
  (IntKind.wrap IntKind.i64
  (Int.tmod (U2.a (List.getD l 2 Enc.dflt)) (8 : Int)))]
  false 1),
  some
  (AObj.cells
  [Value.int IntKind.i64 (2 : Int),
  Value.int IntKind.i64
  (IntKind.wrap IntKind.i64 (U2.b (List.getD l 0 Enc.dflt))),
  Value.float FloatKind.f64 0, Value.int IntKind.i64 (2 : Int),
  Value.int IntKind.i64
  (IntKind.wrap IntKind.i64 (U2.b (List.getD l 1 Enc.dflt))),
  Value.float FloatKind.f64 0, Value.int IntKind.i64 (2 : Int),
  Value.int IntKind.i64
  (IntKind.wrap IntKind.i64 (U2.b (List.getD l 2 Enc.dflt))),
  Value.float FloatKind.f64 0]
  false 3),
  some
  (AObj.cells
  [Value.int IntKind.i64
  (IntKind.wrap IntKind.i64
  (Int.tmod (U2.a (List.getD l 3 Enc.dflt)) (8 : Int))),
  Value.int IntKind.i64
  (IntKind.wrap IntKind.i64
  (Int.tmod (U2.a (List.getD l 4 Enc.dflt)) (8 : Int))),
  Value.int IntKind.i64
  (IntKind.wrap IntKind.i64
  (Int.tmod (U2.a (List.getD l 5 Enc.dflt)) (8 : Int)))]
  false 1),
  some
  (AObj.cells
  [Value.int IntKind.i64 (2 : Int),
  Value.int IntKind.i64
  (IntKind.wrap IntKind.i64 (U2.b (List.getD l 3 Enc.dflt))),
  Value.float FloatKind.f64 0, Value.int IntKind.i64 (2 : Int),
  Value.int IntKind.i64
  (IntKind.wrap IntKind.i64 (U2.b (List.getD l 4 Enc.dflt))),
  Value.float FloatKind.f64 0, Value.int IntKind.i64 (2 : Int),
  Value.int IntKind.i64
  (IntKind.wrap IntKind.i64 (U2.b (List.getD l 5 Enc.dflt))),
  Value.float FloatKind.f64 0]
  false 3),
  some
  (AObj.cells
  [Value.int IntKind.i64
  (IntKind.wrap IntKind.i64
  (Int.tmod (U2.a (List.getD l 6 Enc.dflt)) (8 : Int)))]
  false 1),
  some
  (AObj.cells
  [Value.int IntKind.i64 (2 : Int),
  Value.int IntKind.i64
  (IntKind.wrap IntKind.i64 (U2.b (List.getD l 6 Enc.dflt))),
  Value.float FloatKind.f64 0]
  false 3)])))))))
  (M AX.normal
  (mkF 118
  [(0, Value.slice (some (Addr.mk 0 0 (some 0))) (List.length l) c),
  (5, Value.int IntKind.i64 N),
  (6,
  Value.slice (some (Addr.mk 1 0 (some 0))) (List.length A) 0),
  (7,
  Value.slice (some (Addr.mk 2 0 (some 0))) (List.length W) 0),
  (9, Value.slice (some (Addr.mk 3 0 none)) 3 3),
  (10, Value.int IntKind.i64 (7 : Int))])
  (mkS
  [some (AObj.row Rk.still 2 0 (List.length l) (encL l)),
  some (AObj.row Rk.mine 3 0 (List.length A) (encL A)),
  some (AObj.row Rk.mine 3 0 (List.length W) (encL W)),
  some
  (AObj.cells
  [Value.int IntKind.i64 (0 : Int), Value.int IntKind.i64 (0 : Int),
  Value.slice (some (Addr.mk 4 0 none)) 3 3,
  Value.slice (some (Addr.mk 5 0 none)) 3 3,
  Value.int IntKind.i64 (0 : Int), Value.int IntKind.i64 (0 : Int),
  Value.slice (some (Addr.mk 6 0 none)) 3 3,
  Value.slice (some (Addr.mk 7 0 none)) 3 3,
  Value.int IntKind.i64 (0 : Int), Value.int IntKind.i64 (0 : Int),
  Value.slice (some (Addr.mk 8 0 none)) 1 1,
  Value.slice (some (Addr.mk 9 0 none)) 1 1]
  false 4),
  some
  (AObj.cells
  [Value.int IntKind.i64
  (IntKind.wrap IntKind.i64 (Int.tmod (U2.a (List.getD l 0 Enc.dflt)) (8 : Int))),
  Value.int IntKind.i64
  (IntKind.wrap IntKind.i64 (Int.tmod (U2.a (List.getD l 1 Enc.dflt)) (8 : Int))),
  Value.int IntKind.i64
  (IntKind.wrap IntKind.i64 (Int.tmod (U2.a (List.getD l 2 Enc.dflt)) (8 : Int)))]
  false 1),
  some
  (AObj.cells
  [Value.int IntKind.i64 (2 : Int),
  Value.int IntKind.i64 (IntKind.wrap IntKind.i64 (U2.b (List.getD l 0 Enc.dflt))),
  Value.float FloatKind.f64 0, Value.int IntKind.i64 (2 : Int),
  Value.int IntKind.i64 (IntKind.wrap IntKind.i64 (U2.b (List.getD l 1 Enc.dflt))),
  Value.float FloatKind.f64 0, Value.int IntKind.i64 (2 : Int),
  Value.int IntKind.i64 (IntKind.wrap IntKind.i64 (U2.b (List.getD l 2 Enc.dflt))),
  Value.float FloatKind.f64 0]
  false 3),
  some
  (AObj.cells
  [Value.int IntKind.i64
  (IntKind.wrap IntKind.i64 (Int.tmod (U2.a (List.getD l 3 Enc.dflt)) (8 : Int))),
  Value.int IntKind.i64
  (IntKind.wrap IntKind.i64 (Int.tmod (U2.a (List.getD l 4 Enc.dflt)) (8 : Int))),
  Value.int IntKind.i64
  (IntKind.wrap IntKind.i64 (Int.tmod (U2.a (List.getD l 5 Enc.dflt)) (8 : Int)))]
  false 1),
  some
  (AObj.cells
  [Value.int IntKind.i64 (2 : Int),
  Value.int IntKind.i64 (IntKind.wrap IntKind.i64 (U2.b (List.getD l 3 Enc.dflt))),
  Value.float FloatKind.f64 0, Value.int IntKind.i64 (2 : Int),
  Value.int IntKind.i64 (IntKind.wrap IntKind.i64 (U2.b (List.getD l 4 Enc.dflt))),
  Value.float FloatKind.f64 0, Value.int IntKind.i64 (2 : Int),
  Value.int IntKind.i64 (IntKind.wrap IntKind.i64 (U2.b (List.getD l 5 Enc.dflt))),
  Value.float FloatKind.f64 0]
  false 3),
  some
  (AObj.cells
  [Value.int IntKind.i64
  (IntKind.wrap IntKind.i64 (Int.tmod (U2.a (List.getD l 6 Enc.dflt)) (8 : Int)))]
  false 1),
  some
  (AObj.cells
  [Value.int IntKind.i64 (2 : Int),
  Value.int IntKind.i64 (IntKind.wrap IntKind.i64 (U2.b (List.getD l 6 Enc.dflt))),
  Value.float FloatKind.f64 0]
  false 3)])))))))))
  (M (AX.exit 2)
  (mkF 118
  [(0, Value.slice (some (Addr.mk 0 0 (some 0))) (List.length l) c),
  (5, Value.int IntKind.i64 N),
  (6, Value.slice (some (Addr.mk 1 0 (some 0))) (List.length A) 0),
  (7, Value.slice (some (Addr.mk 2 0 (some 0))) (List.length W) 0),
  (9, Value.slice (some (Addr.mk 3 0 none)) 2 2),
  (10, Value.int IntKind.i64 (6 : Int))])
  (mkS
  [some (AObj.row Rk.still 2 0 (List.length l) (encL l)),
  some (AObj.row Rk.mine 3 0 (List.length A) (encL A)),
  some (AObj.row Rk.mine 3 0 (List.length W) (encL W)),
  some
  (AObj.cells
  [Value.int IntKind.i64 (0 : Int), Value.int IntKind.i64 (0 : Int),
  Value.slice (some (Addr.mk 4 0 none)) 3 3,
  Value.slice (some (Addr.mk 5 0 none)) 3 3,
  Value.int IntKind.i64 (0 : Int), Value.int IntKind.i64 (0 : Int),
  Value.slice (some (Addr.mk 6 0 none)) 3 3,
  Value.slice (some (Addr.mk 7 0 none)) 3 3]
  false 4),
  some
  (AObj.cells
  [Value.int IntKind.i64
  (IntKind.wrap IntKind.i64 (Int.tmod (U2.a (List.getD l 0 Enc.dflt)) (8 : Int))),
  Value.int IntKind.i64
  (IntKind.wrap IntKind.i64 (Int.tmod (U2.a (List.getD l 1 Enc.dflt)) (8 : Int))),
  Value.int IntKind.i64
  (IntKind.wrap IntKind.i64 (Int.tmod (U2.a (List.getD l 2 Enc.dflt)) (8 : Int)))]
  false 1),
  some
  (AObj.cells
  [Value.int IntKind.i64 (2 : Int),
  Value.int IntKind.i64 (IntKind.wrap IntKind.i64 (U2.b (List.getD l 0 Enc.dflt))),
  Value.float FloatKind.f64 0, Value.int IntKind.i64 (2 : Int),
  Value.int IntKind.i64 (IntKind.wrap IntKind.i64 (U2.b (List.getD l 1 Enc.dflt))),
  Value.float FloatKind.f64 0, Value.int IntKind.i64 (2 : Int),
  Value.int IntKind.i64 (IntKind.wrap IntKind.i64 (U2.b (List.getD l 2 Enc.dflt))),
  Value.float FloatKind.f64 0]
  false 3),
  some
  (AObj.cells
  [Value.int IntKind.i64
  (IntKind.wrap IntKind.i64 (Int.tmod (U2.a (List.getD l 3 Enc.dflt)) (8 : Int))),
  Value.int IntKind.i64
  (IntKind.wrap IntKind.i64 (Int.tmod (U2.a (List.getD l 4 Enc.dflt)) (8 : Int))),
  Value.int IntKind.i64
  (IntKind.wrap IntKind.i64 (Int.tmod (U2.a (List.getD l 5 Enc.dflt)) (8 : Int)))]
  false 1),
  some
  (AObj.cells
  [Value.int IntKind.i64 (2 : Int),
  Value.int IntKind.i64 (IntKind.wrap IntKind.i64 (U2.b (List.getD l 3 Enc.dflt))),
  Value.float FloatKind.f64 0, Value.int IntKind.i64 (2 : Int),
  Value.int IntKind.i64 (IntKind.wrap IntKind.i64 (U2.b (List.getD l 4 Enc.dflt))),
  Value.float FloatKind.f64 0, Value.int IntKind.i64 (2 : Int),
  Value.int IntKind.i64 (IntKind.wrap IntKind.i64 (U2.b (List.getD l 5 Enc.dflt))),
  Value.float FloatKind.f64 0]
  false 3)]))) := by kernel_rfl
theorem vc_lr7 (l : List U2) (A W : List Vl) (c : Nat) (N : Int) (β : Bs) (M : Kt) (ex : Nat → Kt → Prop) : roundJ Try.prog toldL 100 20 β (fun _ => 0) (cnOf 1 slL) ex 5 2 1 lvL (F2_7 l A W c N) (S2_7 l A W) M =
(  br (decide ((7 : Int) < Int.ofNat (List.length l)))
  (need (Nat.blt 7 (List.length l))
  (need (true && Nat.blt 7 (List.length l))
  (need (Nat.blt 7 (List.length l))
  (need (true && Nat.blt 7 (List.length l))
  (need (Nat.blt 7 (List.length l))
  (need (true && Nat.blt 7 (List.length l))
  (br (decide (IntKind.wrap IntKind.i64 (Int.tmod (U2.a (List.getD l 7 Enc.dflt)) (8 : Int)) < N))
  (need (Nat.blt 7 (List.length l))
  (need (true && Nat.blt 7 (List.length l))
  (need (decide ((0 : Int) ≤ Int.tmod (U2.a (List.getD l 7 Enc.dflt)) (8 : Int)))
  (need
  (Nat.blt (Int.toNat (Int.tmod (U2.a (List.getD l 7 Enc.dflt)) (8 : Int)))
  (List.length W))
  (need
  (Nat.blt (0 + Int.toNat (Int.tmod (U2.a (List.getD l 7 Enc.dflt)) (8 : Int)))
  (List.length W))
  (M AX.normal
  (mkF 118
  [(0,
  Value.slice (some (Addr.mk 0 0 (some 0))) (List.length l) c),
  (5, Value.int IntKind.i64 N),
  (6,
  Value.slice (some (Addr.mk 1 0 (some 0))) (List.length A)
  0),
  (7,
  Value.slice (some (Addr.mk 2 0 (some 0))) (List.length W)
  0),
  (9, Value.slice (some (Addr.mk 3 0 none)) 3 3),
  (10, Value.int IntKind.i64 (8 : Int))])
  (mkS
  [some (AObj.row Rk.still 2 0 (List.length l) (encL l)),
  some (AObj.row Rk.mine 3 0 (List.length A) (encL A)),
  some
  (AObj.row Rk.mine 3 0 (List.length W)
  (putT
  (0 +
  Int.toNat (Int.tmod (U2.a (List.getD l 7 Enc.dflt)) (8 : Int)))
  0
  [Td.sc (Value.int IntKind.i64 (2 : Int)),
  Td.sc
  (Value.int IntKind.i64
  (IntKind.wrap IntKind.i64 (U2.b (List.getD l 7 Enc.dflt)))),
  Td.sc (Value.float FloatKind.f64 0)]
  (encL W))),
  some
  (AObj.cells
  [Value.int IntKind.i64 (0 : Int), Value.int IntKind.i64 (0 : Int),
  Value.slice (some (Addr.mk 4 0 none)) 3 3,
  Value.slice (some (Addr.mk 5 0 none)) 3 3,
  Value.int IntKind.i64 (0 : Int), Value.int IntKind.i64 (0 : Int),
  Value.slice (some (Addr.mk 6 0 none)) 3 3,
  Value.slice (some (Addr.mk 7 0 none)) 3 3,
  Value.int IntKind.i64 (0 : Int), Value.int IntKind.i64 (0 : Int),
  Value.slice (some (Addr.mk 8 0 none)) 2 2,
  Value.slice (some (Addr.mk 9 0 none)) 2 2]
  false 4),
  some
  (AObj.cells
  [Value.int IntKind.i64
  (IntKind.wrap IntKind.i64
  (Int.tmod (U2.a (List.getD l 0 Enc.dflt)) (8 : Int))),
  Value.int IntKind.i64
  (IntKind.wrap IntKind.i64
  (Int.tmod (U2.a (List.getD l 1 Enc.dflt)) (8 : Int))),
  Value.int IntKind.i64
  (IntKind.wrap IntKind.i64
  (Int.tmod (U2.a (List.getD l 2 Enc.dflt)) (8 : Int)))]
  false 1),
  some
  (AObj.cells
  [Value.int IntKind.i64 (2 : Int),
  Value.int IntKind.i64
  (IntKind.wrap IntKind.i64 (U2.b (List.getD l 0 Enc.dflt))),
  Value.float FloatKind.f64 0, Value.int IntKind.i64 (2 : Int),
  Value.int IntKind.i64
  (IntKind.wrap IntKind.i64 (U2.b (List.getD l 1 Enc.dflt))),
  Value.float FloatKind.f64 0, Value.int IntKind.i64 (2 : Int),
  Value.int IntKind.i64
  (IntKind.wrap IntKind.i64 (U2.b (List.getD l 2 Enc.dflt))),
  Value.float FloatKind.f64 0]
  false 3),
  some
  (AObj.cells
  [Value.int IntKind.i64
  (IntKind.wrap IntKind.i64
  (Int.tmod (U2.a (List.getD l 3 Enc.dflt)) (8 : Int))),
  Value.int IntKind.i64
  (IntKind.wrap IntKind.i64
  (Int.tmod (U2.a (List.getD l 4 Enc.dflt)) (8 : Int))),
  Value.int IntKind.i64
  (IntKind.wrap IntKind.i64
  (Int.tmod (U2.a (List.getD l 5 Enc.dflt)) (8 : Int)))]
  false 1),
  some
  (AObj.cells
  [Value.int IntKind.i64 (2 : Int),
  Value.int IntKind.i64
  (IntKind.wrap IntKind.i64 (U2.b (List.getD l 3 Enc.dflt))),
  Value.float FloatKind.f64 0, Value.int IntKind.i64 (2 : Int),
  Value.int IntKind.i64
  (IntKind.wrap IntKind.i64 (U2.b (List.getD l 4 Enc.dflt))),
  Value.float FloatKind.f64 0, Value.int IntKind.i64 (2 : Int),
  Value.int IntKind.i64
  (IntKind.wrap IntKind.i64 (U2.b (List.getD l 5 Enc.dflt))),
  Value.float FloatKind.f64 0]
  false 3),
  some
  (AObj.cells
  [Value.int IntKind.i64
  (IntKind.wrap IntKind.i64
  (Int.tmod (U2.a (List.getD l 6 Enc.dflt)) (8 : Int))),
  Value.int IntKind.i64
  (IntKind.wrap IntKind.i64
  (Int.tmod (U2.a (List.getD l 7 Enc.dflt)) (8 : Int)))]
  false 1),
  some
  (AObj.cells
  [Value.int IntKind.i64 (2 : Int),
  Value.int IntKind.i64
  (IntKind.wrap IntKind.i64 (U2.b (List.getD l 6 Enc.dflt))),
  Value.float FloatKind.f64 0, Value.int IntKind.i64 (2 : Int),
  Value.int IntKind.i64
  (IntKind.wrap IntKind.i64 (U2.b (List.getD l 7 Enc.dflt))),
  Value.float FloatKind.f64 0]
  false 3)])))))))
  (M AX.normal
  (mkF 118
  [(0, Value.slice (some (Addr.mk 0 0 (some 0))) (List.length l) c),
  (5, Value.int IntKind.i64 N),
  (6,
  Value.slice (some (Addr.mk 1 0 (some 0))) (List.length A) 0),
  (7,
  Value.slice (some (Addr.mk 2 0 (some 0))) (List.length W) 0),
  (9, Value.slice (some (Addr.mk 3 0 none)) 3 3),
  (10, Value.int IntKind.i64 (8 : Int))])
  (mkS
  [some (AObj.row Rk.still 2 0 (List.length l) (encL l)),
  some (AObj.row Rk.mine 3 0 (List.length A) (encL A)),
  some (AObj.row Rk.mine 3 0 (List.length W) (encL W)),
  some
  (AObj.cells
  [Value.int IntKind.i64 (0 : Int), Value.int IntKind.i64 (0 : Int),
  Value.slice (some (Addr.mk 4 0 none)) 3 3,
  Value.slice (some (Addr.mk 5 0 none)) 3 3,
  Value.int IntKind.i64 (0 : Int), Value.int IntKind.i64 (0 : Int),
  Value.slice (some (Addr.mk 6 0 none)) 3 3,
  Value.slice (some (Addr.mk 7 0 none)) 3 3,
  Value.int IntKind.i64 (0 : Int), Value.int IntKind.i64 (0 : Int),
  Value.slice (some (Addr.mk 8 0 none)) 2 2,
  Value.slice (some (Addr.mk 9 0 none)) 2 2]
  false 4),
  some
  (AObj.cells
  [Value.int IntKind.i64
  (IntKind.wrap IntKind.i64 (Int.tmod (U2.a (List.getD l 0 Enc.dflt)) (8 : Int))),
  Value.int IntKind.i64
  (IntKind.wrap IntKind.i64 (Int.tmod (U2.a (List.getD l 1 Enc.dflt)) (8 : Int))),
  Value.int IntKind.i64
  (IntKind.wrap IntKind.i64 (Int.tmod (U2.a (List.getD l 2 Enc.dflt)) (8 : Int)))]
  false 1),
  some
  (AObj.cells
  [Value.int IntKind.i64 (2 : Int),
  Value.int IntKind.i64 (IntKind.wrap IntKind.i64 (U2.b (List.getD l 0 Enc.dflt))),
  Value.float FloatKind.f64 0, Value.int IntKind.i64 (2 : Int),
  Value.int IntKind.i64 (IntKind.wrap IntKind.i64 (U2.b (List.getD l 1 Enc.dflt))),
  Value.float FloatKind.f64 0, Value.int IntKind.i64 (2 : Int),
  Value.int IntKind.i64 (IntKind.wrap IntKind.i64 (U2.b (List.getD l 2 Enc.dflt))),
  Value.float FloatKind.f64 0]
  false 3),
  some
  (AObj.cells
  [Value.int IntKind.i64
  (IntKind.wrap IntKind.i64 (Int.tmod (U2.a (List.getD l 3 Enc.dflt)) (8 : Int))),
  Value.int IntKind.i64
  (IntKind.wrap IntKind.i64 (Int.tmod (U2.a (List.getD l 4 Enc.dflt)) (8 : Int))),
  Value.int IntKind.i64
  (IntKind.wrap IntKind.i64 (Int.tmod (U2.a (List.getD l 5 Enc.dflt)) (8 : Int)))]
  false 1),
  some
  (AObj.cells
  [Value.int IntKind.i64 (2 : Int),
  Value.int IntKind.i64 (IntKind.wrap IntKind.i64 (U2.b (List.getD l 3 Enc.dflt))),
  Value.float FloatKind.f64 0, Value.int IntKind.i64 (2 : Int),
  Value.int IntKind.i64 (IntKind.wrap IntKind.i64 (U2.b (List.getD l 4 Enc.dflt))),
  Value.float FloatKind.f64 0, Value.int IntKind.i64 (2 : Int),
  Value.int IntKind.i64 (IntKind.wrap IntKind.i64 (U2.b (List.getD l 5 Enc.dflt))),
  Value.float FloatKind.f64 0]
  false 3),
  some
  (AObj.cells
  [Value.int IntKind.i64
  (IntKind.wrap IntKind.i64 (Int.tmod (U2.a (List.getD l 6 Enc.dflt)) (8 : Int))),
  Value.int IntKind.i64
  (IntKind.wrap IntKind.i64 (Int.tmod (U2.a (List.getD l 7 Enc.dflt)) (8 : Int)))]
  false 1),
  some
  (AObj.cells
  [Value.int IntKind.i64 (2 : Int),
  Value.int IntKind.i64 (IntKind.wrap IntKind.i64 (U2.b (List.getD l 6 Enc.dflt))),
  Value.float FloatKind.f64 0, Value.int IntKind.i64 (2 : Int),
  Value.int IntKind.i64 (IntKind.wrap IntKind.i64 (U2.b (List.getD l 7 Enc.dflt))),
  Value.float FloatKind.f64 0]
  false 3)])))))))))
  (M (AX.exit 2)
  (mkF 118
  [(0, Value.slice (some (Addr.mk 0 0 (some 0))) (List.length l) c),
  (5, Value.int IntKind.i64 N),
  (6, Value.slice (some (Addr.mk 1 0 (some 0))) (List.length A) 0),
  (7, Value.slice (some (Addr.mk 2 0 (some 0))) (List.length W) 0),
  (9, Value.slice (some (Addr.mk 3 0 none)) 3 3),
  (10, Value.int IntKind.i64 (7 : Int))])
  (mkS
  [some (AObj.row Rk.still 2 0 (List.length l) (encL l)),
  some (AObj.row Rk.mine 3 0 (List.length A) (encL A)),
  some (AObj.row Rk.mine 3 0 (List.length W) (encL W)),
  some
  (AObj.cells
  [Value.int IntKind.i64 (0 : Int), Value.int IntKind.i64 (0 : Int),
  Value.slice (some (Addr.mk 4 0 none)) 3 3,
  Value.slice (some (Addr.mk 5 0 none)) 3 3,
  Value.int IntKind.i64 (0 : Int), Value.int IntKind.i64 (0 : Int),
  Value.slice (some (Addr.mk 6 0 none)) 3 3,
  Value.slice (some (Addr.mk 7 0 none)) 3 3,
  Value.int IntKind.i64 (0 : Int), Value.int IntKind.i64 (0 : Int),
  Value.slice (some (Addr.mk 8 0 none)) 1 1,
  Value.slice (some (Addr.mk 9 0 none)) 1 1]
  false 4),
  some
  (AObj.cells
  [Value.int IntKind.i64
  (IntKind.wrap IntKind.i64 (Int.tmod (U2.a (List.getD l 0 Enc.dflt)) (8 : Int))),
  Value.int IntKind.i64
  (IntKind.wrap IntKind.i64 (Int.tmod (U2.a (List.getD l 1 Enc.dflt)) (8 : Int))),
  Value.int IntKind.i64
  (IntKind.wrap IntKind.i64 (Int.tmod (U2.a (List.getD l 2 Enc.dflt)) (8 : Int)))]
  false 1),
  some
  (AObj.cells
  [Value.int IntKind.i64 (2 : Int),
  Value.int IntKind.i64 (IntKind.wrap IntKind.i64 (U2.b (List.getD l 0 Enc.dflt))),
  Value.float FloatKind.f64 0, Value.int IntKind.i64 (2 : Int),
  Value.int IntKind.i64 (IntKind.wrap IntKind.i64 (U2.b (List.getD l 1 Enc.dflt))),
  Value.float FloatKind.f64 0, Value.int IntKind.i64 (2 : Int),
  Value.int IntKind.i64 (IntKind.wrap IntKind.i64 (U2.b (List.getD l 2 Enc.dflt))),
  Value.float FloatKind.f64 0]
  false 3),
  some
  (AObj.cells
  [Value.int IntKind.i64
  (IntKind.wrap IntKind.i64 (Int.tmod (U2.a (List.getD l 3 Enc.dflt)) (8 : Int))),
  Value.int IntKind.i64
  (IntKind.wrap IntKind.i64 (Int.tmod (U2.a (List.getD l 4 Enc.dflt)) (8 : Int))),
  Value.int IntKind.i64
  (IntKind.wrap IntKind.i64 (Int.tmod (U2.a (List.getD l 5 Enc.dflt)) (8 : Int)))]
  false 1),
  some
  (AObj.cells
  [Value.int IntKind.i64 (2 : Int),
  Value.int IntKind.i64 (IntKind.wrap IntKind.i64 (U2.b (List.getD l 3 Enc.dflt))),
  Value.float FloatKind.f64 0, Value.int IntKind.i64 (2 : Int),
  Value.int IntKind.i64 (IntKind.wrap IntKind.i64 (U2.b (List.getD l 4 Enc.dflt))),
  Value.float FloatKind.f64 0, Value.int IntKind.i64 (2 : Int),
  Value.int IntKind.i64 (IntKind.wrap IntKind.i64 (U2.b (List.getD l 5 Enc.dflt))),
  Value.float FloatKind.f64 0]
  false 3),
  some
  (AObj.cells
  [Value.int IntKind.i64
  (IntKind.wrap IntKind.i64 (Int.tmod (U2.a (List.getD l 6 Enc.dflt)) (8 : Int)))]
  false 1),
  some
  (AObj.cells
  [Value.int IntKind.i64 (2 : Int),
  Value.int IntKind.i64 (IntKind.wrap IntKind.i64 (U2.b (List.getD l 6 Enc.dflt))),
  Value.float FloatKind.f64 0]
  false 3)]))) := by kernel_rfl
theorem vc_lr8 (l : List U2) (A W : List Vl) (c : Nat) (N : Int) (β : Bs) (M : Kt) (ex : Nat → Kt → Prop) : roundJ Try.prog toldL 100 20 β (fun _ => 0) (cnOf 1 slL) ex 5 2 1 lvL (F2_8 l A W c N) (S2_8 l A W) M =
(  br (decide ((8 : Int) < Int.ofNat (List.length l)))
  (need (Nat.blt 8 (List.length l))
  (need (true && Nat.blt 8 (List.length l))
  (need (Nat.blt 8 (List.length l))
  (need (true && Nat.blt 8 (List.length l))
  (need (Nat.blt 8 (List.length l))
  (need (true && Nat.blt 8 (List.length l))
  (br (decide (IntKind.wrap IntKind.i64 (Int.tmod (U2.a (List.getD l 8 Enc.dflt)) (8 : Int)) < N))
  (need (Nat.blt 8 (List.length l))
  (need (true && Nat.blt 8 (List.length l))
  (need (decide ((0 : Int) ≤ Int.tmod (U2.a (List.getD l 8 Enc.dflt)) (8 : Int)))
  (need
  (Nat.blt (Int.toNat (Int.tmod (U2.a (List.getD l 8 Enc.dflt)) (8 : Int)))
  (List.length W))
  (need
  (Nat.blt (0 + Int.toNat (Int.tmod (U2.a (List.getD l 8 Enc.dflt)) (8 : Int)))
  (List.length W))
  (M AX.normal
  (mkF 118
  [(0,
  Value.slice (some (Addr.mk 0 0 (some 0))) (List.length l) c),
  (5, Value.int IntKind.i64 N),
  (6,
  Value.slice (some (Addr.mk 1 0 (some 0))) (List.length A)
  0),
  (7,
  Value.slice (some (Addr.mk 2 0 (some 0))) (List.length W)
  0),
  (9, Value.slice (some (Addr.mk 3 0 none)) 3 3),
  (10, Value.int IntKind.i64 (9 : Int))])
  (mkS
  [some (AObj.row Rk.still 2 0 (List.length l) (encL l)),
  some (AObj.row Rk.mine 3 0 (List.length A) (encL A)),
  some
  (AObj.row Rk.mine 3 0 (List.length W)
  (putT
  (0 +
  Int.toNat (Int.tmod (U2.a (List.getD l 8 Enc.dflt)) (8 : Int)))
  0
  [Td.sc (Value.int IntKind.i64 (2 : Int)),
  Td.sc
  (Value.int IntKind.i64
  (IntKind.wrap IntKind.i64 (U2.b (List.getD l 8 Enc.dflt)))),
  Td.sc (Value.float FloatKind.f64 0)]
  (encL W))),
  some
  (AObj.cells
  [Value.int IntKind.i64 (0 : Int), Value.int IntKind.i64 (0 : Int),
  Value.slice (some (Addr.mk 4 0 none)) 3 3,
  Value.slice (some (Addr.mk 5 0 none)) 3 3,
  Value.int IntKind.i64 (0 : Int), Value.int IntKind.i64 (0 : Int),
  Value.slice (some (Addr.mk 6 0 none)) 3 3,
  Value.slice (some (Addr.mk 7 0 none)) 3 3,
  Value.int IntKind.i64 (0 : Int), Value.int IntKind.i64 (0 : Int),
  Value.slice (some (Addr.mk 8 0 none)) 3 3,
  Value.slice (some (Addr.mk 9 0 none)) 3 3]
  false 4),
  some
  (AObj.cells
  [Value.int IntKind.i64
  (IntKind.wrap IntKind.i64
  (Int.tmod (U2.a (List.getD l 0 Enc.dflt)) (8 : Int))),
  Value.int IntKind.i64
  (IntKind.wrap IntKind.i64
  (Int.tmod (U2.a (List.getD l 1 Enc.dflt)) (8 : Int))),
  Value.int IntKind.i64
  (IntKind.wrap IntKind.i64
  (Int.tmod (U2.a (List.getD l 2 Enc.dflt)) (8 : Int)))]
  false 1),
  some
  (AObj.cells
  [Value.int IntKind.i64 (2 : Int),
  Value.int IntKind.i64
  (IntKind.wrap IntKind.i64 (U2.b (List.getD l 0 Enc.dflt))),
  Value.float FloatKind.f64 0, Value.int IntKind.i64 (2 : Int),
  Value.int IntKind.i64
  (IntKind.wrap IntKind.i64 (U2.b (List.getD l 1 Enc.dflt))),
  Value.float FloatKind.f64 0, Value.int IntKind.i64 (2 : Int),
  Value.int IntKind.i64
  (IntKind.wrap IntKind.i64 (U2.b (List.getD l 2 Enc.dflt))),
  Value.float FloatKind.f64 0]
  false 3),
  some
  (AObj.cells
  [Value.int IntKind.i64
  (IntKind.wrap IntKind.i64
  (Int.tmod (U2.a (List.getD l 3 Enc.dflt)) (8 : Int))),
  Value.int IntKind.i64
  (IntKind.wrap IntKind.i64
  (Int.tmod (U2.a (List.getD l 4 Enc.dflt)) (8 : Int))),
  Value.int IntKind.i64
  (IntKind.wrap IntKind.i64
  (Int.tmod (U2.a (List.getD l 5 Enc.dflt)) (8 : Int)))]
  false 1),
  some
  (AObj.cells
  [Value.int IntKind.i64 (2 : Int),
  Value.int IntKind.i64
  (IntKind.wrap IntKind.i64 (U2.b (List.getD l 3 Enc.dflt))),
  Value.float FloatKind.f64 0, Value.int IntKind.i64 (2 : Int),
  Value.int IntKind.i64
  (IntKind.wrap IntKind.i64 (U2.b (List.getD l 4 Enc.dflt))),
  Value.float FloatKind.f64 0, Value.int IntKind.i64 (2 : Int),
  Value.int IntKind.i64
  (IntKind.wrap IntKind.i64 (U2.b (List.getD l 5 Enc.dflt))),
  Value.float FloatKind.f64 0]
  false 3),
  some
  (AObj.cells
  [Value.int IntKind.i64
  (IntKind.wrap IntKind.i64
  (Int.tmod (U2.a (List.getD l 6 Enc.dflt)) (8 : Int))),
  Value.int IntKind.i64
  (IntKind.wrap IntKind.i64
  (Int.tmod (U2.a (List.getD l 7 Enc.dflt)) (8 : Int))),
  Value.int IntKind.i64
  (IntKind.wrap IntKind.i64
  (Int.tmod (U2.a (List.getD l 8 Enc.dflt)) (8 : Int)))]
  false 1),
  some
  (AObj.cells
  [Value.int IntKind.i64 (2 : Int),
  Value.int IntKind.i64
  (IntKind.wrap IntKind.i64 (U2.b (List.getD l 6 Enc.dflt))),
  Value.float FloatKind.f64 0, Value.int IntKind.i64 (2 : Int),
  Value.int IntKind.i64
  (IntKind.wrap IntKind.i64 (U2.b (List.getD l 7 Enc.dflt))),
  Value.float FloatKind.f64 0, Value.int IntKind.i64 (2 : Int),
  Value.int IntKind.i64
  (IntKind.wrap IntKind.i64 (U2.b (List.getD l 8 Enc.dflt))),
  Value.float FloatKind.f64 0]
  false 3)])))))))
  (M AX.normal
  (mkF 118
  [(0, Value.slice (some (Addr.mk 0 0 (some 0))) (List.length l) c),
  (5, Value.int IntKind.i64 N),
  (6,
  Value.slice (some (Addr.mk 1 0 (some 0))) (List.length A) 0),
  (7,
  Value.slice (some (Addr.mk 2 0 (some 0))) (List.length W) 0),
  (9, Value.slice (some (Addr.mk 3 0 none)) 3 3),
  (10, Value.int IntKind.i64 (9 : Int))])
  (mkS
  [some (AObj.row Rk.still 2 0 (List.length l) (encL l)),
  some (AObj.row Rk.mine 3 0 (List.length A) (encL A)),
  some (AObj.row Rk.mine 3 0 (List.length W) (encL W)),
  some
  (AObj.cells
  [Value.int IntKind.i64 (0 : Int), Value.int IntKind.i64 (0 : Int),
  Value.slice (some (Addr.mk 4 0 none)) 3 3,
  Value.slice (some (Addr.mk 5 0 none)) 3 3,
  Value.int IntKind.i64 (0 : Int), Value.int IntKind.i64 (0 : Int),
  Value.slice (some (Addr.mk 6 0 none)) 3 3,
  Value.slice (some (Addr.mk 7 0 none)) 3 3,
  Value.int IntKind.i64 (0 : Int), Value.int IntKind.i64 (0 : Int),
  Value.slice (some (Addr.mk 8 0 none)) 3 3,
  Value.slice (some (Addr.mk 9 0 none)) 3 3]
  false 4),
  some
  (AObj.cells
  [Value.int IntKind.i64
  (IntKind.wrap IntKind.i64 (Int.tmod (U2.a (List.getD l 0 Enc.dflt)) (8 : Int))),
  Value.int IntKind.i64
  (IntKind.wrap IntKind.i64 (Int.tmod (U2.a (List.getD l 1 Enc.dflt)) (8 : Int))),
  Value.int IntKind.i64
  (IntKind.wrap IntKind.i64 (Int.tmod (U2.a (List.getD l 2 Enc.dflt)) (8 : Int)))]
  false 1),
  some
  (AObj.cells
  [Value.int IntKind.i64 (2 : Int),
  Value.int IntKind.i64 (IntKind.wrap IntKind.i64 (U2.b (List.getD l 0 Enc.dflt))),
  Value.float FloatKind.f64 0, Value.int IntKind.i64 (2 : Int),
  Value.int IntKind.i64 (IntKind.wrap IntKind.i64 (U2.b (List.getD l 1 Enc.dflt))),
  Value.float FloatKind.f64 0, Value.int IntKind.i64 (2 : Int),
  Value.int IntKind.i64 (IntKind.wrap IntKind.i64 (U2.b (List.getD l 2 Enc.dflt))),
  Value.float FloatKind.f64 0]
  false 3),
  some
  (AObj.cells
  [Value.int IntKind.i64
  (IntKind.wrap IntKind.i64 (Int.tmod (U2.a (List.getD l 3 Enc.dflt)) (8 : Int))),
  Value.int IntKind.i64
  (IntKind.wrap IntKind.i64 (Int.tmod (U2.a (List.getD l 4 Enc.dflt)) (8 : Int))),
  Value.int IntKind.i64
  (IntKind.wrap IntKind.i64 (Int.tmod (U2.a (List.getD l 5 Enc.dflt)) (8 : Int)))]
  false 1),
  some
  (AObj.cells
  [Value.int IntKind.i64 (2 : Int),
  Value.int IntKind.i64 (IntKind.wrap IntKind.i64 (U2.b (List.getD l 3 Enc.dflt))),
  Value.float FloatKind.f64 0, Value.int IntKind.i64 (2 : Int),
  Value.int IntKind.i64 (IntKind.wrap IntKind.i64 (U2.b (List.getD l 4 Enc.dflt))),
  Value.float FloatKind.f64 0, Value.int IntKind.i64 (2 : Int),
  Value.int IntKind.i64 (IntKind.wrap IntKind.i64 (U2.b (List.getD l 5 Enc.dflt))),
  Value.float FloatKind.f64 0]
  false 3),
  some
  (AObj.cells
  [Value.int IntKind.i64
  (IntKind.wrap IntKind.i64 (Int.tmod (U2.a (List.getD l 6 Enc.dflt)) (8 : Int))),
  Value.int IntKind.i64
  (IntKind.wrap IntKind.i64 (Int.tmod (U2.a (List.getD l 7 Enc.dflt)) (8 : Int))),
  Value.int IntKind.i64
  (IntKind.wrap IntKind.i64 (Int.tmod (U2.a (List.getD l 8 Enc.dflt)) (8 : Int)))]
  false 1),
  some
  (AObj.cells
  [Value.int IntKind.i64 (2 : Int),
  Value.int IntKind.i64 (IntKind.wrap IntKind.i64 (U2.b (List.getD l 6 Enc.dflt))),
  Value.float FloatKind.f64 0, Value.int IntKind.i64 (2 : Int),
  Value.int IntKind.i64 (IntKind.wrap IntKind.i64 (U2.b (List.getD l 7 Enc.dflt))),
  Value.float FloatKind.f64 0, Value.int IntKind.i64 (2 : Int),
  Value.int IntKind.i64 (IntKind.wrap IntKind.i64 (U2.b (List.getD l 8 Enc.dflt))),
  Value.float FloatKind.f64 0]
  false 3)])))))))))
  (M (AX.exit 2)
  (mkF 118
  [(0, Value.slice (some (Addr.mk 0 0 (some 0))) (List.length l) c),
  (5, Value.int IntKind.i64 N),
  (6, Value.slice (some (Addr.mk 1 0 (some 0))) (List.length A) 0),
  (7, Value.slice (some (Addr.mk 2 0 (some 0))) (List.length W) 0),
  (9, Value.slice (some (Addr.mk 3 0 none)) 3 3),
  (10, Value.int IntKind.i64 (8 : Int))])
  (mkS
  [some (AObj.row Rk.still 2 0 (List.length l) (encL l)),
  some (AObj.row Rk.mine 3 0 (List.length A) (encL A)),
  some (AObj.row Rk.mine 3 0 (List.length W) (encL W)),
  some
  (AObj.cells
  [Value.int IntKind.i64 (0 : Int), Value.int IntKind.i64 (0 : Int),
  Value.slice (some (Addr.mk 4 0 none)) 3 3,
  Value.slice (some (Addr.mk 5 0 none)) 3 3,
  Value.int IntKind.i64 (0 : Int), Value.int IntKind.i64 (0 : Int),
  Value.slice (some (Addr.mk 6 0 none)) 3 3,
  Value.slice (some (Addr.mk 7 0 none)) 3 3,
  Value.int IntKind.i64 (0 : Int), Value.int IntKind.i64 (0 : Int),
  Value.slice (some (Addr.mk 8 0 none)) 2 2,
  Value.slice (some (Addr.mk 9 0 none)) 2 2]
  false 4),
  some
  (AObj.cells
  [Value.int IntKind.i64
  (IntKind.wrap IntKind.i64 (Int.tmod (U2.a (List.getD l 0 Enc.dflt)) (8 : Int))),
  Value.int IntKind.i64
  (IntKind.wrap IntKind.i64 (Int.tmod (U2.a (List.getD l 1 Enc.dflt)) (8 : Int))),
  Value.int IntKind.i64
  (IntKind.wrap IntKind.i64 (Int.tmod (U2.a (List.getD l 2 Enc.dflt)) (8 : Int)))]
  false 1),
  some
  (AObj.cells
  [Value.int IntKind.i64 (2 : Int),
  Value.int IntKind.i64 (IntKind.wrap IntKind.i64 (U2.b (List.getD l 0 Enc.dflt))),
  Value.float FloatKind.f64 0, Value.int IntKind.i64 (2 : Int),
  Value.int IntKind.i64 (IntKind.wrap IntKind.i64 (U2.b (List.getD l 1 Enc.dflt))),
  Value.float FloatKind.f64 0, Value.int IntKind.i64 (2 : Int),
  Value.int IntKind.i64 (IntKind.wrap IntKind.i64 (U2.b (List.getD l 2 Enc.dflt))),
  Value.float FloatKind.f64 0]
  false 3),
  some
  (AObj.cells
  [Value.int IntKind.i64
  (IntKind.wrap IntKind.i64 (Int.tmod (U2.a (List.getD l 3 Enc.dflt)) (8 : Int))),
  Value.int IntKind.i64
  (IntKind.wrap IntKind.i64 (Int.tmod (U2.a (List.getD l 4 Enc.dflt)) (8 : Int))),
  Value.int IntKind.i64
  (IntKind.wrap IntKind.i64 (Int.tmod (U2.a (List.getD l 5 Enc.dflt)) (8 : Int)))]
  false 1),
  some
  (AObj.cells
  [Value.int IntKind.i64 (2 : Int),
  Value.int IntKind.i64 (IntKind.wrap IntKind.i64 (U2.b (List.getD l 3 Enc.dflt))),
  Value.float FloatKind.f64 0, Value.int IntKind.i64 (2 : Int),
  Value.int IntKind.i64 (IntKind.wrap IntKind.i64 (U2.b (List.getD l 4 Enc.dflt))),
  Value.float FloatKind.f64 0, Value.int IntKind.i64 (2 : Int),
  Value.int IntKind.i64 (IntKind.wrap IntKind.i64 (U2.b (List.getD l 5 Enc.dflt))),
  Value.float FloatKind.f64 0]
  false 3),
  some
  (AObj.cells
  [Value.int IntKind.i64
  (IntKind.wrap IntKind.i64 (Int.tmod (U2.a (List.getD l 6 Enc.dflt)) (8 : Int))),
  Value.int IntKind.i64
  (IntKind.wrap IntKind.i64 (Int.tmod (U2.a (List.getD l 7 Enc.dflt)) (8 : Int)))]
  false 1),
  some
  (AObj.cells
  [Value.int IntKind.i64 (2 : Int),
  Value.int IntKind.i64 (IntKind.wrap IntKind.i64 (U2.b (List.getD l 6 Enc.dflt))),
  Value.float FloatKind.f64 0, Value.int IntKind.i64 (2 : Int),
  Value.int IntKind.i64 (IntKind.wrap IntKind.i64 (U2.b (List.getD l 7 Enc.dflt))),
  Value.float FloatKind.f64 0]
  false 3)]))) := by kernel_rfl
theorem vc_lr9 (l : List U2) (A W : List Vl) (c : Nat) (N : Int) (β : Bs) (M : Kt) (ex : Nat → Kt → Prop) : roundJ Try.prog toldL 100 20 β (fun _ => 0) (cnOf 1 slL) ex 5 2 1 lvL (F2_9 l A W c N) (S2_9 l A W) M =
(  br (decide ((9 : Int) < Int.ofNat (List.length l)))
  (need (Nat.blt 9 (List.length l))
  (need (true && Nat.blt 9 (List.length l))
  (need (Nat.blt 9 (List.length l))
  (need (true && Nat.blt 9 (List.length l))
  (need (Nat.blt 9 (List.length l))
  (need (true && Nat.blt 9 (List.length l))
  (br (decide (IntKind.wrap IntKind.i64 (Int.tmod (U2.a (List.getD l 9 Enc.dflt)) (8 : Int)) < N))
  (need (Nat.blt 9 (List.length l))
  (need (true && Nat.blt 9 (List.length l))
  (need (decide ((0 : Int) ≤ Int.tmod (U2.a (List.getD l 9 Enc.dflt)) (8 : Int)))
  (need
  (Nat.blt (Int.toNat (Int.tmod (U2.a (List.getD l 9 Enc.dflt)) (8 : Int)))
  (List.length W))
  (need
  (Nat.blt (0 + Int.toNat (Int.tmod (U2.a (List.getD l 9 Enc.dflt)) (8 : Int)))
  (List.length W))
  (M AX.normal
  (mkF 118
  [(0,
  Value.slice (some (Addr.mk 0 0 (some 0))) (List.length l) c),
  (5, Value.int IntKind.i64 N),
  (6,
  Value.slice (some (Addr.mk 1 0 (some 0))) (List.length A)
  0),
  (7,
  Value.slice (some (Addr.mk 2 0 (some 0))) (List.length W)
  0),
  (9, Value.slice (some (Addr.mk 3 0 none)) 4 4),
  (10, Value.int IntKind.i64 (10 : Int))])
  (mkS
  [some (AObj.row Rk.still 2 0 (List.length l) (encL l)),
  some (AObj.row Rk.mine 3 0 (List.length A) (encL A)),
  some
  (AObj.row Rk.mine 3 0 (List.length W)
  (putT
  (0 +
  Int.toNat (Int.tmod (U2.a (List.getD l 9 Enc.dflt)) (8 : Int)))
  0
  [Td.sc (Value.int IntKind.i64 (2 : Int)),
  Td.sc
  (Value.int IntKind.i64
  (IntKind.wrap IntKind.i64 (U2.b (List.getD l 9 Enc.dflt)))),
  Td.sc (Value.float FloatKind.f64 0)]
  (encL W))),
  some
  (AObj.cells
  [Value.int IntKind.i64 (0 : Int), Value.int IntKind.i64 (0 : Int),
  Value.slice (some (Addr.mk 4 0 none)) 3 3,
  Value.slice (some (Addr.mk 5 0 none)) 3 3,
  Value.int IntKind.i64 (0 : Int), Value.int IntKind.i64 (0 : Int),
  Value.slice (some (Addr.mk 6 0 none)) 3 3,
  Value.slice (some (Addr.mk 7 0 none)) 3 3,
  Value.int IntKind.i64 (0 : Int), Value.int IntKind.i64 (0 : Int),
  Value.slice (some (Addr.mk 8 0 none)) 3 3,
  Value.slice (some (Addr.mk 9 0 none)) 3 3,
  Value.int IntKind.i64 (0 : Int), Value.int IntKind.i64 (0 : Int),
  Value.slice (some (Addr.mk 10 0 none)) 1 1,
  Value.slice (some (Addr.mk 11 0 none)) 1 1]
  false 4),
  some
  (AObj.cells
  [Value.int IntKind.i64
  (IntKind.wrap IntKind.i64
  (Int.tmod (U2.a (List.getD l 0 Enc.dflt)) (8 : Int))),
  Value.int IntKind.i64
  (IntKind.wrap IntKind.i64
  (Int.tmod (U2.a (List.getD l 1 Enc.dflt)) (8 : Int))),
  Value.int IntKind.i64
  (IntKind.wrap IntKind.i64
  (Int.tmod (U2.a (List.getD l 2 Enc.dflt)) (8 : Int)))]
  false 1),
  some
  (AObj.cells
  [Value.int IntKind.i64 (2 : Int),
  Value.int IntKind.i64
  (IntKind.wrap IntKind.i64 (U2.b (List.getD l 0 Enc.dflt))),
  Value.float FloatKind.f64 0, Value.int IntKind.i64 (2 : Int),
  Value.int IntKind.i64
  (IntKind.wrap IntKind.i64 (U2.b (List.getD l 1 Enc.dflt))),
  Value.float FloatKind.f64 0, Value.int IntKind.i64 (2 : Int),
  Value.int IntKind.i64
  (IntKind.wrap IntKind.i64 (U2.b (List.getD l 2 Enc.dflt))),
  Value.float FloatKind.f64 0]
  false 3),
  some
  (AObj.cells
  [Value.int IntKind.i64
  (IntKind.wrap IntKind.i64
  (Int.tmod (U2.a (List.getD l 3 Enc.dflt)) (8 : Int))),
  Value.int IntKind.i64
  (IntKind.wrap IntKind.i64
  (Int.tmod (U2.a (List.getD l 4 Enc.dflt)) (8 : Int))),
  Value.int IntKind.i64
  (IntKind.wrap IntKind.i64
  (Int.tmod (U2.a (List.getD l 5 Enc.dflt)) (8 : Int)))]
  false 1),
  some
  (AObj.cells
  [Value.int IntKind.i64 (2 : Int),
  Value.int IntKind.i64
  (IntKind.wrap IntKind.i64 (U2.b (List.getD l 3 Enc.dflt))),
  Value.float FloatKind.f64 0, Value.int IntKind.i64 (2 : Int),
  Value.int IntKind.i64
  (IntKind.wrap IntKind.i64 (U2.b (List.getD l 4 Enc.dflt))),
  Value.float FloatKind.f64 0, Value.int IntKind.i64 (2 : Int),
  Value.int IntKind.i64
  (IntKind.wrap IntKind.i64 (U2.b (List.getD l 5 Enc.dflt))),
  Value.float FloatKind.f64 0]
  false 3),
  some
  (AObj.cells
  [Value.int IntKind.i64
  (IntKind.wrap IntKind.i64
  (Int.tmod (U2.a (List.getD l 6 Enc.dflt)) (8 : Int))),
  Value.int IntKind.i64
  (IntKind.wrap IntKind.i64
  (Int.tmod (U2.a (List.getD l 7 Enc.dflt)) (8 : Int))),
  Value.int IntKind.i64
  (IntKind.wrap IntKind.i64
  (Int.tmod (U2.a (List.getD l 8 Enc.dflt)) (8 : Int)))]
  false 1),
  some
  (AObj.cells
  [Value.int IntKind.i64 (2 : Int),
  Value.int IntKind.i64
  (IntKind.wrap IntKind.i64 (U2.b (List.getD l 6 Enc.dflt))),
  Value.float FloatKind.f64 0, Value.int IntKind.i64 (2 : Int),
  Value.int IntKind.i64
  (IntKind.wrap IntKind.i64 (U2.b (List.getD l 7 Enc.dflt))),
  Value.float FloatKind.f64 0, Value.int IntKind.i64 (2 : Int),
  Value.int IntKind.i64
  (IntKind.wrap IntKind.i64 (U2.b (List.getD l 8 Enc.dflt))),
  Value.float FloatKind.f64 0]
  false 3),
  some
  (AObj.cells
  [Value.int IntKind.i64
  (IntKind.wrap IntKind.i64
  (Int.tmod (U2.a (List.getD l 9 Enc.dflt)) (8 : Int)))]
  false 1),
  some
  (AObj.cells
  [Value.int IntKind.i64 (2 : Int),
  Value.int IntKind.i64
  (IntKind.wrap IntKind.i64 (U2.b (List.getD l 9 Enc.dflt))),
  Value.float FloatKind.f64 0]
  false 3)])))))))
  (M AX.normal
  (mkF 118
  [(0, Value.slice (some (Addr.mk 0 0 (some 0))) (List.length l) c),
  (5, Value.int IntKind.i64 N),
  (6,
  Value.slice (some (Addr.mk 1 0 (some 0))) (List.length A) 0),
  (7,
  Value.slice (some (Addr.mk 2 0 (some 0))) (List.length W) 0),
  (9, Value.slice (some (Addr.mk 3 0 none)) 4 4),
  (10, Value.int IntKind.i64 (10 : Int))])
  (mkS
  [some (AObj.row Rk.still 2 0 (List.length l) (encL l)),
  some (AObj.row Rk.mine 3 0 (List.length A) (encL A)),
  some (AObj.row Rk.mine 3 0 (List.length W) (encL W)),
  some
  (AObj.cells
  [Value.int IntKind.i64 (0 : Int), Value.int IntKind.i64 (0 : Int),
  Value.slice (some (Addr.mk 4 0 none)) 3 3,
  Value.slice (some (Addr.mk 5 0 none)) 3 3,
  Value.int IntKind.i64 (0 : Int), Value.int IntKind.i64 (0 : Int),
  Value.slice (some (Addr.mk 6 0 none)) 3 3,
  Value.slice (some (Addr.mk 7 0 none)) 3 3,
  Value.int IntKind.i64 (0 : Int), Value.int IntKind.i64 (0 : Int),
  Value.slice (some (Addr.mk 8 0 none)) 3 3,
  Value.slice (some (Addr.mk 9 0 none)) 3 3,
  Value.int IntKind.i64 (0 : Int), Value.int IntKind.i64 (0 : Int),
  Value.slice (some (Addr.mk 10 0 none)) 1 1,
  Value.slice (some (Addr.mk 11 0 none)) 1 1]
  false 4),
  some
  (AObj.cells
  [Value.int IntKind.i64
  (IntKind.wrap IntKind.i64 (Int.tmod (U2.a (List.getD l 0 Enc.dflt)) (8 : Int))),
  Value.int IntKind.i64
  (IntKind.wrap IntKind.i64 (Int.tmod (U2.a (List.getD l 1 Enc.dflt)) (8 : Int))),
  Value.int IntKind.i64
  (IntKind.wrap IntKind.i64 (Int.tmod (U2.a (List.getD l 2 Enc.dflt)) (8 : Int)))]
  false 1),
  some
  (AObj.cells
  [Value.int IntKind.i64 (2 : Int),
  Value.int IntKind.i64 (IntKind.wrap IntKind.i64 (U2.b (List.getD l 0 Enc.dflt))),
  Value.float FloatKind.f64 0, Value.int IntKind.i64 (2 : Int),
  Value.int IntKind.i64 (IntKind.wrap IntKind.i64 (U2.b (List.getD l 1 Enc.dflt))),
  Value.float FloatKind.f64 0, Value.int IntKind.i64 (2 : Int),
  Value.int IntKind.i64 (IntKind.wrap IntKind.i64 (U2.b (List.getD l 2 Enc.dflt))),
  Value.float FloatKind.f64 0]
  false 3),
  some
  (AObj.cells
  [Value.int IntKind.i64
  (IntKind.wrap IntKind.i64 (Int.tmod (U2.a (List.getD l 3 Enc.dflt)) (8 : Int))),
  Value.int IntKind.i64
  (IntKind.wrap IntKind.i64 (Int.tmod (U2.a (List.getD l 4 Enc.dflt)) (8 : Int))),
  Value.int IntKind.i64
  (IntKind.wrap IntKind.i64 (Int.tmod (U2.a (List.getD l 5 Enc.dflt)) (8 : Int)))]
  false 1),
  some
  (AObj.cells
  [Value.int IntKind.i64 (2 : Int),
  Value.int IntKind.i64 (IntKind.wrap IntKind.i64 (U2.b (List.getD l 3 Enc.dflt))),
  Value.float FloatKind.f64 0, Value.int IntKind.i64 (2 : Int),
  Value.int IntKind.i64 (IntKind.wrap IntKind.i64 (U2.b (List.getD l 4 Enc.dflt))),
  Value.float FloatKind.f64 0, Value.int IntKind.i64 (2 : Int),
  Value.int IntKind.i64 (IntKind.wrap IntKind.i64 (U2.b (List.getD l 5 Enc.dflt))),
  Value.float FloatKind.f64 0]
  false 3),
  some
  (AObj.cells
  [Value.int IntKind.i64
  (IntKind.wrap IntKind.i64 (Int.tmod (U2.a (List.getD l 6 Enc.dflt)) (8 : Int))),
  Value.int IntKind.i64
  (IntKind.wrap IntKind.i64 (Int.tmod (U2.a (List.getD l 7 Enc.dflt)) (8 : Int))),
  Value.int IntKind.i64
  (IntKind.wrap IntKind.i64 (Int.tmod (U2.a (List.getD l 8 Enc.dflt)) (8 : Int)))]
  false 1),
  some
  (AObj.cells
  [Value.int IntKind.i64 (2 : Int),
  Value.int IntKind.i64 (IntKind.wrap IntKind.i64 (U2.b (List.getD l 6 Enc.dflt))),
  Value.float FloatKind.f64 0, Value.int IntKind.i64 (2 : Int),
  Value.int IntKind.i64 (IntKind.wrap IntKind.i64 (U2.b (List.getD l 7 Enc.dflt))),
  Value.float FloatKind.f64 0, Value.int IntKind.i64 (2 : Int),
  Value.int IntKind.i64 (IntKind.wrap IntKind.i64 (U2.b (List.getD l 8 Enc.dflt))),
  Value.float FloatKind.f64 0]
  false 3),
  some
  (AObj.cells
  [Value.int IntKind.i64
  (IntKind.wrap IntKind.i64 (Int.tmod (U2.a (List.getD l 9 Enc.dflt)) (8 : Int)))]
  false 1),
  some
  (AObj.cells
  [Value.int IntKind.i64 (2 : Int),
  Value.int IntKind.i64 (IntKind.wrap IntKind.i64 (U2.b (List.getD l 9 Enc.dflt))),
  Value.float FloatKind.f64 0]
  false 3)])))))))))
  (M (AX.exit 2)
  (mkF 118
  [(0, Value.slice (some (Addr.mk 0 0 (some 0))) (List.length l) c),
  (5, Value.int IntKind.i64 N),
  (6, Value.slice (some (Addr.mk 1 0 (some 0))) (List.length A) 0),
  (7, Value.slice (some (Addr.mk 2 0 (some 0))) (List.length W) 0),
  (9, Value.slice (some (Addr.mk 3 0 none)) 3 3),
  (10, Value.int IntKind.i64 (9 : Int))])
  (mkS
  [some (AObj.row Rk.still 2 0 (List.length l) (encL l)),
  some (AObj.row Rk.mine 3 0 (List.length A) (encL A)),
  some (AObj.row Rk.mine 3 0 (List.length W) (encL W)),
  some
  (AObj.cells
  [Value.int IntKind.i64 (0 : Int), Value.int IntKind.i64 (0 : Int),
  Value.slice (some (Addr.mk 4 0 none)) 3 3,
  Value.slice (some (Addr.mk 5 0 none)) 3 3,
  Value.int IntKind.i64 (0 : Int), Value.int IntKind.i64 (0 : Int),
  Value.slice (some (Addr.mk 6 0 none)) 3 3,
  Value.slice (some (Addr.mk 7 0 none)) 3 3,
  Value.int IntKind.i64 (0 : Int), Value.int IntKind.i64 (0 : Int),
  Value.slice (some (Addr.mk 8 0 none)) 3 3,
  Value.slice (some (Addr.mk 9 0 none)) 3 3]
  false 4),
  some
  (AObj.cells
  [Value.int IntKind.i64
  (IntKind.wrap IntKind.i64 (Int.tmod (U2.a (List.getD l 0 Enc.dflt)) (8 : Int))),
  Value.int IntKind.i64
  (IntKind.wrap IntKind.i64 (Int.tmod (U2.a (List.getD l 1 Enc.dflt)) (8 : Int))),
  Value.int IntKind.i64
  (IntKind.wrap IntKind.i64 (Int.tmod (U2.a (List.getD l 2 Enc.dflt)) (8 : Int)))]
  false 1),
  some
  (AObj.cells
  [Value.int IntKind.i64 (2 : Int),
  Value.int IntKind.i64 (IntKind.wrap IntKind.i64 (U2.b (List.getD l 0 Enc.dflt))),
  Value.float FloatKind.f64 0, Value.int IntKind.i64 (2 : Int),
  Value.int IntKind.i64 (IntKind.wrap IntKind.i64 (U2.b (List.getD l 1 Enc.dflt))),
  Value.float FloatKind.f64 0, Value.int IntKind.i64 (2 : Int),
  Value.int IntKind.i64 (IntKind.wrap IntKind.i64 (U2.b (List.getD l 2 Enc.dflt))),
  Value.float FloatKind.f64 0]
  false 3),
  some
  (AObj.cells
  [Value.int IntKind.i64
  (IntKind.wrap IntKind.i64 (Int.tmod (U2.a (List.getD l 3 Enc.dflt)) (8 : Int))),
  Value.int IntKind.i64
  (IntKind.wrap IntKind.i64 (Int.tmod (U2.a (List.getD l 4 Enc.dflt)) (8 : Int))),
  Value.int IntKind.i64
  (IntKind.wrap IntKind.i64 (Int.tmod (U2.a (List.getD l 5 Enc.dflt)) (8 : Int)))]
  false 1),
  some
  (AObj.cells
  [Value.int IntKind.i64 (2 : Int),
  Value.int IntKind.i64 (IntKind.wrap IntKind.i64 (U2.b (List.getD l 3 Enc.dflt))),
  Value.float FloatKind.f64 0, Value.int IntKind.i64 (2 : Int),
  Value.int IntKind.i64 (IntKind.wrap IntKind.i64 (U2.b (List.getD l 4 Enc.dflt))),
  Value.float FloatKind.f64 0, Value.int IntKind.i64 (2 : Int),
  Value.int IntKind.i64 (IntKind.wrap IntKind.i64 (U2.b (List.getD l 5 Enc.dflt))),
  Value.float FloatKind.f64 0]
  false 3),
  some
  (AObj.cells
  [Value.int IntKind.i64
  (IntKind.wrap IntKind.i64 (Int.tmod (U2.a (List.getD l 6 Enc.dflt)) (8 : Int))),
  Value.int IntKind.i64
  (IntKind.wrap IntKind.i64 (Int.tmod (U2.a (List.getD l 7 Enc.dflt)) (8 : Int))),
  Value.int IntKind.i64
  (IntKind.wrap IntKind.i64 (Int.tmod (U2.a (List.getD l 8 Enc.dflt)) (8 : Int)))]
  false 1),
  some
  (AObj.cells
  [Value.int IntKind.i64 (2 : Int),
  Value.int IntKind.i64 (IntKind.wrap IntKind.i64 (U2.b (List.getD l 6 Enc.dflt))),
  Value.float FloatKind.f64 0, Value.int IntKind.i64 (2 : Int),
  Value.int IntKind.i64 (IntKind.wrap IntKind.i64 (U2.b (List.getD l 7 Enc.dflt))),
  Value.float FloatKind.f64 0, Value.int IntKind.i64 (2 : Int),
  Value.int IntKind.i64 (IntKind.wrap IntKind.i64 (U2.b (List.getD l 8 Enc.dflt))),
  Value.float FloatKind.f64 0]
  false 3)]))) := by kernel_rfl
end Go.Proofs.Ytpejhdbllphdaaa.Ev
