/-
  What has to hold: printed by the evaluator.
-/
import Derived.Test.YtpejhdbllphdaaaMlAd
set_option linter.unusedVariables false
set_option maxRecDepth 1000000
namespace Go.Proofs.Ytpejhdbllphdaaa.Ev
open Go Go.Proofs
def slA : List Nat := [0, 1, 5, 6, 7]
def fitW (w : Wr) : Bool := !(decide (Int.ofNat w.a.length > 6)) && !(decide (Int.ofNat w.v.length > 6))
def lvA : AX → List Nat := fun x => match x with
  | .ret => [4]
  | _ => slA
def FA (l : List Wr) (img : List Vl) (a b : List Wr) (c d ca cb : Nat) (i : Int) : AFr := mkF 89 [(0, .slice (some ⟨0, 0, some 0⟩) l.length c), (1, .slice (some ⟨1, 0, some 0⟩) img.length d), (5, .slice (some ⟨2, 0, some 0⟩) a.length ca), (6, .slice (some ⟨3, 0, some 0⟩) b.length cb), (7, .int .i64 i)]
def SA (l : List Wr) (img : List Vl) (a b : List Wr) : ASt := mkS [some (rowO .still l), some (rowO .still img), some (rowO .mine a), some (rowO .mine b)]
def FAr (q : Bool) : AFr := mkF 89 [(4, .bool q)]
def SAr (l : List Wr) (img : List Vl) : ASt := mkS [some (rowO .still l), some (rowO .still img)]
def accN (l : List Wr) : Nat → List Wr
  | 0 => []
  | k + 1 => addWr (accN l k) (l.getD k Enc.dflt)
def cA (k : Nat) : Nat := if k = 0 then 1 else 0
def exA (l : List Wr) (img : List Vl) (c d : Nat) : Nat → Kt → Prop := fun b K => (l.all fitW = true → K (.exit b) (FA l img (accN l l.length) (accN l l.length) c d (cA l.length) (cA l.length) l.length) (SA l img (accN l l.length) (accN l l.length))) ∧ K .ret (FAr true) (SAr l img)
def shpAr (l : List Wr) (img : List Vl) (q' : Bool) : AFr × ASt := (FAr q', SAr l img)
theorem vc_ma (l : List Wr) (img : List Vl) (c d : Nat) (β : Bs) : lawE Try.prog toldD 100 20 β (fun _ => 0) (cnOf 2 fun _ => slA) (exA l img c d) 4 [.slice (some ⟨0, 0, some 0⟩) l.length c, .slice (some ⟨1, 0, some 0⟩) img.length d] (mkS [some (rowO .still l), some (rowO .still img)]) trueE =
(  br (decide (Int.ofNat (List.length l) > (6 : Int))) True
  (br (decide (Int.ofNat (List.length img) > (20 : Int))) True
  (LoopJ Try.prog β (exA l img c d) 0 (loopOf Try.prog 4 0)
  (mkF 89
  [(0, Value.slice (some (Addr.mk 0 0 (some 0))) (List.length l) c),
  (1, Value.slice (some (Addr.mk 1 0 (some 0))) (List.length img) d),
  (5, Value.slice none 0 0), (6, Value.slice none 0 0),
  (7, Value.int IntKind.i64 (0 : Int))])
  (mkS
  [some (AObj.row Rk.still 4 0 (List.length l) (encL l)),
  some (AObj.row Rk.still 3 0 (List.length img) (encL img))]) ∧
  (List.all l fitW = true →
  need
  (true && Nat.ble (0 + List.length (accN l (List.length l))) (List.length (accN l (List.length l))))
  (need (true && Nat.ble (0 + List.length img) (List.length img))
  (need
  (ok2 Wr Vl (fun l x x_1 x_2 => List.all l (okA Wr))
  [Ta.cell
  (Td.fr 4 (List.length (accN l (List.length l))) (cA (List.length l)) fun i =>
  encL (accN l (List.length l)) (0 + i)),
  Ta.cell (Td.fr 3 (List.length img) d fun i => encL img (0 + i))])
  (need
  (true &&
  Nat.ble (0 + List.length (accN l (List.length l))) (List.length (accN l (List.length l))))
  (need (true && Nat.ble (0 + List.length img) (List.length img))
  (need
  (ok2 Wr Vl (fun l x x_1 x_2 => List.all l (okA Wr))
  [Ta.cell
  (Td.fr 4 (List.length (accN l (List.length l))) (cA (List.length l)) fun i =>
  encL (accN l (List.length l)) (0 + i)),
  Ta.cell (Td.fr 3 (List.length img) d fun i => encL img (0 + i))])
  (need
  (true &&
  Nat.ble
  (0 +
  List.length
  (drL
  (listT Wr
  (Td.fr 4 (List.length (accN l (List.length l))) (cA (List.length l))
  fun i => encL (accN l (List.length l)) (0 + i)))
  (listT Vl (Td.fr 3 (List.length img) d fun i => encL img (0 + i)))
  (List.length
  (listT Wr
  (Td.fr 4 (List.length (accN l (List.length l))) (cA (List.length l))
  fun i => encL (accN l (List.length l)) (0 + i))))))
  (List.length
  (drL
  (listT Wr
  (Td.fr 4 (List.length (accN l (List.length l))) (cA (List.length l)) fun i =>
  encL (accN l (List.length l)) (0 + i)))
  (listT Vl (Td.fr 3 (List.length img) d fun i => encL img (0 + i)))
  (List.length
  (listT Wr
  (Td.fr 4 (List.length (accN l (List.length l))) (cA (List.length l))
  fun i => encL (accN l (List.length l)) (0 + i)))))))
  (need
  (true &&
  Nat.ble
  (0 +
  List.length
  (drL
  (listT Wr
  (Td.fr 4 (List.length (accN l (List.length l))) (cA (List.length l))
  fun i => encL (accN l (List.length l)) (0 + i)))
  (listT Vl (Td.fr 3 (List.length img) d fun i => encL img (0 + i)))
  (List.length
  (listT Wr
  (Td.fr 4 (List.length (accN l (List.length l))) (cA (List.length l))
  fun i => encL (accN l (List.length l)) (0 + i))))))
  (List.length
  (drL
  (listT Wr
  (Td.fr 4 (List.length (accN l (List.length l))) (cA (List.length l))
  fun i => encL (accN l (List.length l)) (0 + i)))
  (listT Vl (Td.fr 3 (List.length img) d fun i => encL img (0 + i)))
  (List.length
  (listT Wr
  (Td.fr 4 (List.length (accN l (List.length l))) (cA (List.length l))
  fun i => encL (accN l (List.length l)) (0 + i)))))))
  (need
  (ok2 Vl Vl (fun x x_1 x_2 x_3 => true)
  [Ta.cell
  (Td.fr 3
  (List.length
  (drL
  (listT Wr
  (Td.fr 4 (List.length (accN l (List.length l))) (cA (List.length l))
  fun i => encL (accN l (List.length l)) (0 + i)))
  (listT Vl
  (Td.fr 3 (List.length img) d fun i => encL img (0 + i)))
  (List.length
  (listT Wr
  (Td.fr 4 (List.length (accN l (List.length l))) (cA (List.length l))
  fun i => encL (accN l (List.length l)) (0 + i))))))
  (nilT (Td.fr 3 (List.length img) d fun i => encL img (0 + i)))
  fun i =>
  encL
  (drL
  (listT Wr
  (Td.fr (Enc.es Wr) (List.length (accN l (List.length l))) (cA (List.length l))
  fun i => encL (accN l (List.length l)) (0 + i)))
  (listT Vl
  (Td.fr (Enc.es Vl) (List.length img) d fun i => encL img (0 + i)))
  (List.length
  (listT Wr
  (Td.fr (Enc.es Wr) (List.length (accN l (List.length l)))
  (cA (List.length l)) fun i =>
  encL (accN l (List.length l)) (0 + i)))))
  (0 + i)),
  Ta.cell
  (Td.fr 3
  (List.length
  (drL
  (listT Wr
  (Td.fr 4 (List.length (accN l (List.length l))) (cA (List.length l))
  fun i => encL (accN l (List.length l)) (0 + i)))
  (listT Vl
  (Td.fr 3 (List.length img) d fun i => encL img (0 + i)))
  (List.length
  (listT Wr
  (Td.fr 4 (List.length (accN l (List.length l))) (cA (List.length l))
  fun i => encL (accN l (List.length l)) (0 + i))))))
  0 fun i =>
  encL
  (drL
  (listT Wr
  (Td.fr (Enc.es Wr) (List.length (accN l (List.length l))) (cA (List.length l))
  fun i => encL (accN l (List.length l)) (0 + i)))
  (listT Vl
  (Td.fr (Enc.es Vl) (List.length img) d fun i => encL img (0 + i)))
  (List.length
  (listT Wr
  (Td.fr (Enc.es Wr) (List.length (accN l (List.length l)))
  (cA (List.length l)) fun i =>
  encL (accN l (List.length l)) (0 + i)))))
  (0 + i))])
  (need
  (sameVs
  (listT Vl
  (Td.fr 3
  (List.length
  (drL
  (listT Wr
  (Td.fr 4 (List.length (accN l (List.length l))) (cA (List.length l))
  fun i => encL (accN l (List.length l)) (0 + i)))
  (listT Vl
  (Td.fr 3 (List.length img) d fun i => encL img (0 + i)))
  (List.length
  (listT Wr
  (Td.fr 4 (List.length (accN l (List.length l))) (cA (List.length l))
  fun i => encL (accN l (List.length l)) (0 + i))))))
  (nilT (Td.fr 3 (List.length img) d fun i => encL img (0 + i)))
  fun i =>
  encL
  (drL
  (listT Wr
  (Td.fr (Enc.es Wr) (List.length (accN l (List.length l))) (cA (List.length l))
  fun i => encL (accN l (List.length l)) (0 + i)))
  (listT Vl
  (Td.fr (Enc.es Vl) (List.length img) d fun i => encL img (0 + i)))
  (List.length
  (listT Wr
  (Td.fr (Enc.es Wr) (List.length (accN l (List.length l)))
  (cA (List.length l)) fun i =>
  encL (accN l (List.length l)) (0 + i)))))
  (0 + i)))
  (listT Vl
  (Td.fr 3
  (List.length
  (drL
  (listT Wr
  (Td.fr 4 (List.length (accN l (List.length l))) (cA (List.length l))
  fun i => encL (accN l (List.length l)) (0 + i)))
  (listT Vl
  (Td.fr 3 (List.length img) d fun i => encL img (0 + i)))
  (List.length
  (listT Wr
  (Td.fr 4 (List.length (accN l (List.length l))) (cA (List.length l))
  fun i => encL (accN l (List.length l)) (0 + i))))))
  0 fun i =>
  encL
  (drL
  (listT Wr
  (Td.fr (Enc.es Wr) (List.length (accN l (List.length l))) (cA (List.length l))
  fun i => encL (accN l (List.length l)) (0 + i)))
  (listT Vl
  (Td.fr (Enc.es Vl) (List.length img) d fun i => encL img (0 + i)))
  (List.length
  (listT Wr
  (Td.fr (Enc.es Wr) (List.length (accN l (List.length l)))
  (cA (List.length l)) fun i =>
  encL (accN l (List.length l)) (0 + i)))))
  (0 + i))))
  (need (true && Nat.ble (0 + List.length l) (List.length l))
  (need (true && Nat.ble (0 + List.length img) (List.length img))
  (need
  (ok2 Wr Vl (fun l x x_1 x_2 => List.all l (okA Wr))
  [Ta.cell (Td.fr 4 (List.length l) c fun i => encL l (0 + i)),
  Ta.cell
  (Td.fr 3 (List.length img) d fun i => encL img (0 + i))])
  (need (true && Nat.ble (0 + List.length l) (List.length l))
  (need (true && Nat.ble (0 + List.length img) (List.length img))
  (need
  (ok2 Wr Vl (fun l x x_1 x_2 => List.all l (okA Wr))
  [Ta.cell
  (Td.fr 4 (List.length l) c fun i => encL l (0 + i)),
  Ta.cell
  (Td.fr 3 (List.length img) d fun i =>
  encL img (0 + i))])
  (need
  (true &&
  Nat.ble
  (0 +
  List.length
  (drL
  (listT Wr
  (Td.fr 4 (List.length l) c fun i =>
  encL l (0 + i)))
  (listT Vl
  (Td.fr 3 (List.length img) d fun i =>
  encL img (0 + i)))
  (List.length
  (listT Wr
  (Td.fr 4 (List.length l) c fun i =>
  encL l (0 + i))))))
  (List.length
  (drL
  (listT Wr
  (Td.fr 4 (List.length l) c fun i =>
  encL l (0 + i)))
  (listT Vl
  (Td.fr 3 (List.length img) d fun i =>
  encL img (0 + i)))
  (List.length
  (listT Wr
  (Td.fr 4 (List.length l) c fun i =>
  encL l (0 + i)))))))
  (need
  (true &&
  Nat.ble
  (0 +
  List.length
  (drL
  (listT Wr
  (Td.fr 4 (List.length l) c fun i =>
  encL l (0 + i)))
  (listT Vl
  (Td.fr 3 (List.length img) d fun i =>
  encL img (0 + i)))
  (List.length
  (listT Wr
  (Td.fr 4 (List.length l) c fun i =>
  encL l (0 + i))))))
  (List.length
  (drL
  (listT Wr
  (Td.fr 4 (List.length l) c fun i =>
  encL l (0 + i)))
  (listT Vl
  (Td.fr 3 (List.length img) d fun i =>
  encL img (0 + i)))
  (List.length
  (listT Wr
  (Td.fr 4 (List.length l) c fun i =>
  encL l (0 + i)))))))
  (need
  (ok2 Vl Vl (fun x x_1 x_2 x_3 => true)
  [Ta.cell
  (Td.fr 3
  (List.length
  (drL
  (listT Wr
  (Td.fr 4 (List.length l) c fun i =>
  encL l (0 + i)))
  (listT Vl
  (Td.fr 3 (List.length img) d fun i =>
  encL img (0 + i)))
  (List.length
  (listT Wr
  (Td.fr 4 (List.length l) c fun i =>
  encL l (0 + i))))))
  (nilT
  (Td.fr 3 (List.length img) d fun i =>
  encL img (0 + i)))
  fun i =>
  encL
  (drL
  (listT Wr
  (Td.fr (Enc.es Wr) (List.length l) c fun i =>
  encL l (0 + i)))
  (listT Vl
  (Td.fr (Enc.es Vl) (List.length img) d fun i =>
  encL img (0 + i)))
  (List.length
  (listT Wr
  (Td.fr (Enc.es Wr) (List.length l) c fun i =>
  encL l (0 + i)))))
  (0 + i)),
  Ta.cell
  (Td.fr 3
  (List.length
  (drL
  (listT Wr
  (Td.fr 4 (List.length l) c fun i =>
  encL l (0 + i)))
  (listT Vl
  (Td.fr 3 (List.length img) d fun i =>
  encL img (0 + i)))
  (List.length
  (listT Wr
  (Td.fr 4 (List.length l) c fun i =>
  encL l (0 + i))))))
  0 fun i =>
  encL
  (drL
  (listT Wr
  (Td.fr (Enc.es Wr) (List.length l) c fun i =>
  encL l (0 + i)))
  (listT Vl
  (Td.fr (Enc.es Vl) (List.length img) d fun i =>
  encL img (0 + i)))
  (List.length
  (listT Wr
  (Td.fr (Enc.es Wr) (List.length l) c fun i =>
  encL l (0 + i)))))
  (0 + i))])
  (need
  (sameVs
  (listT Vl
  (Td.fr 3
  (List.length
  (drL
  (listT Wr
  (Td.fr 4 (List.length l) c fun i =>
  encL l (0 + i)))
  (listT Vl
  (Td.fr 3 (List.length img) d fun i =>
  encL img (0 + i)))
  (List.length
  (listT Wr
  (Td.fr 4 (List.length l) c fun i =>
  encL l (0 + i))))))
  (nilT
  (Td.fr 3 (List.length img) d fun i =>
  encL img (0 + i)))
  fun i =>
  encL
  (drL
  (listT Wr
  (Td.fr (Enc.es Wr) (List.length l) c fun i =>
  encL l (0 + i)))
  (listT Vl
  (Td.fr (Enc.es Vl) (List.length img) d fun i =>
  encL img (0 + i)))
  (List.length
  (listT Wr
  (Td.fr (Enc.es Wr) (List.length l) c fun i =>
  encL l (0 + i)))))
  (0 + i)))
  (listT Vl
  (Td.fr 3
  (List.length
  (drL
  (listT Wr
  (Td.fr 4 (List.length l) c fun i =>
  encL l (0 + i)))
  (listT Vl
  (Td.fr 3 (List.length img) d fun i =>
  encL img (0 + i)))
  (List.length
  (listT Wr
  (Td.fr 4 (List.length l) c fun i =>
  encL l (0 + i))))))
  0 fun i =>
  encL
  (drL
  (listT Wr
  (Td.fr (Enc.es Wr) (List.length l) c fun i =>
  encL l (0 + i)))
  (listT Vl
  (Td.fr (Enc.es Vl) (List.length img) d fun i =>
  encL img (0 + i)))
  (List.length
  (listT Wr
  (Td.fr (Enc.es Wr) (List.length l) c fun i =>
  encL l (0 + i)))))
  (0 + i))))
  True)))))))))))))))))))) ∧
  True))) := by kernel_rfl
theorem vc_ma_r (l : List Wr) (img : List Vl) (a b : List Wr) (c d ca cb : Nat) (i : Int) (β : Bs) (N : Kt) (ex : Nat → Kt → Prop) : roundJ Try.prog toldD 100 20 β (fun _ => 0) (cnOf 2 fun _ => slA) ex 4 0 2 lvA (FA l img a b c d ca cb i) (SA l img a b) N =
(  br (decide (i < Int.ofNat (List.length l)))
  (need (decide ((0 : Int) ≤ i))
  (need (Nat.blt (Int.toNat i) (List.length l))
  (need (Nat.ble 0 (0 + Int.toNat i) && Nat.blt (0 + Int.toNat i) (List.length l))
  (br (decide (Int.ofNat (List.length (Wr.a (List.getD l (0 + Int.toNat i) Enc.dflt))) > (6 : Int)))
  (onP N AX.ret (shpAr l img true))
  (need (decide ((0 : Int) ≤ i))
  (need (Nat.blt (Int.toNat i) (List.length l))
  (need (Nat.ble 0 (0 + Int.toNat i) && Nat.blt (0 + Int.toNat i) (List.length l))
  (br
  (decide (Int.ofNat (List.length (Wr.v (List.getD l (0 + Int.toNat i) Enc.dflt))) > (6 : Int)))
  (onP N AX.ret (shpAr l img true))
  (need (decide ((0 : Int) ≤ i))
  (need (Nat.blt (Int.toNat i) (List.length l))
  (need
  (Nat.ble 0 (0 + Int.toNat i) &&
  Nat.blt (0 + Int.toNat i) (List.length l))
  (need (true && Nat.ble (0 + List.length a) (List.length a))
  (need
  (true &&
  Nat.ble (0 + List.length (Wr.a (List.getD l (0 + Int.toNat i) Enc.dflt)))
  (List.length (Wr.a (List.getD l (0 + Int.toNat i) Enc.dflt))))
  (need
  (true &&
  Nat.ble
  (0 + List.length (Wr.v (List.getD l (0 + Int.toNat i) Enc.dflt)))
  (List.length (Wr.v (List.getD l (0 + Int.toNat i) Enc.dflt))))
  (need
  (okAdd
  [Ta.cell (Td.fr 4 (List.length a) ca fun i => encL a (0 + i)),
  Ta.agg
  [Td.sc
  (Value.int IntKind.i64
  (Wr.s (List.getD l (0 + Int.toNat i) Enc.dflt))),
  Td.sc
  (Value.int IntKind.i64
  (Wr.d (List.getD l (0 + Int.toNat i) Enc.dflt))),
  Td.fr 1
  (List.length (Wr.a (List.getD l (0 + Int.toNat i) Enc.dflt)))
  (Wr.ca (List.getD l (0 + Int.toNat i) Enc.dflt)) fun i_1 =>
  encL (Wr.a (List.getD l (0 + Int.toNat i) Enc.dflt))
  (0 + i_1),
  Td.fr 3
  (List.length (Wr.v (List.getD l (0 + Int.toNat i) Enc.dflt)))
  (Wr.cv (List.getD l (0 + Int.toNat i) Enc.dflt)) fun i_1 =>
  encL (Wr.v (List.getD l (0 + Int.toNat i) Enc.dflt))
  (0 + i_1)]])
  (need (decide ((0 : Int) ≤ i))
  (need (Nat.blt (Int.toNat i) (List.length l))
  (need
  (Nat.ble 0 (0 + Int.toNat i) &&
  Nat.blt (0 + Int.toNat i) (List.length l))
  (br (decide (Int.ofNat (List.length b) ≥ (3 : Int)))
  (br
  (addEr
  (listT Wr
  (Td.fr 4 (List.length a) ca fun i => encL a (0 + i))) !=
  (10 : Int))
  (onP N AX.ret (shpAr l img false))
  (need
  (true &&
  Nat.ble
  (0 +
  List.length
  (addWr
  (listT Wr
  (Td.fr 4 (List.length a) ca fun i =>
  encL a (0 + i)))
  (Wr.mk
  (intD
  (Td.sc
  (Value.int IntKind.i64
  (Wr.s (List.getD l (0 + Int.toNat i) Enc.dflt)))))
  (intD
  (Td.sc
  (Value.int IntKind.i64
  (Wr.d (List.getD l (0 + Int.toNat i) Enc.dflt)))))
  (listT Int
  (Td.fr 1
  (List.length
  (Wr.a (List.getD l (0 + Int.toNat i) Enc.dflt)))
  (Wr.ca (List.getD l (0 + Int.toNat i) Enc.dflt))
  fun i_1 =>
  encL (Wr.a (List.getD l (0 + Int.toNat i) Enc.dflt))
  (0 + i_1)))
  (nilT
  (Td.fr 1
  (List.length
  (Wr.a (List.getD l (0 + Int.toNat i) Enc.dflt)))
  (Wr.ca (List.getD l (0 + Int.toNat i) Enc.dflt))
  fun i_1 =>
  encL (Wr.a (List.getD l (0 + Int.toNat i) Enc.dflt))
  (0 + i_1)))
  (listT Vl
  (Td.fr 3
  (List.length
  (Wr.v (List.getD l (0 + Int.toNat i) Enc.dflt)))
  (Wr.cv (List.getD l (0 + Int.toNat i) Enc.dflt))
  fun i_1 =>
  encL (Wr.v (List.getD l (0 + Int.toNat i) Enc.dflt))
  (0 + i_1)))
  (nilT
  (Td.fr 3
  (List.length
  (Wr.v (List.getD l (0 + Int.toNat i) Enc.dflt)))
  (Wr.cv (List.getD l (0 + Int.toNat i) Enc.dflt))
  fun i_1 =>
  encL (Wr.v (List.getD l (0 + Int.toNat i) Enc.dflt))
  (0 + i_1))))))
  (List.length
  (addWr
  (listT Wr
  (Td.fr 4 (List.length a) ca fun i =>
  encL a (0 + i)))
  (Wr.mk
  (intD
  (Td.sc
  (Value.int IntKind.i64
  (Wr.s (List.getD l (0 + Int.toNat i) Enc.dflt)))))
  (intD
  (Td.sc
  (Value.int IntKind.i64
  (Wr.d (List.getD l (0 + Int.toNat i) Enc.dflt)))))
  (listT Int
  (Td.fr 1
  (List.length
  (Wr.a (List.getD l (0 + Int.toNat i) Enc.dflt)))
  (Wr.ca (List.getD l (0 + Int.toNat i) Enc.dflt))
  fun i_1 =>
  encL (Wr.a (List.getD l (0 + Int.toNat i) Enc.dflt))
  (0 + i_1)))
  (nilT
  (Td.fr 1
  (List.length
  (Wr.a (List.getD l (0 + Int.toNat i) Enc.dflt)))
  (Wr.ca (List.getD l (0 + Int.toNat i) Enc.dflt))
  fun i_1 =>
  encL (Wr.a (List.getD l (0 + Int.toNat i) Enc.dflt))
  (0 + i_1)))
  (listT Vl
  (Td.fr 3
  (List.length
  (Wr.v (List.getD l (0 + Int.toNat i) Enc.dflt)))
  (Wr.cv (List.getD l (0 + Int.toNat i) Enc.dflt))
  fun i_1 =>
  encL (Wr.v (List.getD l (0 + Int.toNat i) Enc.dflt))
  (0 + i_1)))
  (nilT
  (Td.fr 3
  (List.length
  (Wr.v (List.getD l (0 + Int.toNat i) Enc.dflt)))
  (Wr.cv (List.getD l (0 + Int.toNat i) Enc.dflt))
  fun i_1 =>
  encL (Wr.v (List.getD l (0 + Int.toNat i) Enc.dflt))
  (0 + i_1)))))))
  (need (true && Nat.ble (0 + List.length b) (List.length b))
  (need
  (ok2 Wr Wr (fun l x m x_1 => List.all l (okA Wr) && eqL l m)
  [Ta.cell
  (Td.fr 4
  (List.length
  (addWr
  (listT Wr
  (Td.fr 4 (List.length a) ca fun i =>
  encL a (0 + i)))
  (Wr.mk
  (intD
  (Td.sc
  (Value.int IntKind.i64
  (Wr.s
  (List.getD l (0 + Int.toNat i)
  Enc.dflt)))))
  (intD
  (Td.sc
  (Value.int IntKind.i64
  (Wr.d
  (List.getD l (0 + Int.toNat i)
  Enc.dflt)))))
  (listT Int
  (Td.fr 1
  (List.length
  (Wr.a
  (List.getD l (0 + Int.toNat i) Enc.dflt)))
  (Wr.ca
  (List.getD l (0 + Int.toNat i) Enc.dflt))
  fun i_1 =>
  encL
  (Wr.a
  (List.getD l (0 + Int.toNat i) Enc.dflt))
  (0 + i_1)))
  (nilT
  (Td.fr 1
  (List.length
  (Wr.a
  (List.getD l (0 + Int.toNat i) Enc.dflt)))
  (Wr.ca
  (List.getD l (0 + Int.toNat i) Enc.dflt))
  fun i_1 =>
  encL
  (Wr.a
  (List.getD l (0 + Int.toNat i) Enc.dflt))
  (0 + i_1)))
  (listT Vl
  (Td.fr 3
  (List.length
  (Wr.v
  (List.getD l (0 + Int.toNat i) Enc.dflt)))
  (Wr.cv
  (List.getD l (0 + Int.toNat i) Enc.dflt))
  fun i_1 =>
  encL
  (Wr.v
  (List.getD l (0 + Int.toNat i) Enc.dflt))
  (0 + i_1)))
  (nilT
  (Td.fr 3
  (List.length
  (Wr.v
  (List.getD l (0 + Int.toNat i) Enc.dflt)))
  (Wr.cv
  (List.getD l (0 + Int.toNat i) Enc.dflt))
  fun i_1 =>
  encL
  (Wr.v
  (List.getD l (0 + Int.toNat i) Enc.dflt))
  (0 + i_1))))))
  0 fun i_1 =>
  encL
  (addWr
  (listT Wr
  (Td.fr (Enc.es Wr) (List.length a) ca fun i =>
  encL a (0 + i)))
  (Wr.mk
  (intD
  (Td.sc
  (Value.int IntKind.i64
  (Wr.s
  (List.getD l (0 + Int.toNat i)
  Enc.dflt)))))
  (intD
  (Td.sc
  (Value.int IntKind.i64
  (Wr.d
  (List.getD l (0 + Int.toNat i)
  Enc.dflt)))))
  (listT Int
  (Td.fr 1
  (List.length
  (Wr.a
  (List.getD l (0 + Int.toNat i) Enc.dflt)))
  (Wr.ca
  (List.getD l (0 + Int.toNat i) Enc.dflt))
  fun i_2 =>
  encL
  (Wr.a
  (List.getD l (0 + Int.toNat i) Enc.dflt))
  (0 + i_2)))
  (nilT
  (Td.fr 1
  (List.length
  (Wr.a
  (List.getD l (0 + Int.toNat i) Enc.dflt)))
  (Wr.ca
  (List.getD l (0 + Int.toNat i) Enc.dflt))
  fun i_2 =>
  encL
  (Wr.a
  (List.getD l (0 + Int.toNat i) Enc.dflt))
  (0 + i_2)))
  (listT Vl
  (Td.fr 3
  (List.length
  (Wr.v
  (List.getD l (0 + Int.toNat i) Enc.dflt)))
  (Wr.cv
  (List.getD l (0 + Int.toNat i) Enc.dflt))
  fun i_2 =>
  encL
  (Wr.v
  (List.getD l (0 + Int.toNat i) Enc.dflt))
  (0 + i_2)))
  (nilT
  (Td.fr 3
  (List.length
  (Wr.v
  (List.getD l (0 + Int.toNat i) Enc.dflt)))
  (Wr.cv
  (List.getD l (0 + Int.toNat i) Enc.dflt))
  fun i_2 =>
  encL
  (Wr.v
  (List.getD l (0 + Int.toNat i) Enc.dflt))
  (0 + i_2)))))
  (0 + i_1)),
  Ta.cell
  (Td.fr 4 (List.length b) cb fun i =>
  encL b (0 + i))])
  (N AX.normal
  (mkF 89
  [(0,
  Value.slice
  (some (Addr.mk 0 0 (some 0)))
  (List.length l) c),
  (1,
  Value.slice
  (some (Addr.mk 1 0 (some 0)))
  (List.length img) d),
  (5,
  Value.slice
  (some (Addr.mk 2 0 (some 0)))
  (List.length
  (addWr
  (listT Wr
  (Td.fr 4 (List.length a) ca fun i =>
  encL a (0 + i)))
  (Wr.mk
  (intD
  (Td.sc
  (Value.int IntKind.i64
  (Wr.s
  (List.getD l (0 + Int.toNat i)
  Enc.dflt)))))
  (intD
  (Td.sc
  (Value.int IntKind.i64
  (Wr.d
  (List.getD l (0 + Int.toNat i)
  Enc.dflt)))))
  (listT Int
  (Td.fr 1
  (List.length
  (Wr.a
  (List.getD l (0 + Int.toNat i)
  Enc.dflt)))
  (Wr.ca
  (List.getD l (0 + Int.toNat i) Enc.dflt))
  fun i_1 =>
  encL
  (Wr.a
  (List.getD l (0 + Int.toNat i)
  Enc.dflt))
  (0 + i_1)))
  (nilT
  (Td.fr 1
  (List.length
  (Wr.a
  (List.getD l (0 + Int.toNat i)
  Enc.dflt)))
  (Wr.ca
  (List.getD l (0 + Int.toNat i) Enc.dflt))
  fun i_1 =>
  encL
  (Wr.a
  (List.getD l (0 + Int.toNat i)
  Enc.dflt))
  (0 + i_1)))
  (listT Vl
  (Td.fr 3
  (List.length
  (Wr.v
  (List.getD l (0 + Int.toNat i)
  Enc.dflt)))
  (Wr.cv
  (List.getD l (0 + Int.toNat i) Enc.dflt))
  fun i_1 =>
  encL
  (Wr.v
  (List.getD l (0 + Int.toNat i)
  Enc.dflt))
  (0 + i_1)))
  (nilT
  (Td.fr 3
  (List.length
  (Wr.v
  (List.getD l (0 + Int.toNat i)
  Enc.dflt)))
  (Wr.cv
  (List.getD l (0 + Int.toNat i) Enc.dflt))
  fun i_1 =>
  encL
  (Wr.v
  (List.getD l (0 + Int.toNat i)
  Enc.dflt))
  (0 + i_1))))))
  0),
  (6,
  Value.slice
  (some (Addr.mk 3 0 (some 0)))
  (List.length b) cb),
  (7,
  Value.int IntKind.i64
  (IntKind.wrap IntKind.i64 (i + (1 : Int))))])
  (mkS
  [some
  (AObj.row Rk.still 4 0 (List.length l)
  (encL l)),
  some
  (AObj.row Rk.still 3 0 (List.length img)
  (encL img)),
  some
  (AObj.row Rk.mine 4 0
  (List.length
  (addWr
  (listT Wr
  (Td.fr 4 (List.length a) ca fun i =>
  encL a (0 + i)))
  (Wr.mk
  (intD
  (Td.sc
  (Value.int IntKind.i64
  (Wr.s
  (List.getD l (0 + Int.toNat i)
  Enc.dflt)))))
  (intD
  (Td.sc
  (Value.int IntKind.i64
  (Wr.d
  (List.getD l (0 + Int.toNat i)
  Enc.dflt)))))
  (listT Int
  (Td.fr 1
  (List.length
  (Wr.a
  (List.getD l (0 + Int.toNat i)
  Enc.dflt)))
  (Wr.ca
  (List.getD l (0 + Int.toNat i) Enc.dflt))
  fun i_1 =>
  encL
  (Wr.a
  (List.getD l (0 + Int.toNat i)
  Enc.dflt))
  (0 + i_1)))
  (nilT
  (Td.fr 1
  (List.length
  (Wr.a
  (List.getD l (0 + Int.toNat i)
  Enc.dflt)))
  (Wr.ca
  (List.getD l (0 + Int.toNat i) Enc.dflt))
  fun i_1 =>
  encL
  (Wr.a
  (List.getD l (0 + Int.toNat i)
  Enc.dflt))
  (0 + i_1)))
  (listT Vl
  (Td.fr 3
  (List.length
  (Wr.v
  (List.getD l (0 + Int.toNat i)
  Enc.dflt)))
  (Wr.cv
  (List.getD l (0 + Int.toNat i) Enc.dflt))
  fun i_1 =>
  encL
  (Wr.v
  (List.getD l (0 + Int.toNat i)
  Enc.dflt))
  (0 + i_1)))
  (nilT
  (Td.fr 3
  (List.length
  (Wr.v
  (List.getD l (0 + Int.toNat i)
  Enc.dflt)))
  (Wr.cv
  (List.getD l (0 + Int.toNat i) Enc.dflt))
  fun i_1 =>
  encL
  (Wr.v
  (List.getD l (0 + Int.toNat i)
  Enc.dflt))
  (0 + i_1))))))
  (encL
  (addWr
  (listT Wr
  (Td.fr 4 (List.length a) ca fun i =>
  encL a (0 + i)))
  (Wr.mk
  (intD
  (Td.sc
  (Value.int IntKind.i64
  (Wr.s
  (List.getD l (0 + Int.toNat i)
  Enc.dflt)))))
  (intD
  (Td.sc
  (Value.int IntKind.i64
  (Wr.d
  (List.getD l (0 + Int.toNat i)
  Enc.dflt)))))
  (listT Int
  (Td.fr 1
  (List.length
  (Wr.a
  (List.getD l (0 + Int.toNat i)
  Enc.dflt)))
  (Wr.ca
  (List.getD l (0 + Int.toNat i) Enc.dflt))
  fun i_1 =>
  encL
  (Wr.a
  (List.getD l (0 + Int.toNat i)
  Enc.dflt))
  (0 + i_1)))
  (nilT
  (Td.fr 1
  (List.length
  (Wr.a
  (List.getD l (0 + Int.toNat i)
  Enc.dflt)))
  (Wr.ca
  (List.getD l (0 + Int.toNat i) Enc.dflt))
  fun i_1 =>
  encL
  (Wr.a
  (List.getD l (0 + Int.toNat i)
  Enc.dflt))
  (0 + i_1)))
  (listT Vl
  (Td.fr 3
  (List.length
  (Wr.v
  (List.getD l (0 + Int.toNat i)
  Enc.dflt)))
  (Wr.cv
  (List.getD l (0 + Int.toNat i) Enc.dflt))
  fun i_1 =>
  encL
  (Wr.v
  (List.getD l (0 + Int.toNat i)
  Enc.dflt))
  (0 + i_1)))
  (nilT
  (Td.fr 3
  (List.length
  (Wr.v
  (List.getD l (0 + Int.toNat i)
  Enc.dflt)))
  (Wr.cv
  (List.getD l (0 + Int.toNat i) Enc.dflt))
  fun i_1 =>
  encL
  (Wr.v
  (List.getD l (0 + Int.toNat i)
  Enc.dflt))
  (0 + i_1))))))),
  some
  (AObj.row Rk.mine 4 0 (List.length b)
  (encL b))]))))))
  (need (true && Nat.ble (0 + List.length b) (List.length b))
  (need (Nat.ble (0 + List.length b) 1000000)
  (need
  (true &&
  Nat.ble
  (0 +
  List.length (Wr.a (List.getD l (0 + Int.toNat i) Enc.dflt)))
  (List.length (Wr.a (List.getD l (0 + Int.toNat i) Enc.dflt))))
  (need
  (true &&
  Nat.ble
  (0 +
  List.length
  (Wr.v (List.getD l (0 + Int.toNat i) Enc.dflt)))
  (List.length
  (Wr.v (List.getD l (0 + Int.toNat i) Enc.dflt))))
  (need (Nat.ble (List.length b + 1) 1000000)
  (need (true && Nat.ble (0 + List.length b) (List.length b))
  (br
  (addEr
  (listT Wr
  (Td.fr 4 (List.length a) ca fun i =>
  encL a (0 + i))) !=
  (0 : Int))
  (onP N AX.ret (shpAr l img false))
  (need
  (true &&
  Nat.ble
  (0 +
  List.length
  (addWr
  (listT Wr
  (Td.fr 4 (List.length a) ca fun i =>
  encL a (0 + i)))
  (Wr.mk
  (intD
  (Td.sc
  (Value.int IntKind.i64
  (Wr.s
  (List.getD l (0 + Int.toNat i)
  Enc.dflt)))))
  (intD
  (Td.sc
  (Value.int IntKind.i64
  (Wr.d
  (List.getD l (0 + Int.toNat i)
  Enc.dflt)))))
  (listT Int
  (Td.fr 1
  (List.length
  (Wr.a
  (List.getD l (0 + Int.toNat i)
  Enc.dflt)))
  (Wr.ca
  (List.getD l (0 + Int.toNat i)
  Enc.dflt))
  fun i_1 =>
  encL
  (Wr.a
  (List.getD l (0 + Int.toNat i)
  Enc.dflt))
  (0 + i_1)))
  (nilT
  (Td.fr 1
  (List.length
  (Wr.a
  (List.getD l (0 + Int.toNat i)
  Enc.dflt)))
  (Wr.ca
  (List.getD l (0 + Int.toNat i)
  Enc.dflt))
  fun i_1 =>
  encL
  (Wr.a
  (List.getD l (0 + Int.toNat i)
  Enc.dflt))
  (0 + i_1)))
  (listT Vl
  (Td.fr 3
  (List.length
  (Wr.v
  (List.getD l (0 + Int.toNat i)
  Enc.dflt)))
  (Wr.cv
  (List.getD l (0 + Int.toNat i)
  Enc.dflt))
  fun i_1 =>
  encL
  (Wr.v
  (List.getD l (0 + Int.toNat i)
  Enc.dflt))
  (0 + i_1)))
  (nilT
  (Td.fr 3
  (List.length
  (Wr.v
  (List.getD l (0 + Int.toNat i)
  Enc.dflt)))
  (Wr.cv
  (List.getD l (0 + Int.toNat i)
  Enc.dflt))
  fun i_1 =>
  encL
  (Wr.v
  (List.getD l (0 + Int.toNat i)
  Enc.dflt))
  (0 + i_1))))))
  (List.length
  (addWr
  (listT Wr
  (Td.fr 4 (List.length a) ca fun i =>
  encL a (0 + i)))
  (Wr.mk
  (intD
  (Td.sc
  (Value.int IntKind.i64
  (Wr.s
  (List.getD l (0 + Int.toNat i)
  Enc.dflt)))))
  (intD
  (Td.sc
  (Value.int IntKind.i64
  (Wr.d
  (List.getD l (0 + Int.toNat i)
  Enc.dflt)))))
  (listT Int
  (Td.fr 1
  (List.length
  (Wr.a
  (List.getD l (0 + Int.toNat i)
  Enc.dflt)))
  (Wr.ca
  (List.getD l (0 + Int.toNat i)
  Enc.dflt))
  fun i_1 =>
  encL
  (Wr.a
  (List.getD l (0 + Int.toNat i)
  Enc.dflt))
  (0 + i_1)))
  (nilT
  (Td.fr 1
  (List.length
  (Wr.a
  (List.getD l (0 + Int.toNat i)
  Enc.dflt)))
  (Wr.ca
  (List.getD l (0 + Int.toNat i)
  Enc.dflt))
  fun i_1 =>
  encL
  (Wr.a
  (List.getD l (0 + Int.toNat i)
  Enc.dflt))
  (0 + i_1)))
  (listT Vl
  (Td.fr 3
  (List.length
  (Wr.v
  (List.getD l (0 + Int.toNat i)
  Enc.dflt)))
  (Wr.cv
  (List.getD l (0 + Int.toNat i)
  Enc.dflt))
  fun i_1 =>
  encL
  (Wr.v
  (List.getD l (0 + Int.toNat i)
  Enc.dflt))
  (0 + i_1)))
  (nilT
  (Td.fr 3
  (List.length
  (Wr.v
  (List.getD l (0 + Int.toNat i)
  Enc.dflt)))
  (Wr.cv
  (List.getD l (0 + Int.toNat i)
  Enc.dflt))
  fun i_1 =>
  encL
  (Wr.v
  (List.getD l (0 + Int.toNat i)
  Enc.dflt))
  (0 + i_1)))))))
  (need
  (true &&
  Nat.ble (0 + (List.length b + 1))
  (List.length b + 1))
  (need
  (ok2 Wr Wr (fun l x m x_1 => List.all l (okA Wr) && eqL l m)
  [Ta.cell
  (Td.fr 4
  (List.length
  (addWr
  (listT Wr
  (Td.fr 4 (List.length a) ca fun i =>
  encL a (0 + i)))
  (Wr.mk
  (intD
  (Td.sc
  (Value.int IntKind.i64
  (Wr.s
  (List.getD l (0 + Int.toNat i)
  Enc.dflt)))))
  (intD
  (Td.sc
  (Value.int IntKind.i64
  (Wr.d
  (List.getD l (0 + Int.toNat i)
  Enc.dflt)))))
  (listT Int
  (Td.fr 1
  (List.length
  (Wr.a
  (List.getD l (0 + Int.toNat i)
  Enc.dflt)))
  (Wr.ca
  (List.getD l (0 + Int.toNat i)
  Enc.dflt))
  fun i_1 =>
  encL
  (Wr.a
  (List.getD l (0 + Int.toNat i)
  Enc.dflt))
  (0 + i_1)))
  (nilT
  (Td.fr 1
  (List.length
  (Wr.a
  (List.getD l (0 + Int.toNat i)
  Enc.dflt)))
  (Wr.ca
  (List.getD l (0 + Int.toNat i)
  Enc.dflt))
  fun i_1 =>
  encL
  (Wr.a
  (List.getD l (0 + Int.toNat i)
  Enc.dflt))
  (0 + i_1)))
  (listT Vl
  (Td.fr 3
  (List.length
  (Wr.v
  (List.getD l (0 + Int.toNat i)
  Enc.dflt)))
  (Wr.cv
  (List.getD l (0 + Int.toNat i)
  Enc.dflt))
  fun i_1 =>
  encL
  (Wr.v
  (List.getD l (0 + Int.toNat i)
  Enc.dflt))
  (0 + i_1)))
  (nilT
  (Td.fr 3
  (List.length
  (Wr.v
  (List.getD l (0 + Int.toNat i)
  Enc.dflt)))
  (Wr.cv
  (List.getD l (0 + Int.toNat i)
  Enc.dflt))
  fun i_1 =>
  encL
  (Wr.v
  (List.getD l (0 + Int.toNat i)
  Enc.dflt))
  (0 + i_1))))))
  0 fun i_1 =>
  encL
  (addWr
  (listT Wr
  (Td.fr (Enc.es Wr) (List.length a) ca fun i =>
  encL a (0 + i)))
  (Wr.mk
  (intD
  (Td.sc
  (Value.int IntKind.i64
  (Wr.s
  (List.getD l (0 + Int.toNat i)
  Enc.dflt)))))
  (intD
  (Td.sc
  (Value.int IntKind.i64
  (Wr.d
  (List.getD l (0 + Int.toNat i)
  Enc.dflt)))))
  (listT Int
  (Td.fr 1
  (List.length
  (Wr.a
  (List.getD l (0 + Int.toNat i)
  Enc.dflt)))
  (Wr.ca
  (List.getD l (0 + Int.toNat i)
  Enc.dflt))
  fun i_2 =>
  encL
  (Wr.a
  (List.getD l (0 + Int.toNat i)
  Enc.dflt))
  (0 + i_2)))
  (nilT
  (Td.fr 1
  (List.length
  (Wr.a
  (List.getD l (0 + Int.toNat i)
  Enc.dflt)))
  (Wr.ca
  (List.getD l (0 + Int.toNat i)
  Enc.dflt))
  fun i_2 =>
  encL
  (Wr.a
  (List.getD l (0 + Int.toNat i)
  Enc.dflt))
  (0 + i_2)))
  (listT Vl
  (Td.fr 3
  (List.length
  (Wr.v
  (List.getD l (0 + Int.toNat i)
  Enc.dflt)))
  (Wr.cv
  (List.getD l (0 + Int.toNat i)
  Enc.dflt))
  fun i_2 =>
  encL
  (Wr.v
  (List.getD l (0 + Int.toNat i)
  Enc.dflt))
  (0 + i_2)))
  (nilT
  (Td.fr 3
  (List.length
  (Wr.v
  (List.getD l (0 + Int.toNat i)
  Enc.dflt)))
  (Wr.cv
  (List.getD l (0 + Int.toNat i)
  Enc.dflt))
  fun i_2 =>
  encL
  (Wr.v
  (List.getD l (0 + Int.toNat i)
  Enc.dflt))
  (0 + i_2)))))
  (0 + i_1)),
  Ta.cell
  (Td.fr 4 (List.length b + 1) 0
  fun i_1 =>
  (fun j k =>
  mrgT (Nat.blt j (List.length b))
  ((fun j => encL b (0 + j))
  (0 + j) k)
  (selT
  (TypeInfo.size
  (Tables.types
  (Program.toTables
  Try.prog))[29])
  1
  [Td.sc
  (Value.int IntKind.i64
  (Wr.s
  (List.getD l
  (0 + Int.toNat i)
  Enc.dflt))),
  Td.sc
  (Value.int IntKind.i64
  (Wr.d
  (List.getD l
  (0 + Int.toNat i)
  Enc.dflt))),
  Td.fr 1
  (List.length
  (Wr.a
  (List.getD l
  (0 + Int.toNat i)
  Enc.dflt)))
  (Wr.ca
  (List.getD l (0 + Int.toNat i)
  Enc.dflt))
  fun i_2 =>
  encL
  (Wr.a
  (List.getD l
  (0 + Int.toNat i)
  Enc.dflt))
  (0 + i_2),
  Td.fr 3
  (List.length
  (Wr.v
  (List.getD l
  (0 + Int.toNat i)
  Enc.dflt)))
  (Wr.cv
  (List.getD l (0 + Int.toNat i)
  Enc.dflt))
  fun i_2 =>
  encL
  (Wr.v
  (List.getD l
  (0 + Int.toNat i)
  Enc.dflt))
  (0 + i_2)]
  (j - List.length b) k))
  (0 + i_1))])
  (N AX.normal
  (mkF 89
  [(0,
  Value.slice
  (some
  (Addr.mk 0 0 (some 0)))
  (List.length l) c),
  (1,
  Value.slice
  (some
  (Addr.mk 1 0 (some 0)))
  (List.length img) d),
  (5,
  Value.slice
  (some
  (Addr.mk 2 0 (some 0)))
  (List.length
  (addWr
  (listT Wr
  (Td.fr 4 (List.length a) ca fun i =>
  encL a (0 + i)))
  (Wr.mk
  (intD
  (Td.sc
  (Value.int IntKind.i64
  (Wr.s
  (List.getD l
  (0 + Int.toNat i)
  Enc.dflt)))))
  (intD
  (Td.sc
  (Value.int IntKind.i64
  (Wr.d
  (List.getD l
  (0 + Int.toNat i)
  Enc.dflt)))))
  (listT Int
  (Td.fr 1
  (List.length
  (Wr.a
  (List.getD l
  (0 + Int.toNat i)
  Enc.dflt)))
  (Wr.ca
  (List.getD l (0 + Int.toNat i)
  Enc.dflt))
  fun i_1 =>
  encL
  (Wr.a
  (List.getD l
  (0 + Int.toNat i)
  Enc.dflt))
  (0 + i_1)))
  (nilT
  (Td.fr 1
  (List.length
  (Wr.a
  (List.getD l
  (0 + Int.toNat i)
  Enc.dflt)))
  (Wr.ca
  (List.getD l (0 + Int.toNat i)
  Enc.dflt))
  fun i_1 =>
  encL
  (Wr.a
  (List.getD l
  (0 + Int.toNat i)
  Enc.dflt))
  (0 + i_1)))
  (listT Vl
  (Td.fr 3
  (List.length
  (Wr.v
  (List.getD l
  (0 + Int.toNat i)
  Enc.dflt)))
  (Wr.cv
  (List.getD l (0 + Int.toNat i)
  Enc.dflt))
  fun i_1 =>
  encL
  (Wr.v
  (List.getD l
  (0 + Int.toNat i)
  Enc.dflt))
  (0 + i_1)))
  (nilT
  (Td.fr 3
  (List.length
  (Wr.v
  (List.getD l
  (0 + Int.toNat i)
  Enc.dflt)))
  (Wr.cv
  (List.getD l (0 + Int.toNat i)
  Enc.dflt))
  fun i_1 =>
  encL
  (Wr.v
  (List.getD l
  (0 + Int.toNat i)
  Enc.dflt))
  (0 + i_1))))))
  0),
  (6,
  Value.slice
  (some
  (Addr.mk 3 0 (some 0)))
  (List.length b + 1) 0),
  (7,
  Value.int IntKind.i64
  (IntKind.wrap IntKind.i64 (i + (1 : Int))))])
  (mkS
  [some
  (AObj.row Rk.still 4 0
  (List.length l) (encL l)),
  some
  (AObj.row Rk.still 3 0
  (List.length img) (encL img)),
  some
  (AObj.row Rk.mine 4 0
  (List.length
  (addWr
  (listT Wr
  (Td.fr 4 (List.length a) ca fun i =>
  encL a (0 + i)))
  (Wr.mk
  (intD
  (Td.sc
  (Value.int IntKind.i64
  (Wr.s
  (List.getD l
  (0 + Int.toNat i)
  Enc.dflt)))))
  (intD
  (Td.sc
  (Value.int IntKind.i64
  (Wr.d
  (List.getD l
  (0 + Int.toNat i)
  Enc.dflt)))))
  (listT Int
  (Td.fr 1
  (List.length
  (Wr.a
  (List.getD l
  (0 + Int.toNat i)
  Enc.dflt)))
  (Wr.ca
  (List.getD l (0 + Int.toNat i)
  Enc.dflt))
  fun i_1 =>
  encL
  (Wr.a
  (List.getD l
  (0 + Int.toNat i)
  Enc.dflt))
  (0 + i_1)))
  (nilT
  (Td.fr 1
  (List.length
  (Wr.a
  (List.getD l
  (0 + Int.toNat i)
  Enc.dflt)))
  (Wr.ca
  (List.getD l (0 + Int.toNat i)
  Enc.dflt))
  fun i_1 =>
  encL
  (Wr.a
  (List.getD l
  (0 + Int.toNat i)
  Enc.dflt))
  (0 + i_1)))
  (listT Vl
  (Td.fr 3
  (List.length
  (Wr.v
  (List.getD l
  (0 + Int.toNat i)
  Enc.dflt)))
  (Wr.cv
  (List.getD l (0 + Int.toNat i)
  Enc.dflt))
  fun i_1 =>
  encL
  (Wr.v
  (List.getD l
  (0 + Int.toNat i)
  Enc.dflt))
  (0 + i_1)))
  (nilT
  (Td.fr 3
  (List.length
  (Wr.v
  (List.getD l
  (0 + Int.toNat i)
  Enc.dflt)))
  (Wr.cv
  (List.getD l (0 + Int.toNat i)
  Enc.dflt))
  fun i_1 =>
  encL
  (Wr.v
  (List.getD l
  (0 + Int.toNat i)
  Enc.dflt))
  (0 + i_1))))))
  (encL
  (addWr
  (listT Wr
  (Td.fr 4 (List.length a) ca fun i =>
  encL a (0 + i)))
  (Wr.mk
  (intD
  (Td.sc
  (Value.int IntKind.i64
  (Wr.s
  (List.getD l
  (0 + Int.toNat i)
  Enc.dflt)))))
  (intD
  (Td.sc
  (Value.int IntKind.i64
  (Wr.d
  (List.getD l
  (0 + Int.toNat i)
  Enc.dflt)))))
  (listT Int
  (Td.fr 1
  (List.length
  (Wr.a
  (List.getD l
  (0 + Int.toNat i)
  Enc.dflt)))
  (Wr.ca
  (List.getD l (0 + Int.toNat i)
  Enc.dflt))
  fun i_1 =>
  encL
  (Wr.a
  (List.getD l
  (0 + Int.toNat i)
  Enc.dflt))
  (0 + i_1)))
  (nilT
  (Td.fr 1
  (List.length
  (Wr.a
  (List.getD l
  (0 + Int.toNat i)
  Enc.dflt)))
  (Wr.ca
  (List.getD l (0 + Int.toNat i)
  Enc.dflt))
  fun i_1 =>
  encL
  (Wr.a
  (List.getD l
  (0 + Int.toNat i)
  Enc.dflt))
  (0 + i_1)))
  (listT Vl
  (Td.fr 3
  (List.length
  (Wr.v
  (List.getD l
  (0 + Int.toNat i)
  Enc.dflt)))
  (Wr.cv
  (List.getD l (0 + Int.toNat i)
  Enc.dflt))
  fun i_1 =>
  encL
  (Wr.v
  (List.getD l
  (0 + Int.toNat i)
  Enc.dflt))
  (0 + i_1)))
  (nilT
  (Td.fr 3
  (List.length
  (Wr.v
  (List.getD l
  (0 + Int.toNat i)
  Enc.dflt)))
  (Wr.cv
  (List.getD l (0 + Int.toNat i)
  Enc.dflt))
  fun i_1 =>
  encL
  (Wr.v
  (List.getD l
  (0 + Int.toNat i)
  Enc.dflt))
  (0 + i_1))))))),
  some
  (AObj.row Rk.mine 4 0
  (List.length b + 1) fun j k =>
  mrgT (Nat.blt j (List.length b))
  (encL b (0 + (0 + j)) k)
  (selT 4 1
  [Td.sc
  (Value.int IntKind.i64
  (Wr.s
  (List.getD l (0 + Int.toNat i)
  Enc.dflt))),
  Td.sc
  (Value.int IntKind.i64
  (Wr.d
  (List.getD l (0 + Int.toNat i)
  Enc.dflt))),
  Td.fr 1
  (List.length
  (Wr.a
  (List.getD l (0 + Int.toNat i)
  Enc.dflt)))
  (Wr.ca
  (List.getD l (0 + Int.toNat i)
  Enc.dflt))
  fun i_1 =>
  encL
  (Wr.a
  (List.getD l (0 + Int.toNat i)
  Enc.dflt))
  (0 + i_1),
  Td.fr 3
  (List.length
  (Wr.v
  (List.getD l (0 + Int.toNat i)
  Enc.dflt)))
  (Wr.cv
  (List.getD l (0 + Int.toNat i)
  Enc.dflt))
  fun i_1 =>
  encL
  (Wr.v
  (List.getD l (0 + Int.toNat i)
  Enc.dflt))
  (0 + i_1)]
  (j - List.length b)
  k))])))))))))))))))))))))))))))))))
  (N (AX.exit 0)
  (mkF 89
  [(0, Value.slice (some (Addr.mk 0 0 (some 0))) (List.length l) c),
  (1, Value.slice (some (Addr.mk 1 0 (some 0))) (List.length img) d),
  (5, Value.slice (some (Addr.mk 2 0 (some 0))) (List.length a) ca),
  (6, Value.slice (some (Addr.mk 3 0 (some 0))) (List.length b) cb),
  (7, Value.int IntKind.i64 i)])
  (mkS
  [some (AObj.row Rk.still 4 0 (List.length l) (encL l)),
  some (AObj.row Rk.still 3 0 (List.length img) (encL img)),
  some (AObj.row Rk.mine 4 0 (List.length a) (encL a)),
  some (AObj.row Rk.mine 4 0 (List.length b) (encL b))]))) := by kernel_rfl
end Go.Proofs.Ytpejhdbllphdaaa.Ev
