/-
  What has to hold: printed by the evaluator.
-/
import Derived.Test.YtncndnlbiijdoaaInZb
set_option linter.unusedVariables false
set_option maxRecDepth 1000000
namespace Go.Proofs.Ytncndnlbiijdoaa.Ev
open Go Go.Proofs
def slP1 : List Nat := [0, 1, 5]
def slP2 : List Nat := [0, 1, 6]
def lvsP (b : Nat) : List Nat := cond (Nat.beq b 0) slP1 slP2
def lvP1 : AX → List Nat := fun x => match x with
  | .ret => [4]
  | _ => slP1
def lvP2 : AX → List Nat := fun x => match x with
  | .ret => [4]
  | _ => slP2
def FP1 (l m : List In) (c d : Nat) (i : Int) : AFr := mkF 58 [(0, .slice (some ⟨0, 0, some 0⟩) l.length c), (1, .slice (some ⟨1, 0, some 0⟩) m.length d), (5, .int .i64 i)]
def FP2 (l m : List In) (c d : Nat) (i : Int) : AFr := mkF 58 [(0, .slice (some ⟨0, 0, some 0⟩) l.length c), (1, .slice (some ⟨1, 0, some 0⟩) m.length d), (6, .int .i64 i)]
def SP12 (l m : List In) : ASt := mkS [some (rowO .still l), some (rowO .still m)]
def FPr0 (q : Bool) : AFr := mkF 58 [(4, .bool q)]
def exP12 (l m : List In) (c d : Nat) : Nat → Kt → Prop := fun x K => cond (Nat.beq x 0) ((l.all mayB = true → K (.exit x) (FP1 l m c d l.length) (SP12 l m)) ∧ K .ret (FPr0 true) (SP12 l m)) ((m.all mayB = true → K (.exit x) (FP2 l m c d m.length) (SP12 l m)) ∧ K .ret (FPr0 true) (SP12 l m))
def shpP1 (l m : List In) (c d : Nat) (i' : Int) : AFr × ASt := (FP1 l m c d i', SP12 l m)
def shpP2 (l m : List In) (c d : Nat) (i' : Int) : AFr × ASt := (FP2 l m c d i', SP12 l m)
def shpP0 (l m : List In) (q' : Bool) : AFr × ASt := (FPr0 q', SP12 l m)
theorem vc_ia (l m : List In) (c d : Nat) (β : Bs) : lawE Try.prog toldB9 100 20 β (fun _ => 0) (cnOf 2 lvsP) (exP12 l m c d) 6 [.slice (some ⟨0, 0, some 0⟩) l.length c, .slice (some ⟨1, 0, some 0⟩) m.length d] (mkS [some (rowO .still l), some (rowO .still m)]) trueE =
(  br (decide (Int.ofNat (List.length l) > (6 : Int))) True
  (br (decide (Int.ofNat (List.length m) > (6 : Int))) True
  (LoopJ Try.prog β (exP12 l m c d) 0 (loopOf Try.prog 6 0) (FP1 l m c d (0 : Int))
  (SP12 l m) ∧
  (List.all l mayB = true →
  LoopJ Try.prog β (exP12 l m c d) 2 (loopOf Try.prog 6 2) (FP2 l m c d (0 : Int))
  (SP12 l m) ∧
  (List.all m mayB = true →
  need (true && Nat.ble (0 + List.length l) (List.length l))
  (need
  (ok1 In (fun l x => List.all l (okA In))
  [Ta.cell (Td.fr 7 (List.length l) c fun i => encL l (0 + i))])
  (need
  (true &&
  Nat.ble
  (0 +
  List.length
  (ipL (listT In (Td.fr 7 (List.length l) c fun i => encL l (0 + i)))))
  (List.length
  (ipL (listT In (Td.fr 7 (List.length l) c fun i => encL l (0 + i))))))
  (need
  (allB
  (List.length
  (ipL (listT In (Td.fr 7 (List.length l) c fun i => encL l (0 + i)))))
  fun j =>
  encL (ipL (listT In (Td.fr 7 (List.length l) c fun i => encL l (0 + i))))
  (0 + j))
  (need (true && Nat.ble (0 + List.length m) (List.length m))
  (need
  (ok1 In (fun l x => List.all l (okA In))
  [Ta.cell (Td.fr 7 (List.length m) d fun i => encL m (0 + i))])
  (need
  (true &&
  Nat.ble
  (0 +
  List.length
  (ipL
  (listT In (Td.fr 7 (List.length m) d fun i => encL m (0 + i)))))
  (List.length
  (ipL
  (listT In (Td.fr 7 (List.length m) d fun i => encL m (0 + i))))))
  (need
  (allB
  (List.length
  (ipL
  (listT In (Td.fr 7 (List.length m) d fun i => encL m (0 + i)))))
  fun j =>
  encL
  (ipL (listT In (Td.fr 7 (List.length m) d fun i => encL m (0 + i))))
  (0 + j))
  (need (true && Nat.ble (0 + List.length l) (List.length l))
  (need (true && Nat.ble (0 + List.length m) (List.length m))
  (need
  (ok2 In In (fun x x_1 x_2 x_3 => true)
  [Ta.cell (Td.fr 7 (List.length l) c fun i => encL l (0 + i)),
  Ta.cell (Td.fr 7 (List.length m) d fun i => encL m (0 + i))])
  (need
  ((List.map
  (fun j =>
  byteF
  (encL
  (ipL
  (listT In
  (Td.fr 7 (List.length l) c fun i =>
  encL l (0 + i))))
  (0 + j) 0))
  (List.range
  (List.length
  (ipL
  (listT In
  (Td.fr 7 (List.length l) c fun i =>
  encL l (0 + i)))))) ==
  List.map
  (fun j =>
  byteF
  (encL
  (ipL
  (listT In
  (Td.fr 7 (List.length m) d fun i =>
  encL m (0 + i))))
  (0 + j) 0))
  (List.range
  (List.length
  (ipL
  (listT In
  (Td.fr 7 (List.length m) d fun i =>
  encL m (0 + i))))))) ==
  sameIs
  (listT In
  (Td.fr 7 (List.length l) c fun i => encL l (0 + i)))
  (listT In
  (Td.fr 7 (List.length m) d fun i => encL m (0 + i))))
  (need (true && Nat.ble (0 + List.length l) (List.length l))
  (need
  (ok1 In (fun l x => List.all l (okA In))
  [Ta.cell
  (Td.fr 7 (List.length l) c fun i => encL l (0 + i))])
  (need
  (decide
  (Int.ofNat
  (List.length
  (ipL
  (listT In
  (Td.fr 7 (List.length l) c fun i =>
  encL l (0 + i))))) ≥
  (2 : Int)))
  True))))))))))))))) ∧
  True) ∧
  True))) := by kernel_rfl
theorem vc_ia1_r (l m : List In) (c d : Nat) (i : Int) (β : Bs) (N : Kt) (ex : Nat → Kt → Prop) : roundJ Try.prog toldB9 100 20 β (fun _ => 0) (cnOf 2 lvsP) ex 6 0 2 lvP1 (FP1 l m c d i) (SP12 l m) N =
(  br (decide (i < Int.ofNat (List.length l)))
  (need (decide ((0 : Int) ≤ i))
  (need (Nat.blt (Int.toNat i) (List.length l))
  (need (Nat.ble 0 (0 + Int.toNat i) && Nat.blt (0 + Int.toNat i) (List.length l))
  (br
  (!mayB
  (In.mk (In.op (List.getD l (0 + Int.toNat i) Enc.dflt))
  (In.kd (List.getD l (0 + Int.toNat i) Enc.dflt))
  (In.a (List.getD l (0 + Int.toNat i) Enc.dflt))
  (In.n (List.getD l (0 + Int.toNat i) Enc.dflt))
  (Vl.mk (Vl.k (In.v (List.getD l (0 + Int.toNat i) Enc.dflt)))
  (Vl.i (In.v (List.getD l (0 + Int.toNat i) Enc.dflt)))
  (Vl.f (In.v (List.getD l (0 + Int.toNat i) Enc.dflt))))))
  (onP N AX.ret (shpP0 l m true))
  (onP N AX.normal (shpP1 l m c d (IntKind.wrap IntKind.i64 (i + (1 : Int)))))))))
  (onP N (AX.exit 0) (shpP1 l m c d i))) := by kernel_rfl
theorem vc_ia2_r (l m : List In) (c d : Nat) (i : Int) (β : Bs) (N : Kt) (ex : Nat → Kt → Prop) : roundJ Try.prog toldB9 100 20 β (fun _ => 0) (cnOf 2 lvsP) ex 6 2 2 lvP2 (FP2 l m c d i) (SP12 l m) N =
(  br (decide (i < Int.ofNat (List.length m)))
  (need (decide ((0 : Int) ≤ i))
  (need (Nat.blt (Int.toNat i) (List.length m))
  (need (Nat.ble 0 (0 + Int.toNat i) && Nat.blt (0 + Int.toNat i) (List.length m))
  (br
  (!mayB
  (In.mk (In.op (List.getD m (0 + Int.toNat i) Enc.dflt))
  (In.kd (List.getD m (0 + Int.toNat i) Enc.dflt))
  (In.a (List.getD m (0 + Int.toNat i) Enc.dflt))
  (In.n (List.getD m (0 + Int.toNat i) Enc.dflt))
  (Vl.mk (Vl.k (In.v (List.getD m (0 + Int.toNat i) Enc.dflt)))
  (Vl.i (In.v (List.getD m (0 + Int.toNat i) Enc.dflt)))
  (Vl.f (In.v (List.getD m (0 + Int.toNat i) Enc.dflt))))))
  (onP N AX.ret (shpP0 l m true))
  (onP N AX.normal (shpP2 l m c d (IntKind.wrap IntKind.i64 (i + (1 : Int)))))))))
  (onP N (AX.exit 2) (shpP2 l m c d i))) := by kernel_rfl
end Go.Proofs.Ytncndnlbiijdoaa.Ev
