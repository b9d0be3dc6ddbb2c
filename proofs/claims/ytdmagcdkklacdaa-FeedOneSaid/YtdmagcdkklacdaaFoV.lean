/-
  What has to hold: printed by the evaluator.
-/
import Derived.Test.YtdmagcdkklacdaaFdZ
set_option linter.unusedVariables false
set_option maxRecDepth 1000000
namespace Go.Proofs.Ytdmagcdkklacdaa.Ev
open Go Go.Proofs
def slO1 : List Nat := [0, 3, 4]
def slO2 : List Nat := [0, 3, 4, 5, 6]
def lvsO (b : Nat) : List Nat := cond (Nat.beq b 0) slO1 slO2
def lvO1 : AX → List Nat := fun x => match x with
  | .ret => [2]
  | _ => slO1
def lvO2 : AX → List Nat := fun x => match x with
  | .ret => [2]
  | .exit _ => slO1
  | _ => slO2
def FO1 (l : List Ld) (c : Nat) (i : Int) : AFr := mkF 102 [(0, .slice (some ⟨0, 0, some 0⟩) l.length c), (3, .pointer (some ⟨1, 0, none⟩)), (4, .int .i64 i)]
def SO1 (l : List Ld) (X : List U8) (cx : Nat) : ASt := mkS [some (rowO .still l), some (.cells [.slice (some ⟨2, 0, some 0⟩) X.length cx, .bool false] true 0), some (rowO .mine X)]
def FO1r (q : Bool) : AFr := mkF 102 [(2, .bool q)]
def SO1r (l : List Ld) : ASt := mkS [some (rowO .still l)]
def FO2 (l : List Ld) (c : Nat) (i : Int) (F : List U8) (k : Int) : AFr := mkF 102 [(0, .slice (some ⟨0, 0, some 0⟩) l.length c), (3, .pointer (some ⟨1, 0, none⟩)), (4, .int .i64 i), (5, .slice (some ⟨3, 0, some 0⟩) F.length 1), (6, .int .i64 k)]
def SO2 (l : List Ld) (F X : List U8) (cx : Nat) : ASt := mkS [some (rowO .still l), some (.cells [.slice (some ⟨2, 0, some 0⟩) X.length cx, .bool false] true 0), some (rowO .mine X), some (rowO .mine F)]
def exO (l : List Ld) (c : Nat) (i : Int) : Nat → Kt → Prop := fun x K => cond (Nat.beq x 0) ((∀ cx, cx ≤ 1 → K (.exit x) (FO1 l c l.length) (SO1 l [] cx)) ∧ K .ret (FO1r true) (SO1r l)) (∀ cx, cx ≤ 1 → K (.exit x) (FO1 l c i) (SO1 l [] cx))
theorem vc_fo (l : List Ld) (c : Nat) (i : Int) (β : Bs) : lawE Try.prog toldG 100 20 β (fun _ => 0) (cnOf 1 lvsO) (exO l c i) 6 [.slice (some ⟨0, 0, some 0⟩) l.length c] (mkS [some (rowO .still l)]) trueE =
(  br (decide (Int.ofNat (List.length l) > (4 : Int))) True
  (LoopJ Try.prog β (exO l c i) 0 (loopOf Try.prog 6 0)
  (mkF 102
  [(0, Value.slice (some (Addr.mk 0 0 (some 0))) (List.length l) c),
  (3, Value.pointer (some (Addr.mk 1 0 none))),
  (4, Value.int IntKind.i64 (0 : Int))])
  (mkS
  [some (AObj.row Rk.still 1 0 (List.length l) (encL l)),
  some (AObj.cells [Value.slice none 0 0, Value.bool false] true 0)]) ∧
  (∀ (cx : Nat), cx ≤ 1 → True) ∧ True)) := by kernel_rfl
theorem vc_fo1_r (l : List Ld) (c : Nat) (i : Int) (X : List U8) (cx : Nat) (β : Bs) (N : Kt) : roundJ Try.prog toldG 100 20 β (fun _ => 0) (cnOf 1 lvsO) (exO l c i) 6 0 1 lvO1 (FO1 l c i) (SO1 l X cx) N =
(  br (decide (i < Int.ofNat (List.length l)))
  (need (decide ((0 : Int) ≤ i))
  (need (Nat.blt (Int.toNat i) (List.length l))
  (need (Nat.ble 0 (0 + Int.toNat i) && Nat.blt (0 + Int.toNat i) (List.length l))
  (br (decide (Int.ofNat (List.length (Ld.l (List.getD l (0 + Int.toNat i) Enc.dflt))) > (40 : Int)))
  (N AX.ret (mkF 102 [(2, Value.bool true)])
  (mkS [some (AObj.row Rk.still 1 0 (List.length l) (encL l))]))
  (need (decide ((0 : Int) ≤ IntKind.wrap IntKind.i64 (i + (1 : Int))))
  (need (Nat.ble (Int.toNat (IntKind.wrap IntKind.i64 (i + (1 : Int)))) (List.length l))
  (need (decide ((0 : Int) ≤ i))
  (need (Nat.ble (Int.toNat i) (Int.toNat (IntKind.wrap IntKind.i64 (i + (1 : Int)))))
  (need
  (Nat.ble 0 (0 + Int.toNat i) &&
  Nat.ble
  (0 + Int.toNat i + (Int.toNat (IntKind.wrap IntKind.i64 (i + (1 : Int))) - Int.toNat i))
  (List.length l))
  (need
  (ok1 Ld (fun l x => List.all l (okA Ld) && Nat.ble (List.length l) 1000)
  [Ta.cell
  (Td.fr 1 (Int.toNat (IntKind.wrap IntKind.i64 (i + (1 : Int))) - Int.toNat i)
  (bif Nat.beq (List.length l) 0 then c else 0) fun i_1 =>
  encL l (0 + Int.toNat i + i_1))])
  (LoopJ Try.prog β (exO l c i) 2 (loopOf Try.prog 6 2)
  (mkF 102
  [(0,
  Value.slice (some (Addr.mk 0 0 (some 0))) (List.length l) c),
  (3, Value.pointer (some (Addr.mk 1 0 none))),
  (4, Value.int IntKind.i64 i),
  (5,
  Value.slice (some (Addr.mk 3 0 (some 0)))
  (List.length
  (loadsN
  (listT Ld
  (Td.fr 1
  (Int.toNat (IntKind.wrap IntKind.i64 (i + (1 : Int))) - Int.toNat i)
  (bif Nat.beq (List.length l) 0 then c else 0) fun i_1 =>
  encL l (0 + Int.toNat i + i_1)))
  (List.length
  (listT Ld
  (Td.fr 1
  (Int.toNat (IntKind.wrap IntKind.i64 (i + (1 : Int))) - Int.toNat i)
  (bif Nat.beq (List.length l) 0 then c else 0) fun i_1 =>
  encL l (0 + Int.toNat i + i_1))))))
  1),
  (6, Value.int IntKind.i64 (0 : Int))])
  (mkS
  [some (AObj.row Rk.still 1 0 (List.length l) (encL l)),
  some
  (AObj.cells
  [Value.slice (some (Addr.mk 2 0 (some 0))) (List.length X) cx,
  Value.bool false]
  true 0),
  some (AObj.row Rk.mine 1 0 (List.length X) (encL X)),
  some
  (AObj.row Rk.mine 1 0
  (List.length
  (loadsN
  (listT Ld
  (Td.fr 1
  (Int.toNat (IntKind.wrap IntKind.i64 (i + (1 : Int))) - Int.toNat i)
  (bif Nat.beq (List.length l) 0 then c else 0) fun i_1 =>
  encL l (0 + Int.toNat i + i_1)))
  (List.length
  (listT Ld
  (Td.fr 1
  (Int.toNat (IntKind.wrap IntKind.i64 (i + (1 : Int))) - Int.toNat i)
  (bif Nat.beq (List.length l) 0 then c else 0) fun i_1 =>
  encL l (0 + Int.toNat i + i_1))))))
  (encL
  (loadsN
  (listT Ld
  (Td.fr 1
  (Int.toNat (IntKind.wrap IntKind.i64 (i + (1 : Int))) - Int.toNat i)
  (bif Nat.beq (List.length l) 0 then c else 0) fun i_1 =>
  encL l (0 + Int.toNat i + i_1)))
  (List.length
  (listT Ld
  (Td.fr 1
  (Int.toNat (IntKind.wrap IntKind.i64 (i + (1 : Int))) - Int.toNat i)
  (bif Nat.beq (List.length l) 0 then c else 0) fun i_1 =>
  encL l (0 + Int.toNat i + i_1)))))))]) ∧
  ∀ (cx : Nat),
  cx ≤ 1 →
  N AX.normal
  (mkF 102
  [(0,
  Value.slice (some (Addr.mk 0 0 (some 0))) (List.length l)
  c),
  (3, Value.pointer (some (Addr.mk 1 0 none))),
  (4, Value.int IntKind.i64 (IntKind.wrap IntKind.i64 (i + (1 : Int))))])
  (mkS
  [some (AObj.row Rk.still 1 0 (List.length l) (encL l)),
  some
  (AObj.cells
  [Value.slice (some (Addr.mk 2 0 (some 0))) 0 cx,
  Value.bool false]
  true 0),
  some (AObj.row Rk.mine 1 0 0 (encL ([] : List U8)))]))))))))))))
  (N (AX.exit 0)
  (mkF 102
  [(0, Value.slice (some (Addr.mk 0 0 (some 0))) (List.length l) c),
  (3, Value.pointer (some (Addr.mk 1 0 none))), (4, Value.int IntKind.i64 i)])
  (mkS
  [some (AObj.row Rk.still 1 0 (List.length l) (encL l)),
  some
  (AObj.cells
  [Value.slice (some (Addr.mk 2 0 (some 0))) (List.length X) cx, Value.bool false]
  true 0),
  some (AObj.row Rk.mine 1 0 (List.length X) (encL X))]))) := by kernel_rfl
theorem vc_fo2_r (l : List Ld) (c : Nat) (i : Int) (F X : List U8) (k : Int) (cx : Nat) (β : Bs) (N : Kt) (ex : Nat → Kt → Prop) : roundJ Try.prog toldG 100 20 β (fun _ => 0) (cnOf 1 lvsO) ex 6 2 1 lvO2 (FO2 l c i F k) (SO2 l F X cx) N =
(  br (decide (k < Int.ofNat (List.length F)))
  (need (decide ((0 : Int) ≤ IntKind.wrap IntKind.i64 (k + (1 : Int))))
  (need (Nat.ble (Int.toNat (IntKind.wrap IntKind.i64 (k + (1 : Int)))) (List.length F))
  (need (decide ((0 : Int) ≤ k))
  (need (Nat.ble (Int.toNat k) (Int.toNat (IntKind.wrap IntKind.i64 (k + (1 : Int)))))
  (need (true && Nat.ble (0 + List.length X) (List.length X))
  (need
  (Nat.ble 0 (0 + Int.toNat k) &&
  Nat.ble (0 + Int.toNat k + (Int.toNat (IntKind.wrap IntKind.i64 (k + (1 : Int))) - Int.toNat k))
  (List.length F))
  (need
  (okFd
  [Ta.agg
  [Td.fr 1 (List.length X) cx fun i => encL X (0 + i), Td.sc (Value.bool false)],
  Ta.cell
  (Td.fr 1 (Int.toNat (IntKind.wrap IntKind.i64 (k + (1 : Int))) - Int.toNat k)
  (bif Nat.beq (List.length F) 0 then 1 else 0) fun i =>
  encL F (0 + Int.toNat k + i))])
  (br
  (!(Int.ofNat
  (List.length
  (fdL false (listT U8 (Td.fr 1 (List.length X) cx fun i => encL X (0 + i)))
  (listT U8
  (Td.fr 1 (Int.toNat (IntKind.wrap IntKind.i64 (k + (1 : Int))) - Int.toNat k)
  (bif Nat.beq (List.length F) 0 then 1 else 0) fun i =>
  encL F (0 + Int.toNat k + i))))) ==
  (1 : Int)) ==
  (k == IntKind.wrap IntKind.i64 (Int.ofNat (List.length F) - (1 : Int))))
  (N AX.ret (mkF 102 [(2, Value.bool false)])
  (mkS [some (AObj.row Rk.still 1 0 (List.length l) (encL l))]))
  (br
  (decide
  (Int.ofNat
  (List.length
  (fdL false (listT U8 (Td.fr 1 (List.length X) cx fun i => encL X (0 + i)))
  (listT U8
  (Td.fr 1 (Int.toNat (IntKind.wrap IntKind.i64 (k + (1 : Int))) - Int.toNat k)
  (bif Nat.beq (List.length F) 0 then 1 else 0) fun i =>
  encL F (0 + Int.toNat k + i))))) >
  (1 : Int)))
  (N AX.ret (mkF 102 [(2, Value.bool false)])
  (mkS [some (AObj.row Rk.still 1 0 (List.length l) (encL l))]))
  (br (k == IntKind.wrap IntKind.i64 (Int.ofNat (List.length F) - (1 : Int)))
  (need
  (Nat.blt 0
  (List.length
  (fdL false (listT U8 (Td.fr 1 (List.length X) cx fun i => encL X (0 + i)))
  (listT U8
  (Td.fr 1 (Int.toNat (IntKind.wrap IntKind.i64 (k + (1 : Int))) - Int.toNat k)
  (bif Nat.beq (List.length F) 0 then 1 else 0) fun i =>
  encL F (0 + Int.toNat k + i))))))
  (need
  (true &&
  Nat.blt 0
  (List.length
  (fdL false
  (listT U8 (Td.fr 1 (List.length X) cx fun i => encL X (0 + i)))
  (listT U8
  (Td.fr 1
  (Int.toNat (IntKind.wrap IntKind.i64 (k + (1 : Int))) - Int.toNat k)
  (bif Nat.beq (List.length F) 0 then 1 else 0) fun i =>
  encL F (0 + Int.toNat k + i))))))
  (need
  (true &&
  Nat.ble
  (0 +
  List.length
  (Ld.l
  (List.getD
  (fdL false
  (listT U8
  (Td.fr 1 (List.length X) cx fun i => encL X (0 + i)))
  (listT U8
  (Td.fr 1
  (Int.toNat (IntKind.wrap IntKind.i64 (k + (1 : Int))) - Int.toNat k)
  (bif Nat.beq (List.length F) 0 then 1 else 0)
  fun i => encL F (0 + Int.toNat k + i))))
  0 Enc.dflt)))
  (List.length
  (Ld.l
  (List.getD
  (fdL false
  (listT U8 (Td.fr 1 (List.length X) cx fun i => encL X (0 + i)))
  (listT U8
  (Td.fr 1
  (Int.toNat (IntKind.wrap IntKind.i64 (k + (1 : Int))) - Int.toNat k)
  (bif Nat.beq (List.length F) 0 then 1 else 0)
  fun i => encL F (0 + Int.toNat k + i))))
  0 Enc.dflt))))
  (need
  (allB
  (List.length
  (Ld.l
  (List.getD
  (fdL false
  (listT U8 (Td.fr 1 (List.length X) cx fun i => encL X (0 + i)))
  (listT U8
  (Td.fr 1
  (Int.toNat (IntKind.wrap IntKind.i64 (k + (1 : Int))) - Int.toNat k)
  (bif Nat.beq (List.length F) 0 then 1 else 0)
  fun i => encL F (0 + Int.toNat k + i))))
  0 Enc.dflt)))
  fun j =>
  encL
  (Ld.l
  (List.getD
  (fdL false
  (listT U8 (Td.fr 1 (List.length X) cx fun i => encL X (0 + i)))
  (listT U8
  (Td.fr 1
  (Int.toNat (IntKind.wrap IntKind.i64 (k + (1 : Int))) - Int.toNat k)
  (bif Nat.beq (List.length F) 0 then 1 else 0)
  fun i => encL F (0 + Int.toNat k + i))))
  0 Enc.dflt))
  (0 + j))
  (need (decide ((0 : Int) ≤ i))
  (need (Nat.blt (Int.toNat i) (List.length l))
  (need
  (Nat.ble 0 (0 + Int.toNat i) &&
  Nat.blt (0 + Int.toNat i) (List.length l))
  (need
  (true &&
  Nat.ble
  (0 +
  List.length (Ld.l (List.getD l (0 + Int.toNat i) Enc.dflt)))
  (List.length (Ld.l (List.getD l (0 + Int.toNat i) Enc.dflt))))
  (need
  (allB (List.length (Ld.l (List.getD l (0 + Int.toNat i) Enc.dflt)))
  fun j =>
  encL (Ld.l (List.getD l (0 + Int.toNat i) Enc.dflt)) (0 + j))
  (br
  (!List.map
  (fun j =>
  byteF
  (encL
  (Ld.l
  (List.getD
  (fdL false
  (listT U8
  (Td.fr 1 (List.length X) cx fun i =>
  encL X (0 + i)))
  (listT U8
  (Td.fr 1
  (Int.toNat (IntKind.wrap IntKind.i64 (k + (1 : Int))) -
  Int.toNat k)
  (bif Nat.beq (List.length F) 0 then 1
  else 0)
  fun i => encL F (0 + Int.toNat k + i))))
  0 Enc.dflt))
  (0 + j) 0))
  (List.range
  (List.length
  (Ld.l
  (List.getD
  (fdL false
  (listT U8
  (Td.fr 1 (List.length X) cx fun i =>
  encL X (0 + i)))
  (listT U8
  (Td.fr 1
  (Int.toNat (IntKind.wrap IntKind.i64 (k + (1 : Int))) -
  Int.toNat k)
  (bif Nat.beq (List.length F) 0 then 1
  else 0)
  fun i => encL F (0 + Int.toNat k + i))))
  0 Enc.dflt)))) ==
  List.map
  (fun j =>
  byteF
  (encL (Ld.l (List.getD l (0 + Int.toNat i) Enc.dflt))
  (0 + j) 0))
  (List.range
  (List.length
  (Ld.l (List.getD l (0 + Int.toNat i) Enc.dflt)))))
  (N AX.ret (mkF 102 [(2, Value.bool false)])
  (mkS
  [some (AObj.row Rk.still 1 0 (List.length l) (encL l))]))
  (br
  (Int.ofNat
  (List.length
  (fdB false
  (listT U8
  (Td.fr 1 (List.length X) cx fun i =>
  encL X (0 + i)))
  (listT U8
  (Td.fr 1
  (Int.toNat (IntKind.wrap IntKind.i64 (k + (1 : Int))) -
  Int.toNat k)
  (bif Nat.beq (List.length F) 0 then 1
  else 0)
  fun i => encL F (0 + Int.toNat k + i))))) !=
  (0 : Int))
  (N AX.ret (mkF 102 [(2, Value.bool false)])
  (mkS
  [some
  (AObj.row Rk.still 1 0 (List.length l) (encL l))]))
  (br (!k == IntKind.wrap IntKind.i64 (Int.ofNat (List.length F) - (1 : Int)))
  (br
  (Int.ofNat
  (List.length
  (fdB false
  (listT U8
  (Td.fr 1 (List.length X) cx fun i =>
  encL X (0 + i)))
  (listT U8
  (Td.fr 1
  (Int.toNat (IntKind.wrap IntKind.i64 (k + (1 : Int))) -
  Int.toNat k)
  (bif Nat.beq (List.length F) 0 then 1
  else 0)
  fun i => encL F (0 + Int.toNat k + i))))) !=
  IntKind.wrap IntKind.i64 (k + (1 : Int)))
  (N AX.ret (mkF 102 [(2, Value.bool false)])
  (mkS
  [some
  (AObj.row Rk.still 1 0 (List.length l)
  (encL l))]))
  (N AX.normal
  (mkF 102
  [(0,
  Value.slice
  (some (Addr.mk 0 0 (some 0)))
  (List.length l) c),
  (3,
  Value.pointer (some (Addr.mk 1 0 none))),
  (4, Value.int IntKind.i64 i),
  (5,
  Value.slice
  (some (Addr.mk 3 0 (some 0)))
  (List.length F) 1),
  (6,
  Value.int IntKind.i64
  (IntKind.wrap IntKind.i64 (k + (1 : Int))))])
  (mkS
  [some
  (AObj.row Rk.still 1 0 (List.length l)
  (encL l)),
  some
  (AObj.cells
  [Value.slice
  (some (Addr.mk 2 0 (some 0)))
  (List.length
  (fdB false
  (listT U8
  (Td.fr 1 (List.length X) cx fun i =>
  encL X (0 + i)))
  (listT U8
  (Td.fr 1
  (Int.toNat
  (IntKind.wrap IntKind.i64 (k + (1 : Int))) -
  Int.toNat k)
  (bif Nat.beq (List.length F) 0 then
  1
  else 0)
  fun i => encL F (0 + Int.toNat k + i)))))
  (fdC false
  (listT U8
  (Td.fr 1 (List.length X) cx fun i =>
  encL X (0 + i)))
  cx
  (listT U8
  (Td.fr 1
  (Int.toNat
  (IntKind.wrap IntKind.i64 (k + (1 : Int))) -
  Int.toNat k)
  (bif Nat.beq (List.length F) 0 then
  1
  else 0)
  fun i => encL F (0 + Int.toNat k + i)))),
  Value.bool
  (fdQ false
  (listT U8
  (Td.fr 1 (List.length X) cx fun i =>
  encL X (0 + i)))
  (listT U8
  (Td.fr 1
  (Int.toNat
  (IntKind.wrap IntKind.i64 (k + (1 : Int))) -
  Int.toNat k)
  (bif Nat.beq (List.length F) 0 then
  1
  else 0)
  fun i => encL F (0 + Int.toNat k + i))))]
  true 0),
  some
  (AObj.row Rk.mine 1 0
  (List.length
  (fdB false
  (listT U8
  (Td.fr 1 (List.length X) cx fun i =>
  encL X (0 + i)))
  (listT U8
  (Td.fr 1
  (Int.toNat
  (IntKind.wrap IntKind.i64 (k + (1 : Int))) -
  Int.toNat k)
  (bif Nat.beq (List.length F) 0 then 1
  else 0)
  fun i => encL F (0 + Int.toNat k + i)))))
  (encL
  (fdB false
  (listT U8
  (Td.fr 1 (List.length X) cx fun i =>
  encL X (0 + i)))
  (listT U8
  (Td.fr 1
  (Int.toNat
  (IntKind.wrap IntKind.i64 (k + (1 : Int))) -
  Int.toNat k)
  (bif Nat.beq (List.length F) 0 then 1
  else 0)
  fun i => encL F (0 + Int.toNat k + i)))))),
  some
  (AObj.row Rk.mine 1 0 (List.length F)
  (encL F))])))
  (N AX.normal
  (mkF 102
  [(0,
  Value.slice (some (Addr.mk 0 0 (some 0)))
  (List.length l) c),
  (3,
  Value.pointer (some (Addr.mk 1 0 none))),
  (4, Value.int IntKind.i64 i),
  (5,
  Value.slice (some (Addr.mk 3 0 (some 0)))
  (List.length F) 1),
  (6,
  Value.int IntKind.i64
  (IntKind.wrap IntKind.i64 (k + (1 : Int))))])
  (mkS
  [some
  (AObj.row Rk.still 1 0 (List.length l) (encL l)),
  some
  (AObj.cells
  [Value.slice
  (some (Addr.mk 2 0 (some 0)))
  (List.length
  (fdB false
  (listT U8
  (Td.fr 1 (List.length X) cx fun i =>
  encL X (0 + i)))
  (listT U8
  (Td.fr 1
  (Int.toNat
  (IntKind.wrap IntKind.i64 (k + (1 : Int))) -
  Int.toNat k)
  (bif Nat.beq (List.length F) 0 then
  1
  else 0)
  fun i => encL F (0 + Int.toNat k + i)))))
  (fdC false
  (listT U8
  (Td.fr 1 (List.length X) cx fun i =>
  encL X (0 + i)))
  cx
  (listT U8
  (Td.fr 1
  (Int.toNat
  (IntKind.wrap IntKind.i64 (k + (1 : Int))) -
  Int.toNat k)
  (bif Nat.beq (List.length F) 0 then 1
  else 0)
  fun i => encL F (0 + Int.toNat k + i)))),
  Value.bool
  (fdQ false
  (listT U8
  (Td.fr 1 (List.length X) cx fun i =>
  encL X (0 + i)))
  (listT U8
  (Td.fr 1
  (Int.toNat
  (IntKind.wrap IntKind.i64 (k + (1 : Int))) -
  Int.toNat k)
  (bif Nat.beq (List.length F) 0 then 1
  else 0)
  fun i => encL F (0 + Int.toNat k + i))))]
  true 0),
  some
  (AObj.row Rk.mine 1 0
  (List.length
  (fdB false
  (listT U8
  (Td.fr 1 (List.length X) cx fun i =>
  encL X (0 + i)))
  (listT U8
  (Td.fr 1
  (Int.toNat (IntKind.wrap IntKind.i64 (k + (1 : Int))) -
  Int.toNat k)
  (bif Nat.beq (List.length F) 0 then 1
  else 0)
  fun i => encL F (0 + Int.toNat k + i)))))
  (encL
  (fdB false
  (listT U8
  (Td.fr 1 (List.length X) cx fun i =>
  encL X (0 + i)))
  (listT U8
  (Td.fr 1
  (Int.toNat (IntKind.wrap IntKind.i64 (k + (1 : Int))) -
  Int.toNat k)
  (bif Nat.beq (List.length F) 0 then 1
  else 0)
  fun i => encL F (0 + Int.toNat k + i)))))),
  some
  (AObj.row Rk.mine 1 0 (List.length F)
  (encL F))]))))))))))))))
  (br (!k == IntKind.wrap IntKind.i64 (Int.ofNat (List.length F) - (1 : Int)))
  (br
  (Int.ofNat
  (List.length
  (fdB false
  (listT U8 (Td.fr 1 (List.length X) cx fun i => encL X (0 + i)))
  (listT U8
  (Td.fr 1
  (Int.toNat (IntKind.wrap IntKind.i64 (k + (1 : Int))) - Int.toNat k)
  (bif Nat.beq (List.length F) 0 then 1 else 0) fun i =>
  encL F (0 + Int.toNat k + i))))) !=
  IntKind.wrap IntKind.i64 (k + (1 : Int)))
  (N AX.ret (mkF 102 [(2, Value.bool false)])
  (mkS [some (AObj.row Rk.still 1 0 (List.length l) (encL l))]))
  (N AX.normal
  (mkF 102
  [(0,
  Value.slice (some (Addr.mk 0 0 (some 0))) (List.length l) c),
  (3, Value.pointer (some (Addr.mk 1 0 none))),
  (4, Value.int IntKind.i64 i),
  (5,
  Value.slice (some (Addr.mk 3 0 (some 0))) (List.length F)
  1),
  (6, Value.int IntKind.i64 (IntKind.wrap IntKind.i64 (k + (1 : Int))))])
  (mkS
  [some (AObj.row Rk.still 1 0 (List.length l) (encL l)),
  some
  (AObj.cells
  [Value.slice (some (Addr.mk 2 0 (some 0)))
  (List.length
  (fdB false
  (listT U8
  (Td.fr 1 (List.length X) cx fun i => encL X (0 + i)))
  (listT U8
  (Td.fr 1
  (Int.toNat (IntKind.wrap IntKind.i64 (k + (1 : Int))) - Int.toNat k)
  (bif Nat.beq (List.length F) 0 then 1 else 0)
  fun i => encL F (0 + Int.toNat k + i)))))
  (fdC false
  (listT U8
  (Td.fr 1 (List.length X) cx fun i => encL X (0 + i)))
  cx
  (listT U8
  (Td.fr 1
  (Int.toNat (IntKind.wrap IntKind.i64 (k + (1 : Int))) - Int.toNat k)
  (bif Nat.beq (List.length F) 0 then 1 else 0)
  fun i => encL F (0 + Int.toNat k + i)))),
  Value.bool
  (fdQ false
  (listT U8
  (Td.fr 1 (List.length X) cx fun i => encL X (0 + i)))
  (listT U8
  (Td.fr 1
  (Int.toNat (IntKind.wrap IntKind.i64 (k + (1 : Int))) - Int.toNat k)
  (bif Nat.beq (List.length F) 0 then 1 else 0)
  fun i => encL F (0 + Int.toNat k + i))))]
  true 0),
  some
  (AObj.row Rk.mine 1 0
  (List.length
  (fdB false
  (listT U8 (Td.fr 1 (List.length X) cx fun i => encL X (0 + i)))
  (listT U8
  (Td.fr 1
  (Int.toNat (IntKind.wrap IntKind.i64 (k + (1 : Int))) - Int.toNat k)
  (bif Nat.beq (List.length F) 0 then 1 else 0)
  fun i => encL F (0 + Int.toNat k + i)))))
  (encL
  (fdB false
  (listT U8 (Td.fr 1 (List.length X) cx fun i => encL X (0 + i)))
  (listT U8
  (Td.fr 1
  (Int.toNat (IntKind.wrap IntKind.i64 (k + (1 : Int))) - Int.toNat k)
  (bif Nat.beq (List.length F) 0 then 1 else 0)
  fun i => encL F (0 + Int.toNat k + i)))))),
  some (AObj.row Rk.mine 1 0 (List.length F) (encL F))])))
  (N AX.normal
  (mkF 102
  [(0,
  Value.slice (some (Addr.mk 0 0 (some 0))) (List.length l) c),
  (3, Value.pointer (some (Addr.mk 1 0 none))),
  (4, Value.int IntKind.i64 i),
  (5,
  Value.slice (some (Addr.mk 3 0 (some 0))) (List.length F)
  1),
  (6, Value.int IntKind.i64 (IntKind.wrap IntKind.i64 (k + (1 : Int))))])
  (mkS
  [some (AObj.row Rk.still 1 0 (List.length l) (encL l)),
  some
  (AObj.cells
  [Value.slice (some (Addr.mk 2 0 (some 0)))
  (List.length
  (fdB false
  (listT U8
  (Td.fr 1 (List.length X) cx fun i => encL X (0 + i)))
  (listT U8
  (Td.fr 1
  (Int.toNat (IntKind.wrap IntKind.i64 (k + (1 : Int))) - Int.toNat k)
  (bif Nat.beq (List.length F) 0 then 1 else 0)
  fun i => encL F (0 + Int.toNat k + i)))))
  (fdC false
  (listT U8 (Td.fr 1 (List.length X) cx fun i => encL X (0 + i)))
  cx
  (listT U8
  (Td.fr 1
  (Int.toNat (IntKind.wrap IntKind.i64 (k + (1 : Int))) - Int.toNat k)
  (bif Nat.beq (List.length F) 0 then 1 else 0)
  fun i => encL F (0 + Int.toNat k + i)))),
  Value.bool
  (fdQ false
  (listT U8 (Td.fr 1 (List.length X) cx fun i => encL X (0 + i)))
  (listT U8
  (Td.fr 1
  (Int.toNat (IntKind.wrap IntKind.i64 (k + (1 : Int))) - Int.toNat k)
  (bif Nat.beq (List.length F) 0 then 1 else 0)
  fun i => encL F (0 + Int.toNat k + i))))]
  true 0),
  some
  (AObj.row Rk.mine 1 0
  (List.length
  (fdB false
  (listT U8 (Td.fr 1 (List.length X) cx fun i => encL X (0 + i)))
  (listT U8
  (Td.fr 1
  (Int.toNat (IntKind.wrap IntKind.i64 (k + (1 : Int))) - Int.toNat k)
  (bif Nat.beq (List.length F) 0 then 1 else 0) fun i =>
  encL F (0 + Int.toNat k + i)))))
  (encL
  (fdB false
  (listT U8 (Td.fr 1 (List.length X) cx fun i => encL X (0 + i)))
  (listT U8
  (Td.fr 1
  (Int.toNat (IntKind.wrap IntKind.i64 (k + (1 : Int))) - Int.toNat k)
  (bif Nat.beq (List.length F) 0 then 1 else 0) fun i =>
  encL F (0 + Int.toNat k + i)))))),
  some (AObj.row Rk.mine 1 0 (List.length F) (encL F))])))))))))))))
  (N (AX.exit 2)
  (mkF 102
  [(0, Value.slice (some (Addr.mk 0 0 (some 0))) (List.length l) c),
  (3, Value.pointer (some (Addr.mk 1 0 none))), (4, Value.int IntKind.i64 i)])
  (mkS
  [some (AObj.row Rk.still 1 0 (List.length l) (encL l)),
  some
  (AObj.cells
  [Value.slice (some (Addr.mk 2 0 (some 0))) (List.length X) cx, Value.bool false]
  true 0),
  some (AObj.row Rk.mine 1 0 (List.length X) (encL X))]))) := by kernel_rfl
end Go.Proofs.Ytdmagcdkklacdaa.Ev
