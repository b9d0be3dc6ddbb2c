/-
  What has to hold: printed by the evaluator.
-/
import Derived.Test.YtdmagcdkklacdaaFdZ
set_option linter.unusedVariables false
set_option maxRecDepth 1000000
namespace Go.Proofs.Ytdmagcdkklacdaa.Ev
open Go Go.Proofs
def slA1 : List Nat := [0, 1, 2, 3, 9]
def slA2 : List Nat := [0, 10, 11, 12, 13]
def lvsA (b : Nat) : List Nat := cond (Nat.beq b 0) slA1 slA2
def lvA1 : AX → List Nat := fun x => match x with
  | .ret => [8]
  | _ => slA1
def lvA2 : AX → List Nat := fun x => match x with
  | .ret => [8]
  | _ => slA2
def FA1 (l m : List Ld) (c d : Nat) (u v i : Int) : AFr := mkF 117 [(0, .slice (some ⟨0, 0, some 0⟩) l.length c), (1, .slice (some ⟨1, 0, some 0⟩) m.length d), (2, .int .u16 u), (3, .int .u8 v), (9, .int .i64 i)]
def SA1 (l m : List Ld) : ASt := mkS [some (rowO .still l), some (rowO .still m)]
def FA1r (q : Bool) : AFr := mkF 117 [(8, .bool q)]
def FA2 (l : List Ld) (c k n cb : Nat) (i : Int) : AFr := mkF 117 [(0, .slice (some ⟨0, 0, some 0⟩) l.length c), (10, .slice (some ⟨2, 0, some k⟩) n cb), (11, .pointer (some ⟨3, 0, none⟩)), (12, .pointer (some ⟨5, 0, none⟩)), (13, .int .i64 i)]
def SA2 (l m : List Ld) (B X : List U8) (cx cy : Nat) (q : Bool) : ASt := mkS [some (rowO .still l), some (rowO .still m), some (rowO .mine B), some (.cells [.slice (some ⟨4, 0, some 0⟩) X.length cx, .bool q] true 0), some (rowO .mine X), some (.cells [.slice (some ⟨6, 0, some 0⟩) X.length cy, .bool q] true 0), some (rowO .mine X)]
def exFA (l m : List Ld) (c d : Nat) (u v : Int) : Nat → Kt → Prop := fun x K => cond (Nat.beq x 0) ((m.all fit30 = true → K (.exit x) (FA1 l m c d u v m.length) (SA1 l m)) ∧ K .ret (FA1r true) (SA1 l m)) ((∀ (k n cb : Nat) (B X : List U8) (cx cy : Nat) (q : Bool), K (.exit x) (FA2 l c k n cb (l.length + 1)) (SA2 l m B X cx cy q)) ∧ K .ret (FA1r true) (SA1 l m))
def shpA1 (l m : List Ld) (c d : Nat) (u v : Int) (i' : Int) : AFr × ASt := (FA1 l m c d u v i', SA1 l m)
def shpA1r (l m : List Ld) (q' : Bool) : AFr × ASt := (FA1r q', SA1 l m)
def shpA2 (l m : List Ld) (B X : List U8) (c k n cb cx cy : Nat) (q : Bool) (i' : Int) : AFr × ASt := (FA2 l c k n cb i', SA2 l m B X cx cy q)
theorem vc_fl (l m : List Ld) (c d : Nat) (u v : Int) (β : Bs) : lawE Try.prog toldG 100 20 β (fun _ => 0) (cnOf 2 lvsA) (exFA l m c d u v) 3 [.slice (some ⟨0, 0, some 0⟩) l.length c, .slice (some ⟨1, 0, some 0⟩) m.length d, .int .u16 u, .int .u8 v] (mkS [some (rowO .still l), some (rowO .still m)]) trueE =
(  br (decide (Int.ofNat (List.length l) > (8 : Int))) True
  (br (decide (Int.ofNat (List.length m) > (5 : Int))) True
  (LoopJ Try.prog β (exFA l m c d u v) 0 (loopOf Try.prog 3 0) (FA1 l m c d u v (0 : Int))
  (SA1 l m) ∧
  (List.all m fit30 = true →
  need (true && Nat.ble (0 + List.length m) (List.length m))
  (need
  (ok1 Ld (fun l x => List.all l (okA Ld) && Nat.ble (List.length l) 1000)
  [Ta.cell (Td.fr 1 (List.length m) d fun i => encL m (0 + i))])
  (br
  (decide
  (Int.ofNat
  (List.length
  (loadsN (listT Ld (Td.fr 1 (List.length m) d fun i => encL m (0 + i)))
  (List.length
  (listT Ld (Td.fr 1 (List.length m) d fun i => encL m (0 + i)))))) >
  (0 : Int)))
  (need
  (true &&
  !decide
  (Int.ofNat
  (List.length
  (loadsN (listT Ld (Td.fr 1 (List.length m) d fun i => encL m (0 + i)))
  (List.length
  (listT Ld (Td.fr 1 (List.length m) d fun i => encL m (0 + i)))))) =
  (0 : Int)))
  (need
  (decide
  ((0 : Int) ≤
  Int.tmod (IntKind.wrap IntKind.i64 u)
  (Int.ofNat
  (List.length
  (loadsN (listT Ld (Td.fr 1 (List.length m) d fun i => encL m (0 + i)))
  (List.length
  (listT Ld (Td.fr 1 (List.length m) d fun i => encL m (0 + i)))))))))
  (need
  (Nat.blt
  (Int.toNat
  (Int.tmod (IntKind.wrap IntKind.i64 u)
  (Int.ofNat
  (List.length
  (loadsN (listT Ld (Td.fr 1 (List.length m) d fun i => encL m (0 + i)))
  (List.length
  (listT Ld (Td.fr 1 (List.length m) d fun i => encL m (0 + i)))))))))
  (List.length
  (loadsN (listT Ld (Td.fr 1 (List.length m) d fun i => encL m (0 + i)))
  (List.length
  (listT Ld (Td.fr 1 (List.length m) d fun i => encL m (0 + i)))))))
  (need
  (Nat.ble 0
  (0 +
  Int.toNat
  (Int.tmod (IntKind.wrap IntKind.i64 u)
  (Int.ofNat
  (List.length
  (loadsN
  (listT Ld (Td.fr 1 (List.length m) d fun i => encL m (0 + i)))
  (List.length
  (listT Ld
  (Td.fr 1 (List.length m) d fun i =>
  encL m (0 + i))))))))) &&
  Nat.blt
  (0 +
  Int.toNat
  (Int.tmod (IntKind.wrap IntKind.i64 u)
  (Int.ofNat
  (List.length
  (loadsN
  (listT Ld (Td.fr 1 (List.length m) d fun i => encL m (0 + i)))
  (List.length
  (listT Ld
  (Td.fr 1 (List.length m) d fun i => encL m (0 + i)))))))))
  (List.length
  (loadsN (listT Ld (Td.fr 1 (List.length m) d fun i => encL m (0 + i)))
  (List.length
  (listT Ld (Td.fr 1 (List.length m) d fun i => encL m (0 + i)))))))
  (need
  (decide
  ((0 : Int) ≤
  Int.tmod (IntKind.wrap IntKind.i64 u)
  (Int.ofNat
  (List.length
  (loadsN
  (listT Ld (Td.fr 1 (List.length m) d fun i => encL m (0 + i)))
  (List.length
  (listT Ld
  (Td.fr 1 (List.length m) d fun i => encL m (0 + i)))))))))
  (need
  (Nat.blt
  (Int.toNat
  (Int.tmod (IntKind.wrap IntKind.i64 u)
  (Int.ofNat
  (List.length
  (loadsN
  (listT Ld (Td.fr 1 (List.length m) d fun i => encL m (0 + i)))
  (List.length
  (listT Ld
  (Td.fr 1 (List.length m) d fun i => encL m (0 + i)))))))))
  (List.length
  (loadsN (listT Ld (Td.fr 1 (List.length m) d fun i => encL m (0 + i)))
  (List.length
  (listT Ld (Td.fr 1 (List.length m) d fun i => encL m (0 + i)))))))
  (need
  (Nat.blt
  (0 +
  Int.toNat
  (Int.tmod (IntKind.wrap IntKind.i64 u)
  (Int.ofNat
  (List.length
  (loadsN
  (listT Ld
  (Td.fr 1 (List.length m) d fun i => encL m (0 + i)))
  (List.length
  (listT Ld
  (Td.fr 1 (List.length m) d fun i =>
  encL m (0 + i)))))))))
  (List.length
  (loadsN (listT Ld (Td.fr 1 (List.length m) d fun i => encL m (0 + i)))
  (List.length
  (listT Ld (Td.fr 1 (List.length m) d fun i => encL m (0 + i)))))))
  (LoopJ Try.prog β (exFA l m c d u v) 2 (loopOf Try.prog 3 2)
  (mkF 117
  [(0,
  Value.slice (some (Addr.mk 0 0 (some 0)))
  (List.length l) c),
  (10,
  Value.slice (some (Addr.mk 2 0 (some 0)))
  (List.length
  (loadsN
  (listT Ld
  (Td.fr 1 (List.length m) d fun i => encL m (0 + i)))
  (List.length
  (listT Ld
  (Td.fr 1 (List.length m) d fun i =>
  encL m (0 + i))))))
  1),
  (11, Value.pointer (some (Addr.mk 3 0 none))),
  (12, Value.pointer (some (Addr.mk 4 0 none))),
  (13, Value.int IntKind.i64 (0 : Int))])
  (mkS
  [some (AObj.row Rk.still 1 0 (List.length l) (encL l)),
  some (AObj.row Rk.still 1 0 (List.length m) (encL m)),
  some
  (AObj.row Rk.mine 1 0
  (List.length
  (loadsN
  (listT Ld
  (Td.fr 1 (List.length m) d fun i => encL m (0 + i)))
  (List.length
  (listT Ld
  (Td.fr 1 (List.length m) d fun i =>
  encL m (0 + i))))))
  (putT
  (0 +
  Int.toNat
  (Int.tmod (IntKind.wrap IntKind.i64 u)
  (Int.ofNat
  (List.length
  (loadsN
  (listT Ld
  (Td.fr 1 (List.length m) d fun i =>
  encL m (0 + i)))
  (List.length
  (listT Ld
  (Td.fr 1 (List.length m) d fun i =>
  encL m (0 + i)))))))))
  0
  [Td.sc
  (Value.int IntKind.u8
  (IntKind.wrap IntKind.u8
  (Int.ofNat
  (BitVec.toNat
  (BitVec.ofInt 8
  (U8.v
  (List.getD
  (loadsN
  (listT Ld
  (Td.fr 1 (List.length m) d fun i =>
  encL m (0 + i)))
  (List.length
  (listT Ld
  (Td.fr 1 (List.length m) d fun i =>
  encL m (0 + i)))))
  (0 +
  Int.toNat
  (Int.tmod (IntKind.wrap IntKind.i64 u)
  (Int.ofNat
  (List.length
  (loadsN
  (listT Ld
  (Td.fr 1 (List.length m) d
  fun i => encL m (0 + i)))
  (List.length
  (listT Ld
  (Td.fr 1 (List.length m) d
  fun i =>
  encL m (0 + i)))))))))
  Enc.dflt)) ^^^
  BitVec.ofInt 8 v)))))]
  (encL
  (loadsN
  (listT Ld
  (Td.fr 1 (List.length m) d fun i => encL m (0 + i)))
  (List.length
  (listT Ld
  (Td.fr 1 (List.length m) d fun i =>
  encL m (0 + i)))))))),
  some
  (AObj.cells [Value.slice none 0 0, Value.bool false] true
  0),
  some
  (AObj.cells [Value.slice none 0 0, Value.bool false] true
  0)]) ∧
  (∀ (k n cb : Nat) (B X : List U8) (cx cy : Nat) (q : Bool), True) ∧ True))))))))
  (LoopJ Try.prog β (exFA l m c d u v) 2 (loopOf Try.prog 3 2)
  (mkF 117
  [(0, Value.slice (some (Addr.mk 0 0 (some 0))) (List.length l) c),
  (10,
  Value.slice (some (Addr.mk 2 0 (some 0)))
  (List.length
  (loadsN (listT Ld (Td.fr 1 (List.length m) d fun i => encL m (0 + i)))
  (List.length
  (listT Ld (Td.fr 1 (List.length m) d fun i => encL m (0 + i))))))
  1),
  (11, Value.pointer (some (Addr.mk 3 0 none))),
  (12, Value.pointer (some (Addr.mk 4 0 none))),
  (13, Value.int IntKind.i64 (0 : Int))])
  (mkS
  [some (AObj.row Rk.still 1 0 (List.length l) (encL l)),
  some (AObj.row Rk.still 1 0 (List.length m) (encL m)),
  some
  (AObj.row Rk.mine 1 0
  (List.length
  (loadsN (listT Ld (Td.fr 1 (List.length m) d fun i => encL m (0 + i)))
  (List.length
  (listT Ld (Td.fr 1 (List.length m) d fun i => encL m (0 + i))))))
  (encL
  (loadsN (listT Ld (Td.fr 1 (List.length m) d fun i => encL m (0 + i)))
  (List.length
  (listT Ld (Td.fr 1 (List.length m) d fun i => encL m (0 + i))))))),
  some (AObj.cells [Value.slice none 0 0, Value.bool false] true 0),
  some (AObj.cells [Value.slice none 0 0, Value.bool false] true 0)]) ∧
  (∀ (k n cb : Nat) (B X : List U8) (cx cy : Nat) (q : Bool), True) ∧ True)))) ∧
  True))) := by kernel_rfl
theorem vc_fl1_r (l m : List Ld) (c d : Nat) (u v i : Int) (β : Bs) (N : Kt) (ex : Nat → Kt → Prop) : roundJ Try.prog toldG 100 20 β (fun _ => 0) (cnOf 2 lvsA) ex 3 0 2 lvA1 (FA1 l m c d u v i) (SA1 l m) N =
(  br (decide (i < Int.ofNat (List.length m)))
  (need (decide ((0 : Int) ≤ i))
  (need (Nat.blt (Int.toNat i) (List.length m))
  (need (Nat.ble 0 (0 + Int.toNat i) && Nat.blt (0 + Int.toNat i) (List.length m))
  (br (decide (Int.ofNat (List.length (Ld.l (List.getD m (0 + Int.toNat i) Enc.dflt))) > (30 : Int)))
  (onP N AX.ret (shpA1r l m true))
  (onP N AX.normal (shpA1 l m c d u v (IntKind.wrap IntKind.i64 (i + (1 : Int)))))))))
  (onP N (AX.exit 0) (shpA1 l m c d u v i))) := by kernel_rfl
theorem vc_fl2_r (l m : List Ld) (B X : List U8) (c k n cb cx cy : Nat) (q : Bool) (i : Int) (β : Bs) (N : Kt) (ex : Nat → Kt → Prop) : roundJ Try.prog toldG 100 20 β (fun _ => 0) (cnOf 2 lvsA) ex 3 2 2 lvA2 (FA2 l c k n cb i) (SA2 l m B X cx cy q) N =
(  br (decide (i < IntKind.wrap IntKind.i64 (Int.ofNat (List.length l) + (1 : Int))))
  (br (decide (i < Int.ofNat (List.length l)))
  (need (decide ((0 : Int) ≤ i))
  (need (Nat.blt (Int.toNat i) (List.length l))
  (need (Nat.ble 0 (0 + Int.toNat i) && Nat.blt (0 + Int.toNat i) (List.length l))
  (br (decide (Int.ofNat (List.length (Ld.l (List.getD l (0 + Int.toNat i) Enc.dflt))) > (60 : Int)))
  (onP N AX.ret (shpA1r l m true))
  (br (Int.tmod i (2 : Int) == (0 : Int))
  (need
  (decide
  ((0 : Int) ≤
  if
  Int.ofNat n <
  Int.ofNat (List.length (Ld.l (List.getD l (0 + Int.toNat i) Enc.dflt))) then
  Int.ofNat n
  else Int.ofNat (List.length (Ld.l (List.getD l (0 + Int.toNat i) Enc.dflt)))))
  (need
  (Nat.ble
  (Int.toNat
  (if
  Int.ofNat n <
  Int.ofNat (List.length (Ld.l (List.getD l (0 + Int.toNat i) Enc.dflt))) then
  Int.ofNat n
  else Int.ofNat (List.length (Ld.l (List.getD l (0 + Int.toNat i) Enc.dflt)))))
  n)
  (need
  (decide
  ((0 : Int) ≤
  if
  Int.ofNat n <
  Int.ofNat (List.length (Ld.l (List.getD l (0 + Int.toNat i) Enc.dflt))) then
  Int.ofNat n
  else Int.ofNat (List.length (Ld.l (List.getD l (0 + Int.toNat i) Enc.dflt)))))
  (need
  (Nat.ble
  (Int.toNat
  (if
  Int.ofNat n <
  Int.ofNat (List.length (Ld.l (List.getD l (0 + Int.toNat i) Enc.dflt))) then
  Int.ofNat n
  else Int.ofNat (List.length (Ld.l (List.getD l (0 + Int.toNat i) Enc.dflt)))))
  n)
  (need (true && Nat.ble (0 + List.length X) (List.length X))
  (need
  (Nat.ble 0 (k + 0) &&
  Nat.ble
  (k + 0 +
  (Int.toNat
  (if
  Int.ofNat n <
  Int.ofNat
  (List.length (Ld.l (List.getD l (0 + Int.toNat i) Enc.dflt))) then
  Int.ofNat n
  else
  Int.ofNat (List.length (Ld.l (List.getD l (0 + Int.toNat i) Enc.dflt)))) -
  0))
  (List.length B))
  (need
  (okFd
  [Ta.agg
  [Td.fr 1 (List.length X) cx fun i => encL X (0 + i),
  Td.sc (Value.bool q)],
  Ta.cell
  (Td.fr 1
  (Int.toNat
  (if
  Int.ofNat n <
  Int.ofNat
  (List.length
  (Ld.l (List.getD l (0 + Int.toNat i) Enc.dflt))) then
  Int.ofNat n
  else
  Int.ofNat
  (List.length (Ld.l (List.getD l (0 + Int.toNat i) Enc.dflt)))) -
  0)
  (bif Nat.beq n 0 then cb else 0) fun i =>
  encL B (k + 0 + i))])
  (need (true && Nat.ble (0 + List.length X) (List.length X))
  (need
  (Nat.ble 0 (k + 0) &&
  Nat.ble
  (k + 0 +
  (Int.toNat
  (if
  Int.ofNat n <
  Int.ofNat
  (List.length
  (Ld.l (List.getD l (0 + Int.toNat i) Enc.dflt))) then
  Int.ofNat n
  else
  Int.ofNat
  (List.length (Ld.l (List.getD l (0 + Int.toNat i) Enc.dflt)))) -
  0))
  (List.length B))
  (need
  (okFr
  [Ta.agg
  [Td.fr 1 (List.length X) cy fun i => encL X (0 + i),
  Td.sc (Value.bool q)],
  Ta.cell
  (Td.fr 1
  (Int.toNat
  (if
  Int.ofNat n <
  Int.ofNat
  (List.length
  (Ld.l (List.getD l (0 + Int.toNat i) Enc.dflt))) then
  Int.ofNat n
  else
  Int.ofNat
  (List.length
  (Ld.l (List.getD l (0 + Int.toNat i) Enc.dflt)))) -
  0)
  (bif Nat.beq n 0 then cb else 0) fun i =>
  encL B (k + 0 + i))])
  (br
  (fdQ (boolD (Td.sc (Value.bool q)))
  (listT U8 (Td.fr 1 (List.length X) cx fun i => encL X (0 + i)))
  (listT U8
  (Td.fr 1
  (Int.toNat
  (if
  Int.ofNat n <
  Int.ofNat
  (List.length
  (Ld.l (List.getD l (0 + Int.toNat i) Enc.dflt))) then
  Int.ofNat n
  else
  Int.ofNat
  (List.length
  (Ld.l (List.getD l (0 + Int.toNat i) Enc.dflt)))) -
  0)
  (bif Nat.beq n 0 then cb else 0) fun i =>
  encL B (k + 0 + i))) ==
  fdQ (boolD (Td.sc (Value.bool q)))
  (listT U8 (Td.fr 1 (List.length X) cy fun i => encL X (0 + i)))
  (listT U8
  (Td.fr 1
  (Int.toNat
  (if
  Int.ofNat n <
  Int.ofNat
  (List.length
  (Ld.l (List.getD l (0 + Int.toNat i) Enc.dflt))) then
  Int.ofNat n
  else
  Int.ofNat
  (List.length
  (Ld.l (List.getD l (0 + Int.toNat i) Enc.dflt)))) -
  0)
  (bif Nat.beq n 0 then cb else 0) fun i =>
  encL B (k + 0 + i))))
  (need
  (true &&
  Nat.ble
  (0 +
  List.length
  (fdB (boolD (Td.sc (Value.bool q)))
  (listT U8
  (Td.fr 1 (List.length X) cx fun i => encL X (0 + i)))
  (listT U8
  (Td.fr 1
  (Int.toNat
  (if
  Int.ofNat n <
  Int.ofNat
  (List.length
  (Ld.l
  (List.getD l (0 + Int.toNat i)
  Enc.dflt))) then
  Int.ofNat n
  else
  Int.ofNat
  (List.length
  (Ld.l
  (List.getD l (0 + Int.toNat i) Enc.dflt)))) -
  0)
  (bif Nat.beq n 0 then cb else 0) fun i =>
  encL B (k + 0 + i)))))
  (List.length
  (fdB (boolD (Td.sc (Value.bool q)))
  (listT U8
  (Td.fr 1 (List.length X) cx fun i => encL X (0 + i)))
  (listT U8
  (Td.fr 1
  (Int.toNat
  (if
  Int.ofNat n <
  Int.ofNat
  (List.length
  (Ld.l
  (List.getD l (0 + Int.toNat i)
  Enc.dflt))) then
  Int.ofNat n
  else
  Int.ofNat
  (List.length
  (Ld.l (List.getD l (0 + Int.toNat i) Enc.dflt)))) -
  0)
  (bif Nat.beq n 0 then cb else 0) fun i =>
  encL B (k + 0 + i))))))
  (need
  (allB
  (List.length
  (fdB (boolD (Td.sc (Value.bool q)))
  (listT U8
  (Td.fr 1 (List.length X) cx fun i => encL X (0 + i)))
  (listT U8
  (Td.fr 1
  (Int.toNat
  (if
  Int.ofNat n <
  Int.ofNat
  (List.length
  (Ld.l
  (List.getD l (0 + Int.toNat i)
  Enc.dflt))) then
  Int.ofNat n
  else
  Int.ofNat
  (List.length
  (Ld.l (List.getD l (0 + Int.toNat i) Enc.dflt)))) -
  0)
  (bif Nat.beq n 0 then cb else 0) fun i =>
  encL B (k + 0 + i)))))
  fun j =>
  encL
  (fdB (boolD (Td.sc (Value.bool q)))
  (listT U8
  (Td.fr 1 (List.length X) cx fun i => encL X (0 + i)))
  (listT U8
  (Td.fr 1
  (Int.toNat
  (if
  Int.ofNat n <
  Int.ofNat
  (List.length
  (Ld.l
  (List.getD l (0 + Int.toNat i)
  Enc.dflt))) then
  Int.ofNat n
  else
  Int.ofNat
  (List.length
  (Ld.l (List.getD l (0 + Int.toNat i) Enc.dflt)))) -
  0)
  (bif Nat.beq n 0 then cb else 0) fun i =>
  encL B (k + 0 + i))))
  (0 + j))
  (need
  (true &&
  Nat.ble
  (0 +
  List.length
  (fdB (boolD (Td.sc (Value.bool q)))
  (listT U8
  (Td.fr 1 (List.length X) cy fun i =>
  encL X (0 + i)))
  (listT U8
  (Td.fr 1
  (Int.toNat
  (if
  Int.ofNat n <
  Int.ofNat
  (List.length
  (Ld.l
  (List.getD l (0 + Int.toNat i)
  Enc.dflt))) then
  Int.ofNat n
  else
  Int.ofNat
  (List.length
  (Ld.l
  (List.getD l (0 + Int.toNat i)
  Enc.dflt)))) -
  0)
  (bif Nat.beq n 0 then cb else 0) fun i =>
  encL B (k + 0 + i)))))
  (List.length
  (fdB (boolD (Td.sc (Value.bool q)))
  (listT U8
  (Td.fr 1 (List.length X) cy fun i =>
  encL X (0 + i)))
  (listT U8
  (Td.fr 1
  (Int.toNat
  (if
  Int.ofNat n <
  Int.ofNat
  (List.length
  (Ld.l
  (List.getD l (0 + Int.toNat i)
  Enc.dflt))) then
  Int.ofNat n
  else
  Int.ofNat
  (List.length
  (Ld.l
  (List.getD l (0 + Int.toNat i) Enc.dflt)))) -
  0)
  (bif Nat.beq n 0 then cb else 0) fun i =>
  encL B (k + 0 + i))))))
  (need
  (allB
  (List.length
  (fdB (boolD (Td.sc (Value.bool q)))
  (listT U8
  (Td.fr 1 (List.length X) cy fun i =>
  encL X (0 + i)))
  (listT U8
  (Td.fr 1
  (Int.toNat
  (if
  Int.ofNat n <
  Int.ofNat
  (List.length
  (Ld.l
  (List.getD l (0 + Int.toNat i)
  Enc.dflt))) then
  Int.ofNat n
  else
  Int.ofNat
  (List.length
  (Ld.l
  (List.getD l (0 + Int.toNat i) Enc.dflt)))) -
  0)
  (bif Nat.beq n 0 then cb else 0) fun i =>
  encL B (k + 0 + i)))))
  fun j =>
  encL
  (fdB (boolD (Td.sc (Value.bool q)))
  (listT U8
  (Td.fr 1 (List.length X) cy fun i =>
  encL X (0 + i)))
  (listT U8
  (Td.fr 1
  (Int.toNat
  (if
  Int.ofNat n <
  Int.ofNat
  (List.length
  (Ld.l
  (List.getD l (0 + Int.toNat i)
  Enc.dflt))) then
  Int.ofNat n
  else
  Int.ofNat
  (List.length
  (Ld.l
  (List.getD l (0 + Int.toNat i) Enc.dflt)))) -
  0)
  (bif Nat.beq n 0 then cb else 0) fun i =>
  encL B (k + 0 + i))))
  (0 + j))
  (br
  (!List.map
  (fun j =>
  byteF
  (encL
  (fdB (boolD (Td.sc (Value.bool q)))
  (listT U8
  (Td.fr 1 (List.length X) cx fun i =>
  encL X (0 + i)))
  (listT U8
  (Td.fr 1
  (Int.toNat
  (if
  Int.ofNat n <
  Int.ofNat
  (List.length
  (Ld.l
  (List.getD l (0 + Int.toNat i)
  Enc.dflt))) then
  Int.ofNat n
  else
  Int.ofNat
  (List.length
  (Ld.l
  (List.getD l (0 + Int.toNat i)
  Enc.dflt)))) -
  0)
  (bif Nat.beq n 0 then cb else 0)
  fun i => encL B (k + 0 + i))))
  (0 + j) 0))
  (List.range
  (List.length
  (fdB (boolD (Td.sc (Value.bool q)))
  (listT U8
  (Td.fr 1 (List.length X) cx fun i =>
  encL X (0 + i)))
  (listT U8
  (Td.fr 1
  (Int.toNat
  (if
  Int.ofNat n <
  Int.ofNat
  (List.length
  (Ld.l
  (List.getD l (0 + Int.toNat i)
  Enc.dflt))) then
  Int.ofNat n
  else
  Int.ofNat
  (List.length
  (Ld.l
  (List.getD l (0 + Int.toNat i)
  Enc.dflt)))) -
  0)
  (bif Nat.beq n 0 then cb else 0) fun i =>
  encL B (k + 0 + i)))))) ==
  List.map
  (fun j =>
  byteF
  (encL
  (fdB (boolD (Td.sc (Value.bool q)))
  (listT U8
  (Td.fr 1 (List.length X) cy fun i =>
  encL X (0 + i)))
  (listT U8
  (Td.fr 1
  (Int.toNat
  (if
  Int.ofNat n <
  Int.ofNat
  (List.length
  (Ld.l
  (List.getD l (0 + Int.toNat i)
  Enc.dflt))) then
  Int.ofNat n
  else
  Int.ofNat
  (List.length
  (Ld.l
  (List.getD l (0 + Int.toNat i)
  Enc.dflt)))) -
  0)
  (bif Nat.beq n 0 then cb else 0)
  fun i => encL B (k + 0 + i))))
  (0 + j) 0))
  (List.range
  (List.length
  (fdB (boolD (Td.sc (Value.bool q)))
  (listT U8
  (Td.fr 1 (List.length X) cy fun i =>
  encL X (0 + i)))
  (listT U8
  (Td.fr 1
  (Int.toNat
  (if
  Int.ofNat n <
  Int.ofNat
  (List.length
  (Ld.l
  (List.getD l (0 + Int.toNat i)
  Enc.dflt))) then
  Int.ofNat n
  else
  Int.ofNat
  (List.length
  (Ld.l
  (List.getD l (0 + Int.toNat i)
  Enc.dflt)))) -
  0)
  (bif Nat.beq n 0 then cb else 0) fun i =>
  encL B (k + 0 + i)))))))
  (onP N AX.ret (shpA1r l m false))
  (need
  (true &&
  Nat.ble
  (0 +
  List.length
  (fdL (boolD (Td.sc (Value.bool q)))
  (listT U8
  (Td.fr 1 (List.length X) cx fun i =>
  encL X (0 + i)))
  (listT U8
  (Td.fr 1
  (Int.toNat
  (if
  Int.ofNat n <
  Int.ofNat
  (List.length
  (Ld.l
  (List.getD l (0 + Int.toNat i)
  Enc.dflt))) then
  Int.ofNat n
  else
  Int.ofNat
  (List.length
  (Ld.l
  (List.getD l (0 + Int.toNat i)
  Enc.dflt)))) -
  0)
  (bif Nat.beq n 0 then cb else 0) fun i =>
  encL B (k + 0 + i)))))
  (List.length
  (fdL (boolD (Td.sc (Value.bool q)))
  (listT U8
  (Td.fr 1 (List.length X) cx fun i =>
  encL X (0 + i)))
  (listT U8
  (Td.fr 1
  (Int.toNat
  (if
  Int.ofNat n <
  Int.ofNat
  (List.length
  (Ld.l
  (List.getD l (0 + Int.toNat i)
  Enc.dflt))) then
  Int.ofNat n
  else
  Int.ofNat
  (List.length
  (Ld.l
  (List.getD l (0 + Int.toNat i)
  Enc.dflt)))) -
  0)
  (bif Nat.beq n 0 then cb else 0) fun i =>
  encL B (k + 0 + i))))))
  (need
  (true &&
  Nat.ble
  (0 +
  List.length
  (fdL (boolD (Td.sc (Value.bool q)))
  (listT U8
  (Td.fr 1 (List.length X) cy fun i =>
  encL X (0 + i)))
  (listT U8
  (Td.fr 1
  (Int.toNat
  (if
  Int.ofNat n <
  Int.ofNat
  (List.length
  (Ld.l
  (List.getD l (0 + Int.toNat i)
  Enc.dflt))) then
  Int.ofNat n
  else
  Int.ofNat
  (List.length
  (Ld.l
  (List.getD l (0 + Int.toNat i)
  Enc.dflt)))) -
  0)
  (bif Nat.beq n 0 then cb else 0)
  fun i => encL B (k + 0 + i)))))
  (List.length
  (fdL (boolD (Td.sc (Value.bool q)))
  (listT U8
  (Td.fr 1 (List.length X) cy fun i =>
  encL X (0 + i)))
  (listT U8
  (Td.fr 1
  (Int.toNat
  (if
  Int.ofNat n <
  Int.ofNat
  (List.length
  (Ld.l
  (List.getD l (0 + Int.toNat i)
  Enc.dflt))) then
  Int.ofNat n
  else
  Int.ofNat
  (List.length
  (Ld.l
  (List.getD l (0 + Int.toNat i)
  Enc.dflt)))) -
  0)
  (bif Nat.beq n 0 then cb else 0) fun i =>
  encL B (k + 0 + i))))))
  (need
  (ok2 Ld Ld
  (fun l x m x_1 => List.all l (okA Ld) && List.all m (okA Ld))
  [Ta.cell
  (Td.fr 1
  (List.length
  (fdL (boolD (Td.sc (Value.bool q)))
  (listT U8
  (Td.fr 1 (List.length X) cx fun i =>
  encL X (0 + i)))
  (listT U8
  (Td.fr 1
  (Int.toNat
  (if
  Int.ofNat n <
  Int.ofNat
  (List.length
  (Ld.l
  (List.getD l
  (0 + Int.toNat i)
  Enc.dflt))) then
  Int.ofNat n
  else
  Int.ofNat
  (List.length
  (Ld.l
  (List.getD l (0 + Int.toNat i)
  Enc.dflt)))) -
  0)
  (bif Nat.beq n 0 then cb else 0)
  fun i => encL B (k + 0 + i)))))
  1 fun i_1 =>
  encL
  (fdL (boolD (Td.sc (Value.bool q)))
  (listT U8
  (Td.fr 1 (List.length X) cx fun i =>
  encL X (0 + i)))
  (listT U8
  (Td.fr 1
  (Int.toNat
  (if
  Int.ofNat n <
  Int.ofNat
  (List.length
  (Ld.l
  (List.getD l
  (0 + Int.toNat i)
  Enc.dflt))) then
  Int.ofNat n
  else
  Int.ofNat
  (List.length
  (Ld.l
  (List.getD l (0 + Int.toNat i)
  Enc.dflt)))) -
  0)
  (bif Nat.beq n 0 then cb else 0)
  fun i => encL B (k + 0 + i))))
  (0 + i_1)),
  Ta.cell
  (Td.fr 1
  (List.length
  (fdL (boolD (Td.sc (Value.bool q)))
  (listT U8
  (Td.fr 1 (List.length X) cy fun i =>
  encL X (0 + i)))
  (listT U8
  (Td.fr 1
  (Int.toNat
  (if
  Int.ofNat n <
  Int.ofNat
  (List.length
  (Ld.l
  (List.getD l
  (0 + Int.toNat i)
  Enc.dflt))) then
  Int.ofNat n
  else
  Int.ofNat
  (List.length
  (Ld.l
  (List.getD l (0 + Int.toNat i)
  Enc.dflt)))) -
  0)
  (bif Nat.beq n 0 then cb else 0)
  fun i => encL B (k + 0 + i)))))
  1 fun i_1 =>
  encL
  (fdL (boolD (Td.sc (Value.bool q)))
  (listT U8
  (Td.fr 1 (List.length X) cy fun i =>
  encL X (0 + i)))
  (listT U8
  (Td.fr 1
  (Int.toNat
  (if
  Int.ofNat n <
  Int.ofNat
  (List.length
  (Ld.l
  (List.getD l
  (0 + Int.toNat i)
  Enc.dflt))) then
  Int.ofNat n
  else
  Int.ofNat
  (List.length
  (Ld.l
  (List.getD l (0 + Int.toNat i)
  Enc.dflt)))) -
  0)
  (bif Nat.beq n 0 then cb else 0)
  fun i => encL B (k + 0 + i))))
  (0 + i_1))])
  (br
  (!sameLs
  (listT Ld
  (Td.fr 1
  (List.length
  (fdL (boolD (Td.sc (Value.bool q)))
  (listT U8
  (Td.fr 1 (List.length X) cx fun i =>
  encL X (0 + i)))
  (listT U8
  (Td.fr 1
  (Int.toNat
  (if
  Int.ofNat n <
  Int.ofNat
  (List.length
  (Ld.l
  (List.getD l
  (0 + Int.toNat i)
  Enc.dflt))) then
  Int.ofNat n
  else
  Int.ofNat
  (List.length
  (Ld.l
  (List.getD l (0 + Int.toNat i)
  Enc.dflt)))) -
  0)
  (bif Nat.beq n 0 then cb else 0)
  fun i => encL B (k + 0 + i)))))
  1 fun i_1 =>
  encL
  (fdL (boolD (Td.sc (Value.bool q)))
  (listT U8
  (Td.fr 1 (List.length X) cx fun i =>
  encL X (0 + i)))
  (listT U8
  (Td.fr 1
  (Int.toNat
  (if
  Int.ofNat n <
  Int.ofNat
  (List.length
  (Ld.l
  (List.getD l
  (0 + Int.toNat i)
  Enc.dflt))) then
  Int.ofNat n
  else
  Int.ofNat
  (List.length
  (Ld.l
  (List.getD l (0 + Int.toNat i)
  Enc.dflt)))) -
  0)
  (bif Nat.beq n 0 then cb else 0)
  fun i => encL B (k + 0 + i))))
  (0 + i_1)))
  (listT Ld
  (Td.fr 1
  (List.length
  (fdL (boolD (Td.sc (Value.bool q)))
  (listT U8
  (Td.fr 1 (List.length X) cy fun i =>
  encL X (0 + i)))
  (listT U8
  (Td.fr 1
  (Int.toNat
  (if
  Int.ofNat n <
  Int.ofNat
  (List.length
  (Ld.l
  (List.getD l
  (0 + Int.toNat i)
  Enc.dflt))) then
  Int.ofNat n
  else
  Int.ofNat
  (List.length
  (Ld.l
  (List.getD l (0 + Int.toNat i)
  Enc.dflt)))) -
  0)
  (bif Nat.beq n 0 then cb else 0)
  fun i => encL B (k + 0 + i)))))
  1 fun i_1 =>
  encL
  (fdL (boolD (Td.sc (Value.bool q)))
  (listT U8
  (Td.fr 1 (List.length X) cy fun i =>
  encL X (0 + i)))
  (listT U8
  (Td.fr 1
  (Int.toNat
  (if
  Int.ofNat n <
  Int.ofNat
  (List.length
  (Ld.l
  (List.getD l
  (0 + Int.toNat i)
  Enc.dflt))) then
  Int.ofNat n
  else
  Int.ofNat
  (List.length
  (Ld.l
  (List.getD l (0 + Int.toNat i)
  Enc.dflt)))) -
  0)
  (bif Nat.beq n 0 then cb else 0)
  fun i => encL B (k + 0 + i))))
  (0 + i_1))))
  (onP N AX.ret (shpA1r l m false))
  (N AX.normal
  (mkF 117
  [(0,
  Value.slice
  (some (Addr.mk 0 0 (some 0)))
  (List.length l) c),
  (10,
  Value.slice
  (some
  (Addr.mk 2 0
  (some
  (k +
  Int.toNat
  (if
  Int.ofNat n <
  Int.ofNat
  (List.length
  (Ld.l
  (List.getD l
  (0 + Int.toNat i)
  Enc.dflt))) then
  Int.ofNat n
  else
  Int.ofNat
  (List.length
  (Ld.l
  (List.getD l (0 + Int.toNat i)
  Enc.dflt))))))))
  (n -
  Int.toNat
  (if
  Int.ofNat n <
  Int.ofNat
  (List.length
  (Ld.l
  (List.getD l (0 + Int.toNat i)
  Enc.dflt))) then
  Int.ofNat n
  else
  Int.ofNat
  (List.length
  (Ld.l
  (List.getD l (0 + Int.toNat i)
  Enc.dflt)))))
  (bif Nat.beq n 0 then cb else 0)),
  (11,
  Value.pointer (some (Addr.mk 3 0 none))),
  (12,
  Value.pointer (some (Addr.mk 5 0 none))),
  (13,
  Value.int IntKind.i64
  (IntKind.wrap IntKind.i64 (i + (1 : Int))))])
  (mkS
  [some
  (AObj.row Rk.still 1 0 (List.length l)
  (encL l)),
  some
  (AObj.row Rk.still 1 0 (List.length m)
  (encL m)),
  some
  (AObj.row Rk.mine 1 0 (List.length B)
  (encL B)),
  some
  (AObj.cells
  [Value.slice
  (some
  (Addr.mk 4 0 (some 0)))
  (List.length
  (fdB (boolD (Td.sc (Value.bool q)))
  (listT U8
  (Td.fr 1 (List.length X) cx fun i =>
  encL X (0 + i)))
  (listT U8
  (Td.fr 1
  (Int.toNat
  (if
  Int.ofNat n <
  Int.ofNat
  (List.length
  (Ld.l
  (List.getD l
  (0 + Int.toNat i)
  Enc.dflt))) then
  Int.ofNat n
  else
  Int.ofNat
  (List.length
  (Ld.l
  (List.getD l
  (0 + Int.toNat i)
  Enc.dflt)))) -
  0)
  (bif Nat.beq n 0 then cb
  else 0)
  fun i => encL B (k + 0 + i)))))
  (fdC (boolD (Td.sc (Value.bool q)))
  (listT U8
  (Td.fr 1 (List.length X) cx fun i =>
  encL X (0 + i)))
  cx
  (listT U8
  (Td.fr 1
  (Int.toNat
  (if
  Int.ofNat n <
  Int.ofNat
  (List.length
  (Ld.l
  (List.getD l
  (0 + Int.toNat i)
  Enc.dflt))) then
  Int.ofNat n
  else
  Int.ofNat
  (List.length
  (Ld.l
  (List.getD l
  (0 + Int.toNat i)
  Enc.dflt)))) -
  0)
  (bif Nat.beq n 0 then cb
  else 0)
  fun i => encL B (k + 0 + i)))),
  Value.bool
  (fdQ (boolD (Td.sc (Value.bool q)))
  (listT U8
  (Td.fr 1 (List.length X) cx fun i =>
  encL X (0 + i)))
  (listT U8
  (Td.fr 1
  (Int.toNat
  (if
  Int.ofNat n <
  Int.ofNat
  (List.length
  (Ld.l
  (List.getD l
  (0 + Int.toNat i)
  Enc.dflt))) then
  Int.ofNat n
  else
  Int.ofNat
  (List.length
  (Ld.l
  (List.getD l
  (0 + Int.toNat i)
  Enc.dflt)))) -
  0)
  (bif Nat.beq n 0 then cb
  else 0)
  fun i => encL B (k + 0 + i))))]
  true 0),
  some
  (AObj.row Rk.mine 1 0
  (List.length
  (fdB (boolD (Td.sc (Value.bool q)))
  (listT U8
  (Td.fr 1 (List.length X) cx fun i =>
  encL X (0 + i)))
  (listT U8
  (Td.fr 1
  (Int.toNat
  (if
  Int.ofNat n <
  Int.ofNat
  (List.length
  (Ld.l
  (List.getD l
  (0 + Int.toNat i)
  Enc.dflt))) then
  Int.ofNat n
  else
  Int.ofNat
  (List.length
  (Ld.l
  (List.getD l
  (0 + Int.toNat i)
  Enc.dflt)))) -
  0)
  (bif Nat.beq n 0 then cb else 0)
  fun i => encL B (k + 0 + i)))))
  (encL
  (fdB (boolD (Td.sc (Value.bool q)))
  (listT U8
  (Td.fr 1 (List.length X) cx fun i =>
  encL X (0 + i)))
  (listT U8
  (Td.fr 1
  (Int.toNat
  (if
  Int.ofNat n <
  Int.ofNat
  (List.length
  (Ld.l
  (List.getD l
  (0 + Int.toNat i)
  Enc.dflt))) then
  Int.ofNat n
  else
  Int.ofNat
  (List.length
  (Ld.l
  (List.getD l
  (0 + Int.toNat i)
  Enc.dflt)))) -
  0)
  (bif Nat.beq n 0 then cb else 0)
  fun i => encL B (k + 0 + i)))))),
  some
  (AObj.cells
  [Value.slice
  (some
  (Addr.mk 6 0 (some 0)))
  (List.length
  (fdB (boolD (Td.sc (Value.bool q)))
  (listT U8
  (Td.fr 1 (List.length X) cy fun i =>
  encL X (0 + i)))
  (listT U8
  (Td.fr 1
  (Int.toNat
  (if
  Int.ofNat n <
  Int.ofNat
  (List.length
  (Ld.l
  (List.getD l
  (0 + Int.toNat i)
  Enc.dflt))) then
  Int.ofNat n
  else
  Int.ofNat
  (List.length
  (Ld.l
  (List.getD l
  (0 + Int.toNat i)
  Enc.dflt)))) -
  0)
  (bif Nat.beq n 0 then cb
  else 0)
  fun i => encL B (k + 0 + i)))))
  (frC (boolD (Td.sc (Value.bool q)))
  (listT U8
  (Td.fr 1 (List.length X) cy fun i =>
  encL X (0 + i)))
  (listT U8
  (Td.fr 1
  (Int.toNat
  (if
  Int.ofNat n <
  Int.ofNat
  (List.length
  (Ld.l
  (List.getD l
  (0 + Int.toNat i)
  Enc.dflt))) then
  Int.ofNat n
  else
  Int.ofNat
  (List.length
  (Ld.l
  (List.getD l
  (0 + Int.toNat i)
  Enc.dflt)))) -
  0)
  (bif Nat.beq n 0 then cb
  else 0)
  fun i => encL B (k + 0 + i)))),
  Value.bool
  (fdQ (boolD (Td.sc (Value.bool q)))
  (listT U8
  (Td.fr 1 (List.length X) cy fun i =>
  encL X (0 + i)))
  (listT U8
  (Td.fr 1
  (Int.toNat
  (if
  Int.ofNat n <
  Int.ofNat
  (List.length
  (Ld.l
  (List.getD l
  (0 + Int.toNat i)
  Enc.dflt))) then
  Int.ofNat n
  else
  Int.ofNat
  (List.length
  (Ld.l
  (List.getD l
  (0 + Int.toNat i)
  Enc.dflt)))) -
  0)
  (bif Nat.beq n 0 then cb
  else 0)
  fun i => encL B (k + 0 + i))))]
  true 0),
  some
  (AObj.row Rk.mine 1 0
  (List.length
  (fdB (boolD (Td.sc (Value.bool q)))
  (listT U8
  (Td.fr 1 (List.length X) cy fun i =>
  encL X (0 + i)))
  (listT U8
  (Td.fr 1
  (Int.toNat
  (if
  Int.ofNat n <
  Int.ofNat
  (List.length
  (Ld.l
  (List.getD l
  (0 + Int.toNat i)
  Enc.dflt))) then
  Int.ofNat n
  else
  Int.ofNat
  (List.length
  (Ld.l
  (List.getD l
  (0 + Int.toNat i)
  Enc.dflt)))) -
  0)
  (bif Nat.beq n 0 then cb else 0)
  fun i => encL B (k + 0 + i)))))
  (encL
  (fdB (boolD (Td.sc (Value.bool q)))
  (listT U8
  (Td.fr 1 (List.length X) cy fun i =>
  encL X (0 + i)))
  (listT U8
  (Td.fr 1
  (Int.toNat
  (if
  Int.ofNat n <
  Int.ofNat
  (List.length
  (Ld.l
  (List.getD l
  (0 + Int.toNat i)
  Enc.dflt))) then
  Int.ofNat n
  else
  Int.ofNat
  (List.length
  (Ld.l
  (List.getD l
  (0 + Int.toNat i)
  Enc.dflt)))) -
  0)
  (bif Nat.beq n 0 then cb else 0)
  fun i =>
  encL B (k + 0 + i))))))])))))))))))
  (onP N AX.ret (shpA1r l m false)))))))))))))
  (need (true && Nat.ble (0 + List.length X) (List.length X))
  (need
  (true &&
  Nat.ble (0 + List.length (Ld.l (List.getD l (0 + Int.toNat i) Enc.dflt)))
  (List.length (Ld.l (List.getD l (0 + Int.toNat i) Enc.dflt))))
  (need
  (okFd
  [Ta.agg
  [Td.fr 1 (List.length X) cx fun i => encL X (0 + i), Td.sc (Value.bool q)],
  Ta.cell
  (Td.fr 1 (List.length (Ld.l (List.getD l (0 + Int.toNat i) Enc.dflt)))
  (Ld.c (List.getD l (0 + Int.toNat i) Enc.dflt)) fun i_1 =>
  encL (Ld.l (List.getD l (0 + Int.toNat i) Enc.dflt)) (0 + i_1))])
  (need (true && Nat.ble (0 + List.length X) (List.length X))
  (need
  (true &&
  Nat.ble (0 + List.length (Ld.l (List.getD l (0 + Int.toNat i) Enc.dflt)))
  (List.length (Ld.l (List.getD l (0 + Int.toNat i) Enc.dflt))))
  (need
  (okFr
  [Ta.agg
  [Td.fr 1 (List.length X) cy fun i => encL X (0 + i),
  Td.sc (Value.bool q)],
  Ta.cell
  (Td.fr 1 (List.length (Ld.l (List.getD l (0 + Int.toNat i) Enc.dflt)))
  (Ld.c (List.getD l (0 + Int.toNat i) Enc.dflt)) fun i_1 =>
  encL (Ld.l (List.getD l (0 + Int.toNat i) Enc.dflt)) (0 + i_1))])
  (br
  (fdQ (boolD (Td.sc (Value.bool q)))
  (listT U8 (Td.fr 1 (List.length X) cx fun i => encL X (0 + i)))
  (listT U8
  (Td.fr 1 (List.length (Ld.l (List.getD l (0 + Int.toNat i) Enc.dflt)))
  (Ld.c (List.getD l (0 + Int.toNat i) Enc.dflt)) fun i_1 =>
  encL (Ld.l (List.getD l (0 + Int.toNat i) Enc.dflt)) (0 + i_1))) ==
  fdQ (boolD (Td.sc (Value.bool q)))
  (listT U8 (Td.fr 1 (List.length X) cy fun i => encL X (0 + i)))
  (listT U8
  (Td.fr 1 (List.length (Ld.l (List.getD l (0 + Int.toNat i) Enc.dflt)))
  (Ld.c (List.getD l (0 + Int.toNat i) Enc.dflt)) fun i_1 =>
  encL (Ld.l (List.getD l (0 + Int.toNat i) Enc.dflt)) (0 + i_1))))
  (need
  (true &&
  Nat.ble
  (0 +
  List.length
  (fdB (boolD (Td.sc (Value.bool q)))
  (listT U8 (Td.fr 1 (List.length X) cx fun i => encL X (0 + i)))
  (listT U8
  (Td.fr 1
  (List.length (Ld.l (List.getD l (0 + Int.toNat i) Enc.dflt)))
  (Ld.c (List.getD l (0 + Int.toNat i) Enc.dflt)) fun i_1 =>
  encL (Ld.l (List.getD l (0 + Int.toNat i) Enc.dflt))
  (0 + i_1)))))
  (List.length
  (fdB (boolD (Td.sc (Value.bool q)))
  (listT U8 (Td.fr 1 (List.length X) cx fun i => encL X (0 + i)))
  (listT U8
  (Td.fr 1
  (List.length (Ld.l (List.getD l (0 + Int.toNat i) Enc.dflt)))
  (Ld.c (List.getD l (0 + Int.toNat i) Enc.dflt)) fun i_1 =>
  encL (Ld.l (List.getD l (0 + Int.toNat i) Enc.dflt))
  (0 + i_1))))))
  (need
  (allB
  (List.length
  (fdB (boolD (Td.sc (Value.bool q)))
  (listT U8 (Td.fr 1 (List.length X) cx fun i => encL X (0 + i)))
  (listT U8
  (Td.fr 1
  (List.length (Ld.l (List.getD l (0 + Int.toNat i) Enc.dflt)))
  (Ld.c (List.getD l (0 + Int.toNat i) Enc.dflt)) fun i_1 =>
  encL (Ld.l (List.getD l (0 + Int.toNat i) Enc.dflt))
  (0 + i_1)))))
  fun j =>
  encL
  (fdB (boolD (Td.sc (Value.bool q)))
  (listT U8 (Td.fr 1 (List.length X) cx fun i => encL X (0 + i)))
  (listT U8
  (Td.fr 1
  (List.length (Ld.l (List.getD l (0 + Int.toNat i) Enc.dflt)))
  (Ld.c (List.getD l (0 + Int.toNat i) Enc.dflt)) fun i_1 =>
  encL (Ld.l (List.getD l (0 + Int.toNat i) Enc.dflt))
  (0 + i_1))))
  (0 + j))
  (need
  (true &&
  Nat.ble
  (0 +
  List.length
  (fdB (boolD (Td.sc (Value.bool q)))
  (listT U8
  (Td.fr 1 (List.length X) cy fun i => encL X (0 + i)))
  (listT U8
  (Td.fr 1
  (List.length (Ld.l (List.getD l (0 + Int.toNat i) Enc.dflt)))
  (Ld.c (List.getD l (0 + Int.toNat i) Enc.dflt)) fun i_1 =>
  encL (Ld.l (List.getD l (0 + Int.toNat i) Enc.dflt))
  (0 + i_1)))))
  (List.length
  (fdB (boolD (Td.sc (Value.bool q)))
  (listT U8
  (Td.fr 1 (List.length X) cy fun i => encL X (0 + i)))
  (listT U8
  (Td.fr 1
  (List.length (Ld.l (List.getD l (0 + Int.toNat i) Enc.dflt)))
  (Ld.c (List.getD l (0 + Int.toNat i) Enc.dflt)) fun i_1 =>
  encL (Ld.l (List.getD l (0 + Int.toNat i) Enc.dflt))
  (0 + i_1))))))
  (need
  (allB
  (List.length
  (fdB (boolD (Td.sc (Value.bool q)))
  (listT U8
  (Td.fr 1 (List.length X) cy fun i => encL X (0 + i)))
  (listT U8
  (Td.fr 1
  (List.length (Ld.l (List.getD l (0 + Int.toNat i) Enc.dflt)))
  (Ld.c (List.getD l (0 + Int.toNat i) Enc.dflt)) fun i_1 =>
  encL (Ld.l (List.getD l (0 + Int.toNat i) Enc.dflt))
  (0 + i_1)))))
  fun j =>
  encL
  (fdB (boolD (Td.sc (Value.bool q)))
  (listT U8
  (Td.fr 1 (List.length X) cy fun i => encL X (0 + i)))
  (listT U8
  (Td.fr 1
  (List.length (Ld.l (List.getD l (0 + Int.toNat i) Enc.dflt)))
  (Ld.c (List.getD l (0 + Int.toNat i) Enc.dflt)) fun i_1 =>
  encL (Ld.l (List.getD l (0 + Int.toNat i) Enc.dflt))
  (0 + i_1))))
  (0 + j))
  (br
  (!List.map
  (fun j =>
  byteF
  (encL
  (fdB (boolD (Td.sc (Value.bool q)))
  (listT U8
  (Td.fr 1 (List.length X) cx fun i =>
  encL X (0 + i)))
  (listT U8
  (Td.fr 1
  (List.length
  (Ld.l (List.getD l (0 + Int.toNat i) Enc.dflt)))
  (Ld.c (List.getD l (0 + Int.toNat i) Enc.dflt))
  fun i_1 =>
  encL (Ld.l (List.getD l (0 + Int.toNat i) Enc.dflt))
  (0 + i_1))))
  (0 + j) 0))
  (List.range
  (List.length
  (fdB (boolD (Td.sc (Value.bool q)))
  (listT U8
  (Td.fr 1 (List.length X) cx fun i =>
  encL X (0 + i)))
  (listT U8
  (Td.fr 1
  (List.length
  (Ld.l (List.getD l (0 + Int.toNat i) Enc.dflt)))
  (Ld.c (List.getD l (0 + Int.toNat i) Enc.dflt)) fun i_1 =>
  encL (Ld.l (List.getD l (0 + Int.toNat i) Enc.dflt))
  (0 + i_1)))))) ==
  List.map
  (fun j =>
  byteF
  (encL
  (fdB (boolD (Td.sc (Value.bool q)))
  (listT U8
  (Td.fr 1 (List.length X) cy fun i =>
  encL X (0 + i)))
  (listT U8
  (Td.fr 1
  (List.length
  (Ld.l (List.getD l (0 + Int.toNat i) Enc.dflt)))
  (Ld.c (List.getD l (0 + Int.toNat i) Enc.dflt))
  fun i_1 =>
  encL (Ld.l (List.getD l (0 + Int.toNat i) Enc.dflt))
  (0 + i_1))))
  (0 + j) 0))
  (List.range
  (List.length
  (fdB (boolD (Td.sc (Value.bool q)))
  (listT U8
  (Td.fr 1 (List.length X) cy fun i =>
  encL X (0 + i)))
  (listT U8
  (Td.fr 1
  (List.length
  (Ld.l (List.getD l (0 + Int.toNat i) Enc.dflt)))
  (Ld.c (List.getD l (0 + Int.toNat i) Enc.dflt)) fun i_1 =>
  encL (Ld.l (List.getD l (0 + Int.toNat i) Enc.dflt))
  (0 + i_1)))))))
  (onP N AX.ret (shpA1r l m false))
  (need
  (true &&
  Nat.ble
  (0 +
  List.length
  (fdL (boolD (Td.sc (Value.bool q)))
  (listT U8
  (Td.fr 1 (List.length X) cx fun i =>
  encL X (0 + i)))
  (listT U8
  (Td.fr 1
  (List.length
  (Ld.l (List.getD l (0 + Int.toNat i) Enc.dflt)))
  (Ld.c (List.getD l (0 + Int.toNat i) Enc.dflt)) fun i_1 =>
  encL (Ld.l (List.getD l (0 + Int.toNat i) Enc.dflt))
  (0 + i_1)))))
  (List.length
  (fdL (boolD (Td.sc (Value.bool q)))
  (listT U8
  (Td.fr 1 (List.length X) cx fun i => encL X (0 + i)))
  (listT U8
  (Td.fr 1
  (List.length
  (Ld.l (List.getD l (0 + Int.toNat i) Enc.dflt)))
  (Ld.c (List.getD l (0 + Int.toNat i) Enc.dflt)) fun i_1 =>
  encL (Ld.l (List.getD l (0 + Int.toNat i) Enc.dflt))
  (0 + i_1))))))
  (need
  (true &&
  Nat.ble
  (0 +
  List.length
  (fdL (boolD (Td.sc (Value.bool q)))
  (listT U8
  (Td.fr 1 (List.length X) cy fun i =>
  encL X (0 + i)))
  (listT U8
  (Td.fr 1
  (List.length
  (Ld.l (List.getD l (0 + Int.toNat i) Enc.dflt)))
  (Ld.c (List.getD l (0 + Int.toNat i) Enc.dflt))
  fun i_1 =>
  encL (Ld.l (List.getD l (0 + Int.toNat i) Enc.dflt))
  (0 + i_1)))))
  (List.length
  (fdL (boolD (Td.sc (Value.bool q)))
  (listT U8
  (Td.fr 1 (List.length X) cy fun i =>
  encL X (0 + i)))
  (listT U8
  (Td.fr 1
  (List.length
  (Ld.l (List.getD l (0 + Int.toNat i) Enc.dflt)))
  (Ld.c (List.getD l (0 + Int.toNat i) Enc.dflt)) fun i_1 =>
  encL (Ld.l (List.getD l (0 + Int.toNat i) Enc.dflt))
  (0 + i_1))))))
  (need
  (ok2 Ld Ld (fun l x m x_1 => List.all l (okA Ld) && List.all m (okA Ld))
  [Ta.cell
  (Td.fr 1
  (List.length
  (fdL (boolD (Td.sc (Value.bool q)))
  (listT U8
  (Td.fr 1 (List.length X) cx fun i =>
  encL X (0 + i)))
  (listT U8
  (Td.fr 1
  (List.length
  (Ld.l (List.getD l (0 + Int.toNat i) Enc.dflt)))
  (Ld.c (List.getD l (0 + Int.toNat i) Enc.dflt))
  fun i_1 =>
  encL (Ld.l (List.getD l (0 + Int.toNat i) Enc.dflt))
  (0 + i_1)))))
  1 fun i_1 =>
  encL
  (fdL (boolD (Td.sc (Value.bool q)))
  (listT U8
  (Td.fr 1 (List.length X) cx fun i =>
  encL X (0 + i)))
  (listT U8
  (Td.fr 1
  (List.length
  (Ld.l (List.getD l (0 + Int.toNat i) Enc.dflt)))
  (Ld.c (List.getD l (0 + Int.toNat i) Enc.dflt))
  fun i_2 =>
  encL (Ld.l (List.getD l (0 + Int.toNat i) Enc.dflt))
  (0 + i_2))))
  (0 + i_1)),
  Ta.cell
  (Td.fr 1
  (List.length
  (fdL (boolD (Td.sc (Value.bool q)))
  (listT U8
  (Td.fr 1 (List.length X) cy fun i =>
  encL X (0 + i)))
  (listT U8
  (Td.fr 1
  (List.length
  (Ld.l (List.getD l (0 + Int.toNat i) Enc.dflt)))
  (Ld.c (List.getD l (0 + Int.toNat i) Enc.dflt))
  fun i_1 =>
  encL (Ld.l (List.getD l (0 + Int.toNat i) Enc.dflt))
  (0 + i_1)))))
  1 fun i_1 =>
  encL
  (fdL (boolD (Td.sc (Value.bool q)))
  (listT U8
  (Td.fr 1 (List.length X) cy fun i =>
  encL X (0 + i)))
  (listT U8
  (Td.fr 1
  (List.length
  (Ld.l (List.getD l (0 + Int.toNat i) Enc.dflt)))
  (Ld.c (List.getD l (0 + Int.toNat i) Enc.dflt))
  fun i_2 =>
  encL (Ld.l (List.getD l (0 + Int.toNat i) Enc.dflt))
  (0 + i_2))))
  (0 + i_1))])
  (br
  (!sameLs
  (listT Ld
  (Td.fr 1
  (List.length
  (fdL (boolD (Td.sc (Value.bool q)))
  (listT U8
  (Td.fr 1 (List.length X) cx fun i =>
  encL X (0 + i)))
  (listT U8
  (Td.fr 1
  (List.length
  (Ld.l (List.getD l (0 + Int.toNat i) Enc.dflt)))
  (Ld.c (List.getD l (0 + Int.toNat i) Enc.dflt))
  fun i_1 =>
  encL
  (Ld.l (List.getD l (0 + Int.toNat i) Enc.dflt))
  (0 + i_1)))))
  1 fun i_1 =>
  encL
  (fdL (boolD (Td.sc (Value.bool q)))
  (listT U8
  (Td.fr 1 (List.length X) cx fun i =>
  encL X (0 + i)))
  (listT U8
  (Td.fr 1
  (List.length
  (Ld.l (List.getD l (0 + Int.toNat i) Enc.dflt)))
  (Ld.c (List.getD l (0 + Int.toNat i) Enc.dflt))
  fun i_2 =>
  encL
  (Ld.l (List.getD l (0 + Int.toNat i) Enc.dflt))
  (0 + i_2))))
  (0 + i_1)))
  (listT Ld
  (Td.fr 1
  (List.length
  (fdL (boolD (Td.sc (Value.bool q)))
  (listT U8
  (Td.fr 1 (List.length X) cy fun i =>
  encL X (0 + i)))
  (listT U8
  (Td.fr 1
  (List.length
  (Ld.l (List.getD l (0 + Int.toNat i) Enc.dflt)))
  (Ld.c (List.getD l (0 + Int.toNat i) Enc.dflt))
  fun i_1 =>
  encL
  (Ld.l (List.getD l (0 + Int.toNat i) Enc.dflt))
  (0 + i_1)))))
  1 fun i_1 =>
  encL
  (fdL (boolD (Td.sc (Value.bool q)))
  (listT U8
  (Td.fr 1 (List.length X) cy fun i =>
  encL X (0 + i)))
  (listT U8
  (Td.fr 1
  (List.length
  (Ld.l (List.getD l (0 + Int.toNat i) Enc.dflt)))
  (Ld.c (List.getD l (0 + Int.toNat i) Enc.dflt))
  fun i_2 =>
  encL
  (Ld.l (List.getD l (0 + Int.toNat i) Enc.dflt))
  (0 + i_2))))
  (0 + i_1))))
  (onP N AX.ret (shpA1r l m false))
  (N AX.normal
  (mkF 117
  [(0,
  Value.slice (some (Addr.mk 0 0 (some 0)))
  (List.length l) c),
  (10,
  Value.slice (some (Addr.mk 2 0 (some k))) n cb),
  (11,
  Value.pointer (some (Addr.mk 3 0 none))),
  (12,
  Value.pointer (some (Addr.mk 5 0 none))),
  (13,
  Value.int IntKind.i64
  (IntKind.wrap IntKind.i64 (i + (1 : Int))))])
  (mkS
  [some
  (AObj.row Rk.still 1 0 (List.length l) (encL l)),
  some
  (AObj.row Rk.still 1 0 (List.length m) (encL m)),
  some
  (AObj.row Rk.mine 1 0 (List.length B) (encL B)),
  some
  (AObj.cells
  [Value.slice
  (some (Addr.mk 4 0 (some 0)))
  (List.length
  (fdB (boolD (Td.sc (Value.bool q)))
  (listT U8
  (Td.fr 1 (List.length X) cx fun i =>
  encL X (0 + i)))
  (listT U8
  (Td.fr 1
  (List.length
  (Ld.l
  (List.getD l (0 + Int.toNat i)
  Enc.dflt)))
  (Ld.c
  (List.getD l (0 + Int.toNat i) Enc.dflt))
  fun i_1 =>
  encL
  (Ld.l
  (List.getD l (0 + Int.toNat i)
  Enc.dflt))
  (0 + i_1)))))
  (fdC (boolD (Td.sc (Value.bool q)))
  (listT U8
  (Td.fr 1 (List.length X) cx fun i =>
  encL X (0 + i)))
  cx
  (listT U8
  (Td.fr 1
  (List.length
  (Ld.l
  (List.getD l (0 + Int.toNat i) Enc.dflt)))
  (Ld.c
  (List.getD l (0 + Int.toNat i) Enc.dflt))
  fun i_1 =>
  encL
  (Ld.l
  (List.getD l (0 + Int.toNat i) Enc.dflt))
  (0 + i_1)))),
  Value.bool
  (fdQ (boolD (Td.sc (Value.bool q)))
  (listT U8
  (Td.fr 1 (List.length X) cx fun i =>
  encL X (0 + i)))
  (listT U8
  (Td.fr 1
  (List.length
  (Ld.l
  (List.getD l (0 + Int.toNat i) Enc.dflt)))
  (Ld.c
  (List.getD l (0 + Int.toNat i) Enc.dflt))
  fun i_1 =>
  encL
  (Ld.l
  (List.getD l (0 + Int.toNat i) Enc.dflt))
  (0 + i_1))))]
  true 0),
  some
  (AObj.row Rk.mine 1 0
  (List.length
  (fdB (boolD (Td.sc (Value.bool q)))
  (listT U8
  (Td.fr 1 (List.length X) cx fun i =>
  encL X (0 + i)))
  (listT U8
  (Td.fr 1
  (List.length
  (Ld.l
  (List.getD l (0 + Int.toNat i) Enc.dflt)))
  (Ld.c (List.getD l (0 + Int.toNat i) Enc.dflt))
  fun i_1 =>
  encL
  (Ld.l
  (List.getD l (0 + Int.toNat i) Enc.dflt))
  (0 + i_1)))))
  (encL
  (fdB (boolD (Td.sc (Value.bool q)))
  (listT U8
  (Td.fr 1 (List.length X) cx fun i =>
  encL X (0 + i)))
  (listT U8
  (Td.fr 1
  (List.length
  (Ld.l
  (List.getD l (0 + Int.toNat i) Enc.dflt)))
  (Ld.c (List.getD l (0 + Int.toNat i) Enc.dflt))
  fun i_1 =>
  encL
  (Ld.l
  (List.getD l (0 + Int.toNat i) Enc.dflt))
  (0 + i_1)))))),
  some
  (AObj.cells
  [Value.slice
  (some (Addr.mk 6 0 (some 0)))
  (List.length
  (fdB (boolD (Td.sc (Value.bool q)))
  (listT U8
  (Td.fr 1 (List.length X) cy fun i =>
  encL X (0 + i)))
  (listT U8
  (Td.fr 1
  (List.length
  (Ld.l
  (List.getD l (0 + Int.toNat i)
  Enc.dflt)))
  (Ld.c
  (List.getD l (0 + Int.toNat i) Enc.dflt))
  fun i_1 =>
  encL
  (Ld.l
  (List.getD l (0 + Int.toNat i)
  Enc.dflt))
  (0 + i_1)))))
  (frC (boolD (Td.sc (Value.bool q)))
  (listT U8
  (Td.fr 1 (List.length X) cy fun i =>
  encL X (0 + i)))
  (listT U8
  (Td.fr 1
  (List.length
  (Ld.l
  (List.getD l (0 + Int.toNat i) Enc.dflt)))
  (Ld.c
  (List.getD l (0 + Int.toNat i) Enc.dflt))
  fun i_1 =>
  encL
  (Ld.l
  (List.getD l (0 + Int.toNat i) Enc.dflt))
  (0 + i_1)))),
  Value.bool
  (fdQ (boolD (Td.sc (Value.bool q)))
  (listT U8
  (Td.fr 1 (List.length X) cy fun i =>
  encL X (0 + i)))
  (listT U8
  (Td.fr 1
  (List.length
  (Ld.l
  (List.getD l (0 + Int.toNat i) Enc.dflt)))
  (Ld.c
  (List.getD l (0 + Int.toNat i) Enc.dflt))
  fun i_1 =>
  encL
  (Ld.l
  (List.getD l (0 + Int.toNat i) Enc.dflt))
  (0 + i_1))))]
  true 0),
  some
  (AObj.row Rk.mine 1 0
  (List.length
  (fdB (boolD (Td.sc (Value.bool q)))
  (listT U8
  (Td.fr 1 (List.length X) cy fun i =>
  encL X (0 + i)))
  (listT U8
  (Td.fr 1
  (List.length
  (Ld.l
  (List.getD l (0 + Int.toNat i) Enc.dflt)))
  (Ld.c (List.getD l (0 + Int.toNat i) Enc.dflt))
  fun i_1 =>
  encL
  (Ld.l
  (List.getD l (0 + Int.toNat i) Enc.dflt))
  (0 + i_1)))))
  (encL
  (fdB (boolD (Td.sc (Value.bool q)))
  (listT U8
  (Td.fr 1 (List.length X) cy fun i =>
  encL X (0 + i)))
  (listT U8
  (Td.fr 1
  (List.length
  (Ld.l
  (List.getD l (0 + Int.toNat i) Enc.dflt)))
  (Ld.c (List.getD l (0 + Int.toNat i) Enc.dflt))
  fun i_1 =>
  encL
  (Ld.l
  (List.getD l (0 + Int.toNat i) Enc.dflt))
  (0 + i_1))))))])))))))))))
  (onP N AX.ret (shpA1r l m false))))))))))))))
  (need (true && Nat.ble (0 + List.length X) (List.length X))
  (need (Nat.ble 0 k && Nat.ble (k + n) (List.length B))
  (need
  (okFd
  [Ta.agg [Td.fr 1 (List.length X) cx fun i => encL X (0 + i), Td.sc (Value.bool q)],
  Ta.cell (Td.fr 1 n cb fun i => encL B (k + i))])
  (need (true && Nat.ble (0 + List.length X) (List.length X))
  (need (Nat.ble 0 k && Nat.ble (k + n) (List.length B))
  (need
  (okFr
  [Ta.agg [Td.fr 1 (List.length X) cy fun i => encL X (0 + i), Td.sc (Value.bool q)],
  Ta.cell (Td.fr 1 n cb fun i => encL B (k + i))])
  (br
  (fdQ (boolD (Td.sc (Value.bool q)))
  (listT U8 (Td.fr 1 (List.length X) cx fun i => encL X (0 + i)))
  (listT U8 (Td.fr 1 n cb fun i => encL B (k + i))) ==
  fdQ (boolD (Td.sc (Value.bool q)))
  (listT U8 (Td.fr 1 (List.length X) cy fun i => encL X (0 + i)))
  (listT U8 (Td.fr 1 n cb fun i => encL B (k + i))))
  (need
  (true &&
  Nat.ble
  (0 +
  List.length
  (fdB (boolD (Td.sc (Value.bool q)))
  (listT U8 (Td.fr 1 (List.length X) cx fun i => encL X (0 + i)))
  (listT U8 (Td.fr 1 n cb fun i => encL B (k + i)))))
  (List.length
  (fdB (boolD (Td.sc (Value.bool q)))
  (listT U8 (Td.fr 1 (List.length X) cx fun i => encL X (0 + i)))
  (listT U8 (Td.fr 1 n cb fun i => encL B (k + i))))))
  (need
  (allB
  (List.length
  (fdB (boolD (Td.sc (Value.bool q)))
  (listT U8 (Td.fr 1 (List.length X) cx fun i => encL X (0 + i)))
  (listT U8 (Td.fr 1 n cb fun i => encL B (k + i)))))
  fun j =>
  encL
  (fdB (boolD (Td.sc (Value.bool q)))
  (listT U8 (Td.fr 1 (List.length X) cx fun i => encL X (0 + i)))
  (listT U8 (Td.fr 1 n cb fun i => encL B (k + i))))
  (0 + j))
  (need
  (true &&
  Nat.ble
  (0 +
  List.length
  (fdB (boolD (Td.sc (Value.bool q)))
  (listT U8 (Td.fr 1 (List.length X) cy fun i => encL X (0 + i)))
  (listT U8 (Td.fr 1 n cb fun i => encL B (k + i)))))
  (List.length
  (fdB (boolD (Td.sc (Value.bool q)))
  (listT U8 (Td.fr 1 (List.length X) cy fun i => encL X (0 + i)))
  (listT U8 (Td.fr 1 n cb fun i => encL B (k + i))))))
  (need
  (allB
  (List.length
  (fdB (boolD (Td.sc (Value.bool q)))
  (listT U8 (Td.fr 1 (List.length X) cy fun i => encL X (0 + i)))
  (listT U8 (Td.fr 1 n cb fun i => encL B (k + i)))))
  fun j =>
  encL
  (fdB (boolD (Td.sc (Value.bool q)))
  (listT U8 (Td.fr 1 (List.length X) cy fun i => encL X (0 + i)))
  (listT U8 (Td.fr 1 n cb fun i => encL B (k + i))))
  (0 + j))
  (br
  (!List.map
  (fun j =>
  byteF
  (encL
  (fdB (boolD (Td.sc (Value.bool q)))
  (listT U8
  (Td.fr 1 (List.length X) cx fun i => encL X (0 + i)))
  (listT U8 (Td.fr 1 n cb fun i => encL B (k + i))))
  (0 + j) 0))
  (List.range
  (List.length
  (fdB (boolD (Td.sc (Value.bool q)))
  (listT U8 (Td.fr 1 (List.length X) cx fun i => encL X (0 + i)))
  (listT U8 (Td.fr 1 n cb fun i => encL B (k + i)))))) ==
  List.map
  (fun j =>
  byteF
  (encL
  (fdB (boolD (Td.sc (Value.bool q)))
  (listT U8
  (Td.fr 1 (List.length X) cy fun i => encL X (0 + i)))
  (listT U8 (Td.fr 1 n cb fun i => encL B (k + i))))
  (0 + j) 0))
  (List.range
  (List.length
  (fdB (boolD (Td.sc (Value.bool q)))
  (listT U8 (Td.fr 1 (List.length X) cy fun i => encL X (0 + i)))
  (listT U8 (Td.fr 1 n cb fun i => encL B (k + i)))))))
  (onP N AX.ret (shpA1r l m false))
  (need
  (true &&
  Nat.ble
  (0 +
  List.length
  (fdL (boolD (Td.sc (Value.bool q)))
  (listT U8 (Td.fr 1 (List.length X) cx fun i => encL X (0 + i)))
  (listT U8 (Td.fr 1 n cb fun i => encL B (k + i)))))
  (List.length
  (fdL (boolD (Td.sc (Value.bool q)))
  (listT U8 (Td.fr 1 (List.length X) cx fun i => encL X (0 + i)))
  (listT U8 (Td.fr 1 n cb fun i => encL B (k + i))))))
  (need
  (true &&
  Nat.ble
  (0 +
  List.length
  (fdL (boolD (Td.sc (Value.bool q)))
  (listT U8
  (Td.fr 1 (List.length X) cy fun i => encL X (0 + i)))
  (listT U8 (Td.fr 1 n cb fun i => encL B (k + i)))))
  (List.length
  (fdL (boolD (Td.sc (Value.bool q)))
  (listT U8 (Td.fr 1 (List.length X) cy fun i => encL X (0 + i)))
  (listT U8 (Td.fr 1 n cb fun i => encL B (k + i))))))
  (need
  (ok2 Ld Ld (fun l x m x_1 => List.all l (okA Ld) && List.all m (okA Ld))
  [Ta.cell
  (Td.fr 1
  (List.length
  (fdL (boolD (Td.sc (Value.bool q)))
  (listT U8
  (Td.fr 1 (List.length X) cx fun i => encL X (0 + i)))
  (listT U8 (Td.fr 1 n cb fun i => encL B (k + i)))))
  1 fun i =>
  encL
  (fdL (boolD (Td.sc (Value.bool q)))
  (listT U8
  (Td.fr 1 (List.length X) cx fun i => encL X (0 + i)))
  (listT U8 (Td.fr 1 n cb fun i => encL B (k + i))))
  (0 + i)),
  Ta.cell
  (Td.fr 1
  (List.length
  (fdL (boolD (Td.sc (Value.bool q)))
  (listT U8
  (Td.fr 1 (List.length X) cy fun i => encL X (0 + i)))
  (listT U8 (Td.fr 1 n cb fun i => encL B (k + i)))))
  1 fun i =>
  encL
  (fdL (boolD (Td.sc (Value.bool q)))
  (listT U8
  (Td.fr 1 (List.length X) cy fun i => encL X (0 + i)))
  (listT U8 (Td.fr 1 n cb fun i => encL B (k + i))))
  (0 + i))])
  (br
  (!sameLs
  (listT Ld
  (Td.fr 1
  (List.length
  (fdL (boolD (Td.sc (Value.bool q)))
  (listT U8
  (Td.fr 1 (List.length X) cx fun i => encL X (0 + i)))
  (listT U8 (Td.fr 1 n cb fun i => encL B (k + i)))))
  1 fun i =>
  encL
  (fdL (boolD (Td.sc (Value.bool q)))
  (listT U8
  (Td.fr 1 (List.length X) cx fun i => encL X (0 + i)))
  (listT U8 (Td.fr 1 n cb fun i => encL B (k + i))))
  (0 + i)))
  (listT Ld
  (Td.fr 1
  (List.length
  (fdL (boolD (Td.sc (Value.bool q)))
  (listT U8
  (Td.fr 1 (List.length X) cy fun i => encL X (0 + i)))
  (listT U8 (Td.fr 1 n cb fun i => encL B (k + i)))))
  1 fun i =>
  encL
  (fdL (boolD (Td.sc (Value.bool q)))
  (listT U8
  (Td.fr 1 (List.length X) cy fun i => encL X (0 + i)))
  (listT U8 (Td.fr 1 n cb fun i => encL B (k + i))))
  (0 + i))))
  (onP N AX.ret (shpA1r l m false))
  (N AX.normal
  (mkF 117
  [(0,
  Value.slice (some (Addr.mk 0 0 (some 0)))
  (List.length l) c),
  (10, Value.slice (some (Addr.mk 2 0 (some k))) n cb),
  (11, Value.pointer (some (Addr.mk 3 0 none))),
  (12, Value.pointer (some (Addr.mk 5 0 none))),
  (13,
  Value.int IntKind.i64 (IntKind.wrap IntKind.i64 (i + (1 : Int))))])
  (mkS
  [some (AObj.row Rk.still 1 0 (List.length l) (encL l)),
  some (AObj.row Rk.still 1 0 (List.length m) (encL m)),
  some (AObj.row Rk.mine 1 0 (List.length B) (encL B)),
  some
  (AObj.cells
  [Value.slice (some (Addr.mk 4 0 (some 0)))
  (List.length
  (fdB (boolD (Td.sc (Value.bool q)))
  (listT U8
  (Td.fr 1 (List.length X) cx fun i =>
  encL X (0 + i)))
  (listT U8 (Td.fr 1 n cb fun i => encL B (k + i)))))
  (fdC (boolD (Td.sc (Value.bool q)))
  (listT U8
  (Td.fr 1 (List.length X) cx fun i =>
  encL X (0 + i)))
  cx (listT U8 (Td.fr 1 n cb fun i => encL B (k + i)))),
  Value.bool
  (fdQ (boolD (Td.sc (Value.bool q)))
  (listT U8
  (Td.fr 1 (List.length X) cx fun i =>
  encL X (0 + i)))
  (listT U8 (Td.fr 1 n cb fun i => encL B (k + i))))]
  true 0),
  some
  (AObj.row Rk.mine 1 0
  (List.length
  (fdB (boolD (Td.sc (Value.bool q)))
  (listT U8
  (Td.fr 1 (List.length X) cx fun i =>
  encL X (0 + i)))
  (listT U8 (Td.fr 1 n cb fun i => encL B (k + i)))))
  (encL
  (fdB (boolD (Td.sc (Value.bool q)))
  (listT U8
  (Td.fr 1 (List.length X) cx fun i =>
  encL X (0 + i)))
  (listT U8 (Td.fr 1 n cb fun i => encL B (k + i)))))),
  some
  (AObj.cells
  [Value.slice (some (Addr.mk 6 0 (some 0)))
  (List.length
  (fdB (boolD (Td.sc (Value.bool q)))
  (listT U8
  (Td.fr 1 (List.length X) cy fun i =>
  encL X (0 + i)))
  (listT U8 (Td.fr 1 n cb fun i => encL B (k + i)))))
  (frC (boolD (Td.sc (Value.bool q)))
  (listT U8
  (Td.fr 1 (List.length X) cy fun i =>
  encL X (0 + i)))
  (listT U8 (Td.fr 1 n cb fun i => encL B (k + i)))),
  Value.bool
  (fdQ (boolD (Td.sc (Value.bool q)))
  (listT U8
  (Td.fr 1 (List.length X) cy fun i =>
  encL X (0 + i)))
  (listT U8 (Td.fr 1 n cb fun i => encL B (k + i))))]
  true 0),
  some
  (AObj.row Rk.mine 1 0
  (List.length
  (fdB (boolD (Td.sc (Value.bool q)))
  (listT U8
  (Td.fr 1 (List.length X) cy fun i =>
  encL X (0 + i)))
  (listT U8 (Td.fr 1 n cb fun i => encL B (k + i)))))
  (encL
  (fdB (boolD (Td.sc (Value.bool q)))
  (listT U8
  (Td.fr 1 (List.length X) cy fun i =>
  encL X (0 + i)))
  (listT U8
  (Td.fr 1 n cb fun i => encL B (k + i))))))])))))))))))
  (onP N AX.ret (shpA1r l m false))))))))))
  (onP N (AX.exit 2) (shpA2 l m B X c k n cb cx cy q i))) := by kernel_rfl
end Go.Proofs.Ytdmagcdkklacdaa.Ev
