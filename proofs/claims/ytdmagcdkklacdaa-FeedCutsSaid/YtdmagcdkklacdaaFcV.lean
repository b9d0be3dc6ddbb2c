/-
  What has to hold: printed by the evaluator.
-/
import Derived.Test.YtdmagcdkklacdaaFdZ
set_option linter.unusedVariables false
set_option maxRecDepth 1000000
namespace Go.Proofs.Ytdmagcdkklacdaa.Ev
open Go Go.Proofs
def slC1 : List Nat := [0, 1, 2, 7]
def slC2 : List Nat := [0, 2, 8, 9, 10, 11, 12, 13]
def lvsC (b : Nat) : List Nat := cond (Nat.beq b 0) slC1 slC2
def lvC1 : AX → List Nat := fun x => match x with
  | .ret => [6]
  | _ => slC1
def lvC2 : AX → List Nat := fun x => match x with
  | .ret => [6]
  | _ => slC2
def FC1 (l : List Ld) (b m : List U8) (c d e : Nat) (i : Int) : AFr := mkF 114 [(0, .slice (some ⟨0, 0, some 0⟩) l.length c), (1, .slice (some ⟨1, 0, some 0⟩) b.length d), (2, .slice (some ⟨2, 0, some 0⟩) m.length e), (7, .int .i64 i)]
def SC1 (l : List Ld) (b m : List U8) : ASt := mkS [some (rowO .still l), some (rowO .still b), some (rowO .still m)]
def FC1r (q : Bool) : AFr := mkF 114 [(6, .bool q)]
structure CutP where
  T : List U8
  k : Nat
  n : Nat
  cb : Nat
  X : List U8
  cx : Nat
  q : Bool
  A : List Ld
  Y : List U8
  cy : Nat
  r : Bool
  P : List Ld
def FC2 (l : List Ld) (m : List U8) (c e : Nat) (p : CutP) (i : Int) : AFr := mkF 114 [(0, .slice (some ⟨0, 0, some 0⟩) l.length c), (2, .slice (some ⟨2, 0, some 0⟩) m.length e), (8, .slice (some ⟨3, 0, some p.k⟩) p.n p.cb), (9, .pointer (some ⟨4, 0, none⟩)), (10, .slice (some ⟨6, 0, some 0⟩) p.A.length 1), (11, .pointer (some ⟨7, 0, none⟩)), (12, .slice (some ⟨9, 0, some 0⟩) p.P.length 1), (13, .int .i64 i)]
def SC2 (l : List Ld) (b m : List U8) (p : CutP) : ASt := mkS [some (rowO .still l), some (rowO .still b), some (rowO .still m), some (rowO .mine p.T), some (.cells [.slice (some ⟨5, 0, some 0⟩) p.X.length p.cx, .bool p.q] true 0), some (rowO .mine p.X), some (rowO .mine p.A), some (.cells [.slice (some ⟨8, 0, some 0⟩) p.Y.length p.cy, .bool p.r] true 0), some (rowO .mine p.Y), some (rowO .mine p.P)]
def GoodC (l : List Ld) (p : CutP) : Prop := p.X = p.Y ∧ p.q = p.r ∧ p.A = p.P ∧ l.length ≤ p.A.length ∧ (p.A.take l.length).map Ld.l = l.map Ld.l ∧ p.A.all (okA Ld) = true ∧ p.A.length ≤ 1000000 ∧ p.X.all (okA U8) = true
def exC (l : List Ld) (b m : List U8) (c d e : Nat) : Nat → Kt → Prop := fun x K => cond (Nat.beq x 0) ((l.all fit40 = true → K (.exit x) (FC1 l b m c d e l.length) (SC1 l b m)) ∧ K .ret (FC1r true) (SC1 l b m)) (∀ p : CutP, GoodC l p → K (.exit x) (FC2 l m c e p (m.length + 1)) (SC2 l b m p))
def shpC1 (l : List Ld) (b m : List U8) (c d e : Nat) (i' : Int) : AFr × ASt := (FC1 l b m c d e i', SC1 l b m)
def shpC1r (l : List Ld) (b m : List U8) (q' : Bool) : AFr × ASt := (FC1r q', SC1 l b m)
def shpC2 (l : List Ld) (b m : List U8) (c e : Nat) (p : CutP) (i' : Int) : AFr × ASt := (FC2 l m c e p i', SC2 l b m p)
theorem vc_fc (l : List Ld) (b m : List U8) (c d e : Nat) (β : Bs) : lawE Try.prog toldG 100 20 β (fun _ => 0) (cnOf 3 lvsC) (exC l b m c d e) 4 [.slice (some ⟨0, 0, some 0⟩) l.length c, .slice (some ⟨1, 0, some 0⟩) b.length d, .slice (some ⟨2, 0, some 0⟩) m.length e] (mkS [some (rowO .still l), some (rowO .still b), some (rowO .still m)]) trueE =
(  br (decide (Int.ofNat (List.length l) > (4 : Int))) True
  (br (decide (Int.ofNat (List.length b) > (100 : Int))) True
  (br (decide (Int.ofNat (List.length m) > (20 : Int))) True
  (LoopJ Try.prog β (exC l b m c d e) 0 (loopOf Try.prog 4 0) (FC1 l b m c d e (0 : Int))
  (SC1 l b m) ∧
  (List.all l fit40 = true →
  need (true && Nat.ble (0 + List.length l) (List.length l))
  (need
  (ok1 Ld (fun l x => List.all l (okA Ld) && Nat.ble (List.length l) 1000)
  [Ta.cell (Td.fr 1 (List.length l) c fun i => encL l (0 + i))])
  (need (true && Nat.ble (0 + List.length b) (List.length b))
  (need
  (Nat.ble
  (List.length
  (loadsN (listT Ld (Td.fr 1 (List.length l) c fun i => encL l (0 + i)))
  (List.length
  (listT Ld (Td.fr 1 (List.length l) c fun i => encL l (0 + i))))) +
  List.length b)
  1000000)
  (need
  (true &&
  Nat.ble
  (0 +
  List.length
  (loadsN (listT Ld (Td.fr 1 (List.length l) c fun i => encL l (0 + i)))
  (List.length
  (listT Ld (Td.fr 1 (List.length l) c fun i => encL l (0 + i))))))
  (List.length
  (loadsN (listT Ld (Td.fr 1 (List.length l) c fun i => encL l (0 + i)))
  (List.length
  (listT Ld (Td.fr 1 (List.length l) c fun i => encL l (0 + i)))))))
  (need
  (true &&
  Nat.ble
  (0 +
  (List.length
  (loadsN (listT Ld (Td.fr 1 (List.length l) c fun i => encL l (0 + i)))
  (List.length
  (listT Ld (Td.fr 1 (List.length l) c fun i => encL l (0 + i))))) +
  List.length b))
  (List.length
  (loadsN (listT Ld (Td.fr 1 (List.length l) c fun i => encL l (0 + i)))
  (List.length
  (listT Ld (Td.fr 1 (List.length l) c fun i => encL l (0 + i))))) +
  List.length b))
  (need
  (okFd
  [Ta.agg [Td.fr 0 0 1 noT, Td.sc (Value.bool false)],
  Ta.cell
  (Td.fr 1
  (List.length
  (loadsN
  (listT Ld (Td.fr 1 (List.length l) c fun i => encL l (0 + i)))
  (List.length
  (listT Ld
  (Td.fr 1 (List.length l) c fun i => encL l (0 + i))))) +
  List.length b)
  1 fun i k =>
  mrgT
  (Nat.blt (0 + i)
  (List.length
  (loadsN
  (listT Ld (Td.fr 1 (List.length l) c fun i => encL l (0 + i)))
  (List.length
  (listT Ld
  (Td.fr 1 (List.length l) c fun i => encL l (0 + i)))))))
  (encL
  (loadsN
  (listT Ld (Td.fr 1 (List.length l) c fun i => encL l (0 + i)))
  (List.length
  (listT Ld
  (Td.fr 1 (List.length l) c fun i => encL l (0 + i)))))
  (0 + (0 + i)) k)
  (encL b
  (0 +
  (0 + i -
  List.length
  (loadsN
  (listT Ld
  (Td.fr 1 (List.length l) c fun i => encL l (0 + i)))
  (List.length
  (listT Ld
  (Td.fr 1 (List.length l) c fun i =>
  encL l (0 + i)))))))
  k))])
  (LoopJ Try.prog β (exC l b m c d e) 2 (loopOf Try.prog 4 2)
  (mkF 114
  [(0,
  Value.slice (some (Addr.mk 0 0 (some 0))) (List.length l)
  c),
  (2,
  Value.slice (some (Addr.mk 2 0 (some 0))) (List.length m)
  e),
  (8,
  Value.slice (some (Addr.mk 3 0 (some 0)))
  (List.length
  (loadsN
  (listT Ld
  (Td.fr 1 (List.length l) c fun i => encL l (0 + i)))
  (List.length
  (listT Ld
  (Td.fr 1 (List.length l) c fun i => encL l (0 + i))))) +
  List.length b)
  1),
  (9, Value.pointer (some (Addr.mk 4 0 none))),
  (10,
  Value.slice (some (Addr.mk 6 0 (some 0)))
  (List.length
  (fdL false []
  (listT U8
  (Td.fr 1
  (List.length
  (loadsN
  (listT Ld
  (Td.fr 1 (List.length l) c fun i =>
  encL l (0 + i)))
  (List.length
  (listT Ld
  (Td.fr 1 (List.length l) c fun i =>
  encL l (0 + i))))) +
  List.length b)
  1 fun i k =>
  mrgT
  (Nat.blt (0 + i)
  (List.length
  (loadsN
  (listT Ld
  (Td.fr 1 (List.length l) c fun i =>
  encL l (0 + i)))
  (List.length
  (listT Ld
  (Td.fr 1 (List.length l) c fun i =>
  encL l (0 + i)))))))
  (encL
  (loadsN
  (listT Ld
  (Td.fr 1 (List.length l) c fun i =>
  encL l (0 + i)))
  (List.length
  (listT Ld
  (Td.fr 1 (List.length l) c fun i =>
  encL l (0 + i)))))
  (0 + (0 + i)) k)
  (encL b
  (0 +
  (0 + i -
  List.length
  (loadsN
  (listT Ld
  (Td.fr 1 (List.length l) c fun i =>
  encL l (0 + i)))
  (List.length
  (listT Ld
  (Td.fr 1 (List.length l) c fun i =>
  encL l (0 + i)))))))
  k)))))
  1),
  (11, Value.pointer (some (Addr.mk 7 0 none))),
  (12, Value.slice none 0 0),
  (13, Value.int IntKind.i64 (0 : Int))])
  (mkS
  [some (AObj.row Rk.still 1 0 (List.length l) (encL l)),
  some (AObj.row Rk.still 1 0 (List.length b) (encL b)),
  some (AObj.row Rk.still 1 0 (List.length m) (encL m)),
  some
  (AObj.row Rk.mine 1 0
  (List.length
  (loadsN
  (listT Ld
  (Td.fr 1 (List.length l) c fun i => encL l (0 + i)))
  (List.length
  (listT Ld
  (Td.fr 1 (List.length l) c fun i => encL l (0 + i))))) +
  List.length b)
  fun j k =>
  mrgT
  (Nat.blt j
  (List.length
  (loadsN
  (listT Ld
  (Td.fr 1 (List.length l) c fun i => encL l (0 + i)))
  (List.length
  (listT Ld
  (Td.fr 1 (List.length l) c fun i =>
  encL l (0 + i)))))))
  (encL
  (loadsN
  (listT Ld
  (Td.fr 1 (List.length l) c fun i => encL l (0 + i)))
  (List.length
  (listT Ld
  (Td.fr 1 (List.length l) c fun i => encL l (0 + i)))))
  (0 + j) k)
  (encL b
  (0 +
  (j -
  List.length
  (loadsN
  (listT Ld
  (Td.fr 1 (List.length l) c fun i => encL l (0 + i)))
  (List.length
  (listT Ld
  (Td.fr 1 (List.length l) c fun i =>
  encL l (0 + i)))))))
  k)),
  some
  (AObj.cells
  [Value.slice (some (Addr.mk 5 0 (some 0)))
  (List.length
  (fdB false []
  (listT U8
  (Td.fr 1
  (List.length
  (loadsN
  (listT Ld
  (Td.fr 1 (List.length l) c fun i =>
  encL l (0 + i)))
  (List.length
  (listT Ld
  (Td.fr 1 (List.length l) c fun i =>
  encL l (0 + i))))) +
  List.length b)
  1 fun i k =>
  mrgT
  (Nat.blt (0 + i)
  (List.length
  (loadsN
  (listT Ld
  (Td.fr 1 (List.length l) c fun i =>
  encL l (0 + i)))
  (List.length
  (listT Ld
  (Td.fr 1 (List.length l) c fun i =>
  encL l (0 + i)))))))
  (encL
  (loadsN
  (listT Ld
  (Td.fr 1 (List.length l) c fun i =>
  encL l (0 + i)))
  (List.length
  (listT Ld
  (Td.fr 1 (List.length l) c fun i =>
  encL l (0 + i)))))
  (0 + (0 + i)) k)
  (encL b
  (0 +
  (0 + i -
  List.length
  (loadsN
  (listT Ld
  (Td.fr 1 (List.length l) c fun i =>
  encL l (0 + i)))
  (List.length
  (listT Ld
  (Td.fr 1 (List.length l) c fun i =>
  encL l (0 + i)))))))
  k)))))
  (fdC false [] 1
  (listT U8
  (Td.fr 1
  (List.length
  (loadsN
  (listT Ld
  (Td.fr 1 (List.length l) c fun i =>
  encL l (0 + i)))
  (List.length
  (listT Ld
  (Td.fr 1 (List.length l) c fun i =>
  encL l (0 + i))))) +
  List.length b)
  1 fun i k =>
  mrgT
  (Nat.blt (0 + i)
  (List.length
  (loadsN
  (listT Ld
  (Td.fr 1 (List.length l) c fun i =>
  encL l (0 + i)))
  (List.length
  (listT Ld
  (Td.fr 1 (List.length l) c fun i =>
  encL l (0 + i)))))))
  (encL
  (loadsN
  (listT Ld
  (Td.fr 1 (List.length l) c fun i =>
  encL l (0 + i)))
  (List.length
  (listT Ld
  (Td.fr 1 (List.length l) c fun i =>
  encL l (0 + i)))))
  (0 + (0 + i)) k)
  (encL b
  (0 +
  (0 + i -
  List.length
  (loadsN
  (listT Ld
  (Td.fr 1 (List.length l) c fun i =>
  encL l (0 + i)))
  (List.length
  (listT Ld
  (Td.fr 1 (List.length l) c fun i =>
  encL l (0 + i)))))))
  k)))),
  Value.bool
  (fdQ false []
  (listT U8
  (Td.fr 1
  (List.length
  (loadsN
  (listT Ld
  (Td.fr 1 (List.length l) c fun i =>
  encL l (0 + i)))
  (List.length
  (listT Ld
  (Td.fr 1 (List.length l) c fun i =>
  encL l (0 + i))))) +
  List.length b)
  1 fun i k =>
  mrgT
  (Nat.blt (0 + i)
  (List.length
  (loadsN
  (listT Ld
  (Td.fr 1 (List.length l) c fun i =>
  encL l (0 + i)))
  (List.length
  (listT Ld
  (Td.fr 1 (List.length l) c fun i =>
  encL l (0 + i)))))))
  (encL
  (loadsN
  (listT Ld
  (Td.fr 1 (List.length l) c fun i =>
  encL l (0 + i)))
  (List.length
  (listT Ld
  (Td.fr 1 (List.length l) c fun i =>
  encL l (0 + i)))))
  (0 + (0 + i)) k)
  (encL b
  (0 +
  (0 + i -
  List.length
  (loadsN
  (listT Ld
  (Td.fr 1 (List.length l) c fun i =>
  encL l (0 + i)))
  (List.length
  (listT Ld
  (Td.fr 1 (List.length l) c fun i =>
  encL l (0 + i)))))))
  k))))]
  true 0),
  some
  (AObj.row Rk.mine 1 0
  (List.length
  (fdB false []
  (listT U8
  (Td.fr 1
  (List.length
  (loadsN
  (listT Ld
  (Td.fr 1 (List.length l) c fun i =>
  encL l (0 + i)))
  (List.length
  (listT Ld
  (Td.fr 1 (List.length l) c fun i =>
  encL l (0 + i))))) +
  List.length b)
  1 fun i k =>
  mrgT
  (Nat.blt (0 + i)
  (List.length
  (loadsN
  (listT Ld
  (Td.fr 1 (List.length l) c fun i =>
  encL l (0 + i)))
  (List.length
  (listT Ld
  (Td.fr 1 (List.length l) c fun i =>
  encL l (0 + i)))))))
  (encL
  (loadsN
  (listT Ld
  (Td.fr 1 (List.length l) c fun i =>
  encL l (0 + i)))
  (List.length
  (listT Ld
  (Td.fr 1 (List.length l) c fun i =>
  encL l (0 + i)))))
  (0 + (0 + i)) k)
  (encL b
  (0 +
  (0 + i -
  List.length
  (loadsN
  (listT Ld
  (Td.fr 1 (List.length l) c fun i =>
  encL l (0 + i)))
  (List.length
  (listT Ld
  (Td.fr 1 (List.length l) c fun i =>
  encL l (0 + i)))))))
  k)))))
  (encL
  (fdB false []
  (listT U8
  (Td.fr 1
  (List.length
  (loadsN
  (listT Ld
  (Td.fr 1 (List.length l) c fun i =>
  encL l (0 + i)))
  (List.length
  (listT Ld
  (Td.fr 1 (List.length l) c fun i =>
  encL l (0 + i))))) +
  List.length b)
  1 fun i k =>
  mrgT
  (Nat.blt (0 + i)
  (List.length
  (loadsN
  (listT Ld
  (Td.fr 1 (List.length l) c fun i =>
  encL l (0 + i)))
  (List.length
  (listT Ld
  (Td.fr 1 (List.length l) c fun i =>
  encL l (0 + i)))))))
  (encL
  (loadsN
  (listT Ld
  (Td.fr 1 (List.length l) c fun i =>
  encL l (0 + i)))
  (List.length
  (listT Ld
  (Td.fr 1 (List.length l) c fun i =>
  encL l (0 + i)))))
  (0 + (0 + i)) k)
  (encL b
  (0 +
  (0 + i -
  List.length
  (loadsN
  (listT Ld
  (Td.fr 1 (List.length l) c fun i =>
  encL l (0 + i)))
  (List.length
  (listT Ld
  (Td.fr 1 (List.length l) c fun i =>
  encL l (0 + i)))))))
  k)))))),
  some
  (AObj.row Rk.mine 1 0
  (List.length
  (fdL false []
  (listT U8
  (Td.fr 1
  (List.length
  (loadsN
  (listT Ld
  (Td.fr 1 (List.length l) c fun i =>
  encL l (0 + i)))
  (List.length
  (listT Ld
  (Td.fr 1 (List.length l) c fun i =>
  encL l (0 + i))))) +
  List.length b)
  1 fun i k =>
  mrgT
  (Nat.blt (0 + i)
  (List.length
  (loadsN
  (listT Ld
  (Td.fr 1 (List.length l) c fun i =>
  encL l (0 + i)))
  (List.length
  (listT Ld
  (Td.fr 1 (List.length l) c fun i =>
  encL l (0 + i)))))))
  (encL
  (loadsN
  (listT Ld
  (Td.fr 1 (List.length l) c fun i =>
  encL l (0 + i)))
  (List.length
  (listT Ld
  (Td.fr 1 (List.length l) c fun i =>
  encL l (0 + i)))))
  (0 + (0 + i)) k)
  (encL b
  (0 +
  (0 + i -
  List.length
  (loadsN
  (listT Ld
  (Td.fr 1 (List.length l) c fun i =>
  encL l (0 + i)))
  (List.length
  (listT Ld
  (Td.fr 1 (List.length l) c fun i =>
  encL l (0 + i)))))))
  k)))))
  (encL
  (fdL false []
  (listT U8
  (Td.fr 1
  (List.length
  (loadsN
  (listT Ld
  (Td.fr 1 (List.length l) c fun i =>
  encL l (0 + i)))
  (List.length
  (listT Ld
  (Td.fr 1 (List.length l) c fun i =>
  encL l (0 + i))))) +
  List.length b)
  1 fun i k =>
  mrgT
  (Nat.blt (0 + i)
  (List.length
  (loadsN
  (listT Ld
  (Td.fr 1 (List.length l) c fun i =>
  encL l (0 + i)))
  (List.length
  (listT Ld
  (Td.fr 1 (List.length l) c fun i =>
  encL l (0 + i)))))))
  (encL
  (loadsN
  (listT Ld
  (Td.fr 1 (List.length l) c fun i =>
  encL l (0 + i)))
  (List.length
  (listT Ld
  (Td.fr 1 (List.length l) c fun i =>
  encL l (0 + i)))))
  (0 + (0 + i)) k)
  (encL b
  (0 +
  (0 + i -
  List.length
  (loadsN
  (listT Ld
  (Td.fr 1 (List.length l) c fun i =>
  encL l (0 + i)))
  (List.length
  (listT Ld
  (Td.fr 1 (List.length l) c fun i =>
  encL l (0 + i)))))))
  k)))))),
  some
  (AObj.cells [Value.slice none 0 0, Value.bool false] true
  0)]) ∧
  ∀ (p : CutP),
  GoodC l p →
  br (decide (Int.ofNat (List.length (CutP.A p)) < Int.ofNat (List.length l))) False
  (need (CutP.q p == CutP.r p)
  (need
  (true && Nat.ble (0 + List.length (CutP.X p)) (List.length (CutP.X p)))
  (need (allB (List.length (CutP.X p)) fun j => encL (CutP.X p) (0 + j))
  (need
  (true &&
  Nat.ble (0 + List.length (CutP.Y p)) (List.length (CutP.Y p)))
  (need (allB (List.length (CutP.Y p)) fun j => encL (CutP.Y p) (0 + j))
  (br
  (!List.map (fun j => byteF (encL (CutP.X p) (0 + j) 0))
  (List.range (List.length (CutP.X p))) ==
  List.map (fun j => byteF (encL (CutP.Y p) (0 + j) 0))
  (List.range (List.length (CutP.Y p))))
  False
  (need
  (true &&
  Nat.ble (0 + List.length (CutP.A p)) (List.length (CutP.A p)))
  (need
  (true &&
  Nat.ble (0 + List.length (CutP.P p))
  (List.length (CutP.P p)))
  (need
  (ok2 Ld Ld
  (fun l x m x_1 => List.all l (okA Ld) && List.all m (okA Ld))
  [Ta.cell
  (Td.fr 1 (List.length (CutP.A p)) 1 fun i =>
  encL (CutP.A p) (0 + i)),
  Ta.cell
  (Td.fr 1 (List.length (CutP.P p)) 1 fun i =>
  encL (CutP.P p) (0 + i))])
  (br
  (!sameLs
  (listT Ld
  (Td.fr 1 (List.length (CutP.A p)) 1 fun i =>
  encL (CutP.A p) (0 + i)))
  (listT Ld
  (Td.fr 1 (List.length (CutP.P p)) 1 fun i =>
  encL (CutP.P p) (0 + i))))
  False
  (need
  (Nat.ble (Int.toNat (Int.ofNat (List.length l)))
  (List.length (CutP.A p)))
  (need
  (true &&
  Nat.ble
  (0 +
  (Int.toNat (Int.ofNat (List.length l)) - 0))
  (List.length (CutP.A p)))
  (need
  (true &&
  Nat.ble (0 + List.length l) (List.length l))
  (need
  (ok2 Ld Ld
  (fun l x m x_1 =>
  List.all l (okA Ld) && List.all m (okA Ld))
  [Ta.cell
  (Td.fr 1
  (Int.toNat (Int.ofNat (List.length l)) -
  0)
  (bif
  Nat.beq (List.length (CutP.A p))
  0 then
  1
  else 0)
  fun i => encL (CutP.A p) (0 + i)),
  Ta.cell
  (Td.fr 1 (List.length l) c fun i =>
  encL l (0 + i))])
  (need
  (sameLs
  (listT Ld
  (Td.fr 1
  (Int.toNat (Int.ofNat (List.length l)) -
  0)
  (bif
  Nat.beq (List.length (CutP.A p))
  0 then
  1
  else 0)
  fun i => encL (CutP.A p) (0 + i)))
  (listT Ld
  (Td.fr 1 (List.length l) c fun i =>
  encL l (0 + i))))
  True))))))))))))))))))))))) ∧
  True)))) := by kernel_rfl
theorem vc_fc1_r (l : List Ld) (b m : List U8) (c d e : Nat) (i : Int) (β : Bs) (N : Kt) (ex : Nat → Kt → Prop) : roundJ Try.prog toldG 100 20 β (fun _ => 0) (cnOf 3 lvsC) ex 4 0 3 lvC1 (FC1 l b m c d e i) (SC1 l b m) N =
(  br (decide (i < Int.ofNat (List.length l)))
  (need (decide ((0 : Int) ≤ i))
  (need (Nat.blt (Int.toNat i) (List.length l))
  (need (Nat.ble 0 (0 + Int.toNat i) && Nat.blt (0 + Int.toNat i) (List.length l))
  (br (decide (Int.ofNat (List.length (Ld.l (List.getD l (0 + Int.toNat i) Enc.dflt))) > (40 : Int)))
  (onP N AX.ret (shpC1r l b m true))
  (onP N AX.normal (shpC1 l b m c d e (IntKind.wrap IntKind.i64 (i + (1 : Int)))))))))
  (onP N (AX.exit 0) (shpC1 l b m c d e i))) := by kernel_rfl
theorem vc_fc2_r (l : List Ld) (b m : List U8) (c e : Nat) (p : CutP) (i : Int) (β : Bs) (N : Kt) (ex : Nat → Kt → Prop) : roundJ Try.prog toldG 100 20 β (fun _ => 0) (cnOf 3 lvsC) ex 4 2 3 lvC2 (FC2 l m c e p i) (SC2 l b m p) N =
(  br (decide (i ≤ Int.ofNat (List.length m)))
  (br (decide (i < Int.ofNat (List.length m)))
  (need (decide ((0 : Int) ≤ i))
  (need (Nat.blt (Int.toNat i) (List.length m))
  (need (Nat.ble 0 (0 + Int.toNat i) && Nat.blt (0 + Int.toNat i) (List.length m))
  (need
  (decide
  ((0 : Int) ≤
  if
  Int.ofNat (CutP.n p) <
  IntKind.wrap IntKind.i64
  (Int.tmod (U8.v (List.getD m (0 + Int.toNat i) Enc.dflt)) (30 : Int)) then
  Int.ofNat (CutP.n p)
  else
  IntKind.wrap IntKind.i64
  (Int.tmod (U8.v (List.getD m (0 + Int.toNat i) Enc.dflt)) (30 : Int))))
  (need
  (Nat.ble
  (Int.toNat
  (if
  Int.ofNat (CutP.n p) <
  IntKind.wrap IntKind.i64
  (Int.tmod (U8.v (List.getD m (0 + Int.toNat i) Enc.dflt)) (30 : Int)) then
  Int.ofNat (CutP.n p)
  else
  IntKind.wrap IntKind.i64
  (Int.tmod (U8.v (List.getD m (0 + Int.toNat i) Enc.dflt)) (30 : Int))))
  (CutP.n p))
  (need (true && Nat.ble (0 + List.length (CutP.Y p)) (List.length (CutP.Y p)))
  (need
  (Nat.ble 0 (CutP.k p + 0) &&
  Nat.ble
  (CutP.k p + 0 +
  (Int.toNat
  (if
  Int.ofNat (CutP.n p) <
  IntKind.wrap IntKind.i64
  (Int.tmod (U8.v (List.getD m (0 + Int.toNat i) Enc.dflt)) (30 : Int)) then
  Int.ofNat (CutP.n p)
  else
  IntKind.wrap IntKind.i64
  (Int.tmod (U8.v (List.getD m (0 + Int.toNat i) Enc.dflt)) (30 : Int))) -
  0))
  (List.length (CutP.T p)))
  (need
  (okFd
  [Ta.agg
  [Td.fr 1 (List.length (CutP.Y p)) (CutP.cy p) fun i =>
  encL (CutP.Y p) (0 + i),
  Td.sc (Value.bool (CutP.r p))],
  Ta.cell
  (Td.fr 1
  (Int.toNat
  (if
  Int.ofNat (CutP.n p) <
  IntKind.wrap IntKind.i64
  (Int.tmod (U8.v (List.getD m (0 + Int.toNat i) Enc.dflt))
  (30 : Int)) then
  Int.ofNat (CutP.n p)
  else
  IntKind.wrap IntKind.i64
  (Int.tmod (U8.v (List.getD m (0 + Int.toNat i) Enc.dflt)) (30 : Int))) -
  0)
  (bif Nat.beq (CutP.n p) 0 then CutP.cb p else 0) fun i =>
  encL (CutP.T p) (CutP.k p + 0 + i))])
  (need
  (true &&
  Nat.ble
  (0 +
  List.length
  (fdL (boolD (Td.sc (Value.bool (CutP.r p))))
  (listT U8
  (Td.fr 1 (List.length (CutP.Y p)) (CutP.cy p) fun i =>
  encL (CutP.Y p) (0 + i)))
  (listT U8
  (Td.fr 1
  (Int.toNat
  (if
  Int.ofNat (CutP.n p) <
  IntKind.wrap IntKind.i64
  (Int.tmod (U8.v (List.getD m (0 + Int.toNat i) Enc.dflt))
  (30 : Int)) then
  Int.ofNat (CutP.n p)
  else
  IntKind.wrap IntKind.i64
  (Int.tmod (U8.v (List.getD m (0 + Int.toNat i) Enc.dflt))
  (30 : Int))) -
  0)
  (bif Nat.beq (CutP.n p) 0 then CutP.cb p else 0) fun i =>
  encL (CutP.T p) (CutP.k p + 0 + i)))))
  (List.length
  (fdL (boolD (Td.sc (Value.bool (CutP.r p))))
  (listT U8
  (Td.fr 1 (List.length (CutP.Y p)) (CutP.cy p) fun i =>
  encL (CutP.Y p) (0 + i)))
  (listT U8
  (Td.fr 1
  (Int.toNat
  (if
  Int.ofNat (CutP.n p) <
  IntKind.wrap IntKind.i64
  (Int.tmod (U8.v (List.getD m (0 + Int.toNat i) Enc.dflt))
  (30 : Int)) then
  Int.ofNat (CutP.n p)
  else
  IntKind.wrap IntKind.i64
  (Int.tmod (U8.v (List.getD m (0 + Int.toNat i) Enc.dflt))
  (30 : Int))) -
  0)
  (bif Nat.beq (CutP.n p) 0 then CutP.cb p else 0) fun i =>
  encL (CutP.T p) (CutP.k p + 0 + i))))))
  (need
  (Nat.ble
  (List.length (CutP.P p) +
  List.length
  (fdL (boolD (Td.sc (Value.bool (CutP.r p))))
  (listT U8
  (Td.fr 1 (List.length (CutP.Y p)) (CutP.cy p) fun i =>
  encL (CutP.Y p) (0 + i)))
  (listT U8
  (Td.fr 1
  (Int.toNat
  (if
  Int.ofNat (CutP.n p) <
  IntKind.wrap IntKind.i64
  (Int.tmod (U8.v (List.getD m (0 + Int.toNat i) Enc.dflt))
  (30 : Int)) then
  Int.ofNat (CutP.n p)
  else
  IntKind.wrap IntKind.i64
  (Int.tmod (U8.v (List.getD m (0 + Int.toNat i) Enc.dflt))
  (30 : Int))) -
  0)
  (bif Nat.beq (CutP.n p) 0 then CutP.cb p else 0) fun i =>
  encL (CutP.T p) (CutP.k p + 0 + i)))))
  1000000)
  (need (true && Nat.ble (0 + List.length (CutP.P p)) (List.length (CutP.P p)))
  (need
  (decide
  ((0 : Int) ≤
  if
  Int.ofNat (CutP.n p) <
  IntKind.wrap IntKind.i64
  (Int.tmod (U8.v (List.getD m (0 + Int.toNat i) Enc.dflt))
  (30 : Int)) then
  Int.ofNat (CutP.n p)
  else
  IntKind.wrap IntKind.i64
  (Int.tmod (U8.v (List.getD m (0 + Int.toNat i) Enc.dflt)) (30 : Int))))
  (need
  (Nat.ble
  (Int.toNat
  (if
  Int.ofNat (CutP.n p) <
  IntKind.wrap IntKind.i64
  (Int.tmod (U8.v (List.getD m (0 + Int.toNat i) Enc.dflt))
  (30 : Int)) then
  Int.ofNat (CutP.n p)
  else
  IntKind.wrap IntKind.i64
  (Int.tmod (U8.v (List.getD m (0 + Int.toNat i) Enc.dflt)) (30 : Int))))
  (CutP.n p))
  (N AX.normal
  (mkF 114
  [(0,
  Value.slice (some (Addr.mk 0 0 (some 0))) (List.length l)
  c),
  (2,
  Value.slice (some (Addr.mk 2 0 (some 0))) (List.length m)
  e),
  (8,
  Value.slice
  (some
  (Addr.mk 3 0
  (some
  (CutP.k p +
  Int.toNat
  (if
  Int.ofNat (CutP.n p) <
  IntKind.wrap IntKind.i64
  (Int.tmod
  (U8.v (List.getD m (0 + Int.toNat i) Enc.dflt))
  (30 : Int)) then
  Int.ofNat (CutP.n p)
  else
  IntKind.wrap IntKind.i64
  (Int.tmod (U8.v (List.getD m (0 + Int.toNat i) Enc.dflt))
  (30 : Int)))))))
  (CutP.n p -
  Int.toNat
  (if
  Int.ofNat (CutP.n p) <
  IntKind.wrap IntKind.i64
  (Int.tmod (U8.v (List.getD m (0 + Int.toNat i) Enc.dflt))
  (30 : Int)) then
  Int.ofNat (CutP.n p)
  else
  IntKind.wrap IntKind.i64
  (Int.tmod (U8.v (List.getD m (0 + Int.toNat i) Enc.dflt))
  (30 : Int))))
  (bif Nat.beq (CutP.n p) 0 then CutP.cb p else 0)),
  (9, Value.pointer (some (Addr.mk 4 0 none))),
  (10,
  Value.slice (some (Addr.mk 6 0 (some 0)))
  (List.length (CutP.A p)) 1),
  (11, Value.pointer (some (Addr.mk 7 0 none))),
  (12,
  Value.slice (some (Addr.mk 9 0 (some 0)))
  (List.length (CutP.P p) +
  List.length
  (fdL (boolD (Td.sc (Value.bool (CutP.r p))))
  (listT U8
  (Td.fr 1 (List.length (CutP.Y p)) (CutP.cy p) fun i =>
  encL (CutP.Y p) (0 + i)))
  (listT U8
  (Td.fr 1
  (Int.toNat
  (if
  Int.ofNat (CutP.n p) <
  IntKind.wrap IntKind.i64
  (Int.tmod
  (U8.v (List.getD m (0 + Int.toNat i) Enc.dflt))
  (30 : Int)) then
  Int.ofNat (CutP.n p)
  else
  IntKind.wrap IntKind.i64
  (Int.tmod
  (U8.v (List.getD m (0 + Int.toNat i) Enc.dflt))
  (30 : Int))) -
  0)
  (bif Nat.beq (CutP.n p) 0 then CutP.cb p else 0)
  fun i => encL (CutP.T p) (CutP.k p + 0 + i)))))
  1),
  (13, Value.int IntKind.i64 (IntKind.wrap IntKind.i64 (i + (1 : Int))))])
  (mkS
  [some (AObj.row Rk.still 1 0 (List.length l) (encL l)),
  some (AObj.row Rk.still 1 0 (List.length b) (encL b)),
  some (AObj.row Rk.still 1 0 (List.length m) (encL m)),
  some
  (AObj.row Rk.mine 1 0 (List.length (CutP.T p)) (encL (CutP.T p))),
  some
  (AObj.cells
  [Value.slice (some (Addr.mk 5 0 (some 0)))
  (List.length (CutP.X p)) (CutP.cx p),
  Value.bool (CutP.q p)]
  true 0),
  some
  (AObj.row Rk.mine 1 0 (List.length (CutP.X p)) (encL (CutP.X p))),
  some
  (AObj.row Rk.mine 1 0 (List.length (CutP.A p)) (encL (CutP.A p))),
  some
  (AObj.cells
  [Value.slice (some (Addr.mk 8 0 (some 0)))
  (List.length
  (fdB (boolD (Td.sc (Value.bool (CutP.r p))))
  (listT U8
  (Td.fr 1 (List.length (CutP.Y p)) (CutP.cy p) fun i =>
  encL (CutP.Y p) (0 + i)))
  (listT U8
  (Td.fr 1
  (Int.toNat
  (if
  Int.ofNat (CutP.n p) <
  IntKind.wrap IntKind.i64
  (Int.tmod
  (U8.v
  (List.getD m (0 + Int.toNat i) Enc.dflt))
  (30 : Int)) then
  Int.ofNat (CutP.n p)
  else
  IntKind.wrap IntKind.i64
  (Int.tmod
  (U8.v (List.getD m (0 + Int.toNat i) Enc.dflt))
  (30 : Int))) -
  0)
  (bif Nat.beq (CutP.n p) 0 then CutP.cb p else 0)
  fun i => encL (CutP.T p) (CutP.k p + 0 + i)))))
  (fdC (boolD (Td.sc (Value.bool (CutP.r p))))
  (listT U8
  (Td.fr 1 (List.length (CutP.Y p)) (CutP.cy p) fun i =>
  encL (CutP.Y p) (0 + i)))
  (CutP.cy p)
  (listT U8
  (Td.fr 1
  (Int.toNat
  (if
  Int.ofNat (CutP.n p) <
  IntKind.wrap IntKind.i64
  (Int.tmod
  (U8.v (List.getD m (0 + Int.toNat i) Enc.dflt))
  (30 : Int)) then
  Int.ofNat (CutP.n p)
  else
  IntKind.wrap IntKind.i64
  (Int.tmod
  (U8.v (List.getD m (0 + Int.toNat i) Enc.dflt))
  (30 : Int))) -
  0)
  (bif Nat.beq (CutP.n p) 0 then CutP.cb p else 0)
  fun i => encL (CutP.T p) (CutP.k p + 0 + i)))),
  Value.bool
  (fdQ (boolD (Td.sc (Value.bool (CutP.r p))))
  (listT U8
  (Td.fr 1 (List.length (CutP.Y p)) (CutP.cy p) fun i =>
  encL (CutP.Y p) (0 + i)))
  (listT U8
  (Td.fr 1
  (Int.toNat
  (if
  Int.ofNat (CutP.n p) <
  IntKind.wrap IntKind.i64
  (Int.tmod
  (U8.v (List.getD m (0 + Int.toNat i) Enc.dflt))
  (30 : Int)) then
  Int.ofNat (CutP.n p)
  else
  IntKind.wrap IntKind.i64
  (Int.tmod
  (U8.v (List.getD m (0 + Int.toNat i) Enc.dflt))
  (30 : Int))) -
  0)
  (bif Nat.beq (CutP.n p) 0 then CutP.cb p else 0)
  fun i => encL (CutP.T p) (CutP.k p + 0 + i))))]
  true 0),
  some
  (AObj.row Rk.mine 1 0
  (List.length
  (fdB (boolD (Td.sc (Value.bool (CutP.r p))))
  (listT U8
  (Td.fr 1 (List.length (CutP.Y p)) (CutP.cy p) fun i =>
  encL (CutP.Y p) (0 + i)))
  (listT U8
  (Td.fr 1
  (Int.toNat
  (if
  Int.ofNat (CutP.n p) <
  IntKind.wrap IntKind.i64
  (Int.tmod
  (U8.v (List.getD m (0 + Int.toNat i) Enc.dflt))
  (30 : Int)) then
  Int.ofNat (CutP.n p)
  else
  IntKind.wrap IntKind.i64
  (Int.tmod
  (U8.v (List.getD m (0 + Int.toNat i) Enc.dflt))
  (30 : Int))) -
  0)
  (bif Nat.beq (CutP.n p) 0 then CutP.cb p else 0)
  fun i => encL (CutP.T p) (CutP.k p + 0 + i)))))
  (encL
  (fdB (boolD (Td.sc (Value.bool (CutP.r p))))
  (listT U8
  (Td.fr 1 (List.length (CutP.Y p)) (CutP.cy p) fun i =>
  encL (CutP.Y p) (0 + i)))
  (listT U8
  (Td.fr 1
  (Int.toNat
  (if
  Int.ofNat (CutP.n p) <
  IntKind.wrap IntKind.i64
  (Int.tmod
  (U8.v (List.getD m (0 + Int.toNat i) Enc.dflt))
  (30 : Int)) then
  Int.ofNat (CutP.n p)
  else
  IntKind.wrap IntKind.i64
  (Int.tmod
  (U8.v (List.getD m (0 + Int.toNat i) Enc.dflt))
  (30 : Int))) -
  0)
  (bif Nat.beq (CutP.n p) 0 then CutP.cb p else 0)
  fun i => encL (CutP.T p) (CutP.k p + 0 + i)))))),
  some
  (AObj.row Rk.mine 1 0
  (List.length (CutP.P p) +
  List.length
  (fdL (boolD (Td.sc (Value.bool (CutP.r p))))
  (listT U8
  (Td.fr 1 (List.length (CutP.Y p)) (CutP.cy p) fun i =>
  encL (CutP.Y p) (0 + i)))
  (listT U8
  (Td.fr 1
  (Int.toNat
  (if
  Int.ofNat (CutP.n p) <
  IntKind.wrap IntKind.i64
  (Int.tmod
  (U8.v (List.getD m (0 + Int.toNat i) Enc.dflt))
  (30 : Int)) then
  Int.ofNat (CutP.n p)
  else
  IntKind.wrap IntKind.i64
  (Int.tmod
  (U8.v (List.getD m (0 + Int.toNat i) Enc.dflt))
  (30 : Int))) -
  0)
  (bif Nat.beq (CutP.n p) 0 then CutP.cb p else 0)
  fun i => encL (CutP.T p) (CutP.k p + 0 + i)))))
  fun j k =>
  mrgT (Nat.blt j (List.length (CutP.P p))) (encL (CutP.P p) (0 + j) k)
  (encL
  (fdL (boolD (Td.sc (Value.bool (CutP.r p))))
  (listT U8
  (Td.fr 1 (List.length (CutP.Y p)) (CutP.cy p) fun i =>
  encL (CutP.Y p) (0 + i)))
  (listT U8
  (Td.fr 1
  (Int.toNat
  (if
  Int.ofNat (CutP.n p) <
  IntKind.wrap IntKind.i64
  (Int.tmod
  (U8.v (List.getD m (0 + Int.toNat i) Enc.dflt))
  (30 : Int)) then
  Int.ofNat (CutP.n p)
  else
  IntKind.wrap IntKind.i64
  (Int.tmod
  (U8.v (List.getD m (0 + Int.toNat i) Enc.dflt))
  (30 : Int))) -
  0)
  (bif Nat.beq (CutP.n p) 0 then CutP.cb p else 0)
  fun i => encL (CutP.T p) (CutP.k p + 0 + i))))
  (0 + (j - List.length (CutP.P p))) k))])))))))))))))))
  (need (Nat.ble (Int.toNat (Int.ofNat (CutP.n p))) (CutP.n p))
  (need (true && Nat.ble (0 + List.length (CutP.Y p)) (List.length (CutP.Y p)))
  (need
  (Nat.ble 0 (CutP.k p + 0) &&
  Nat.ble (CutP.k p + 0 + (Int.toNat (Int.ofNat (CutP.n p)) - 0)) (List.length (CutP.T p)))
  (need
  (okFd
  [Ta.agg
  [Td.fr 1 (List.length (CutP.Y p)) (CutP.cy p) fun i => encL (CutP.Y p) (0 + i),
  Td.sc (Value.bool (CutP.r p))],
  Ta.cell
  (Td.fr 1 (Int.toNat (Int.ofNat (CutP.n p)) - 0)
  (bif Nat.beq (CutP.n p) 0 then CutP.cb p else 0) fun i =>
  encL (CutP.T p) (CutP.k p + 0 + i))])
  (need
  (true &&
  Nat.ble
  (0 +
  List.length
  (fdL (boolD (Td.sc (Value.bool (CutP.r p))))
  (listT U8
  (Td.fr 1 (List.length (CutP.Y p)) (CutP.cy p) fun i =>
  encL (CutP.Y p) (0 + i)))
  (listT U8
  (Td.fr 1 (Int.toNat (Int.ofNat (CutP.n p)) - 0)
  (bif Nat.beq (CutP.n p) 0 then CutP.cb p else 0) fun i =>
  encL (CutP.T p) (CutP.k p + 0 + i)))))
  (List.length
  (fdL (boolD (Td.sc (Value.bool (CutP.r p))))
  (listT U8
  (Td.fr 1 (List.length (CutP.Y p)) (CutP.cy p) fun i => encL (CutP.Y p) (0 + i)))
  (listT U8
  (Td.fr 1 (Int.toNat (Int.ofNat (CutP.n p)) - 0)
  (bif Nat.beq (CutP.n p) 0 then CutP.cb p else 0) fun i =>
  encL (CutP.T p) (CutP.k p + 0 + i))))))
  (need
  (Nat.ble
  (List.length (CutP.P p) +
  List.length
  (fdL (boolD (Td.sc (Value.bool (CutP.r p))))
  (listT U8
  (Td.fr 1 (List.length (CutP.Y p)) (CutP.cy p) fun i =>
  encL (CutP.Y p) (0 + i)))
  (listT U8
  (Td.fr 1 (Int.toNat (Int.ofNat (CutP.n p)) - 0)
  (bif Nat.beq (CutP.n p) 0 then CutP.cb p else 0) fun i =>
  encL (CutP.T p) (CutP.k p + 0 + i)))))
  1000000)
  (need (true && Nat.ble (0 + List.length (CutP.P p)) (List.length (CutP.P p)))
  (need (Nat.ble (Int.toNat (Int.ofNat (CutP.n p))) (CutP.n p))
  (N AX.normal
  (mkF 114
  [(0,
  Value.slice (some (Addr.mk 0 0 (some 0))) (List.length l) c),
  (2,
  Value.slice (some (Addr.mk 2 0 (some 0))) (List.length m) e),
  (8,
  Value.slice
  (some (Addr.mk 3 0 (some (CutP.k p + Int.toNat (Int.ofNat (CutP.n p))))))
  (CutP.n p - Int.toNat (Int.ofNat (CutP.n p)))
  (bif Nat.beq (CutP.n p) 0 then CutP.cb p else 0)),
  (9, Value.pointer (some (Addr.mk 4 0 none))),
  (10,
  Value.slice (some (Addr.mk 6 0 (some 0))) (List.length (CutP.A p))
  1),
  (11, Value.pointer (some (Addr.mk 7 0 none))),
  (12,
  Value.slice (some (Addr.mk 9 0 (some 0)))
  (List.length (CutP.P p) +
  List.length
  (fdL (boolD (Td.sc (Value.bool (CutP.r p))))
  (listT U8
  (Td.fr 1 (List.length (CutP.Y p)) (CutP.cy p) fun i =>
  encL (CutP.Y p) (0 + i)))
  (listT U8
  (Td.fr 1 (Int.toNat (Int.ofNat (CutP.n p)) - 0)
  (bif Nat.beq (CutP.n p) 0 then CutP.cb p else 0) fun i =>
  encL (CutP.T p) (CutP.k p + 0 + i)))))
  1),
  (13, Value.int IntKind.i64 (IntKind.wrap IntKind.i64 (i + (1 : Int))))])
  (mkS
  [some (AObj.row Rk.still 1 0 (List.length l) (encL l)),
  some (AObj.row Rk.still 1 0 (List.length b) (encL b)),
  some (AObj.row Rk.still 1 0 (List.length m) (encL m)),
  some (AObj.row Rk.mine 1 0 (List.length (CutP.T p)) (encL (CutP.T p))),
  some
  (AObj.cells
  [Value.slice (some (Addr.mk 5 0 (some 0)))
  (List.length (CutP.X p)) (CutP.cx p),
  Value.bool (CutP.q p)]
  true 0),
  some (AObj.row Rk.mine 1 0 (List.length (CutP.X p)) (encL (CutP.X p))),
  some (AObj.row Rk.mine 1 0 (List.length (CutP.A p)) (encL (CutP.A p))),
  some
  (AObj.cells
  [Value.slice (some (Addr.mk 8 0 (some 0)))
  (List.length
  (fdB (boolD (Td.sc (Value.bool (CutP.r p))))
  (listT U8
  (Td.fr 1 (List.length (CutP.Y p)) (CutP.cy p) fun i =>
  encL (CutP.Y p) (0 + i)))
  (listT U8
  (Td.fr 1 (Int.toNat (Int.ofNat (CutP.n p)) - 0)
  (bif Nat.beq (CutP.n p) 0 then CutP.cb p else 0) fun i =>
  encL (CutP.T p) (CutP.k p + 0 + i)))))
  (fdC (boolD (Td.sc (Value.bool (CutP.r p))))
  (listT U8
  (Td.fr 1 (List.length (CutP.Y p)) (CutP.cy p) fun i =>
  encL (CutP.Y p) (0 + i)))
  (CutP.cy p)
  (listT U8
  (Td.fr 1 (Int.toNat (Int.ofNat (CutP.n p)) - 0)
  (bif Nat.beq (CutP.n p) 0 then CutP.cb p else 0) fun i =>
  encL (CutP.T p) (CutP.k p + 0 + i)))),
  Value.bool
  (fdQ (boolD (Td.sc (Value.bool (CutP.r p))))
  (listT U8
  (Td.fr 1 (List.length (CutP.Y p)) (CutP.cy p) fun i =>
  encL (CutP.Y p) (0 + i)))
  (listT U8
  (Td.fr 1 (Int.toNat (Int.ofNat (CutP.n p)) - 0)
  (bif Nat.beq (CutP.n p) 0 then CutP.cb p else 0) fun i =>
  encL (CutP.T p) (CutP.k p + 0 + i))))]
  true 0),
  some
  (AObj.row Rk.mine 1 0
  (List.length
  (fdB (boolD (Td.sc (Value.bool (CutP.r p))))
  (listT U8
  (Td.fr 1 (List.length (CutP.Y p)) (CutP.cy p) fun i =>
  encL (CutP.Y p) (0 + i)))
  (listT U8
  (Td.fr 1 (Int.toNat (Int.ofNat (CutP.n p)) - 0)
  (bif Nat.beq (CutP.n p) 0 then CutP.cb p else 0) fun i =>
  encL (CutP.T p) (CutP.k p + 0 + i)))))
  (encL
  (fdB (boolD (Td.sc (Value.bool (CutP.r p))))
  (listT U8
  (Td.fr 1 (List.length (CutP.Y p)) (CutP.cy p) fun i =>
  encL (CutP.Y p) (0 + i)))
  (listT U8
  (Td.fr 1 (Int.toNat (Int.ofNat (CutP.n p)) - 0)
  (bif Nat.beq (CutP.n p) 0 then CutP.cb p else 0) fun i =>
  encL (CutP.T p) (CutP.k p + 0 + i)))))),
  some
  (AObj.row Rk.mine 1 0
  (List.length (CutP.P p) +
  List.length
  (fdL (boolD (Td.sc (Value.bool (CutP.r p))))
  (listT U8
  (Td.fr 1 (List.length (CutP.Y p)) (CutP.cy p) fun i =>
  encL (CutP.Y p) (0 + i)))
  (listT U8
  (Td.fr 1 (Int.toNat (Int.ofNat (CutP.n p)) - 0)
  (bif Nat.beq (CutP.n p) 0 then CutP.cb p else 0) fun i =>
  encL (CutP.T p) (CutP.k p + 0 + i)))))
  fun j k =>
  mrgT (Nat.blt j (List.length (CutP.P p))) (encL (CutP.P p) (0 + j) k)
  (encL
  (fdL (boolD (Td.sc (Value.bool (CutP.r p))))
  (listT U8
  (Td.fr 1 (List.length (CutP.Y p)) (CutP.cy p) fun i =>
  encL (CutP.Y p) (0 + i)))
  (listT U8
  (Td.fr 1 (Int.toNat (Int.ofNat (CutP.n p)) - 0)
  (bif Nat.beq (CutP.n p) 0 then CutP.cb p else 0) fun i =>
  encL (CutP.T p) (CutP.k p + 0 + i))))
  (0 + (j - List.length (CutP.P p))) k))])))))))))))
  (onP N (AX.exit 2) (shpC2 l b m c e p i))) := by kernel_rfl
end Go.Proofs.Ytdmagcdkklacdaa.Ev
