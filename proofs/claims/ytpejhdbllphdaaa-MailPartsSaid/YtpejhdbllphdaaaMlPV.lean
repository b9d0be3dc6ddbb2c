/-
  MailParts: what has to hold.
-/
import Derived.Test.YtpejhdbllphdaaaMlM
set_option linter.unusedVariables false
set_option maxRecDepth 1000000
namespace Go.Proofs.Ytpejhdbllphdaaa.Ev
open Go Go.Proofs
def slP : List Nat := [0, 1, 2, 7]
def lvP : AX → List Nat := fun x => match x with
  | .ret => [6]
  | _ => slP
def FP (l : List Wr) (img : List Vl) (c d : Nat) (u i : Int) : AFr := mkF 60 [(0, .slice (some ⟨0, 0, some 0⟩) l.length c), (1, .slice (some ⟨1, 0, some 0⟩) img.length d), (2, .int .u8 u), (7, .int .i64 i)]
def SP (l : List Wr) (img : List Vl) : ASt := mkS [some (rowO .still l), some (rowO .still img)]
def FPr (q : Bool) : AFr := mkF 60 [(6, .bool q)]
def fitW (w : Wr) : Bool := !(decide (Int.ofNat w.a.length > 6)) && !(decide (Int.ofNat w.v.length > 6))
def exP (l : List Wr) (img : List Vl) (c d : Nat) (u : Int) : Nat → Kt → Prop := fun b K => (l.all fitW = true → K (.exit b) (FP l img c d u l.length) (SP l img)) ∧ K .ret (FPr true) (SP l img)
def shpP (l : List Wr) (img : List Vl) (c d : Nat) (u : Int) (i' : Int) : AFr × ASt := (FP l img c d u i', SP l img)
def shpPr (l : List Wr) (img : List Vl) (q' : Bool) : AFr × ASt := (FPr q', SP l img)
theorem vc_mp (l : List Wr) (img : List Vl) (c d : Nat) (u : Int) (β : Bs) : lawE Try.prog toldM 100 20 β (fun _ => 0) (cnOf 2 fun _ => slP) (exP l img c d u) 6 [.slice (some ⟨0, 0, some 0⟩) l.length c, .slice (some ⟨1, 0, some 0⟩) img.length d, .int .u8 u] (mkS [some (rowO .still l), some (rowO .still img)]) trueE =
(  br (decide (Int.ofNat (List.length l) > (6 : Int))) True
  (br (decide (Int.ofNat (List.length img) > (20 : Int))) True
  (LoopJ Try.prog β (exP l img c d u) 0 (loopOf Try.prog 6 0) (FP l img c d u (0 : Int))
  (SP l img) ∧
  (List.all l fitW = true →
  need (true && !decide (IntKind.wrap IntKind.i64 (Int.ofNat (List.length l) + (1 : Int)) = (0 : Int)))
  (need (true && Nat.ble (0 + List.length l) (List.length l))
  (need (true && Nat.ble (0 + List.length img) (List.length img))
  (need
  (ok2 Wr Vl (fun l x x_1 x_2 => List.all l (okA Wr))
  [Ta.cell (Td.fr 4 (List.length l) c fun i => encL l (0 + i)),
  Ta.cell (Td.fr 3 (List.length img) d fun i => encL img (0 + i))])
  (need
  (decide
  ((0 : Int) ≤
  Int.tmod (IntKind.wrap IntKind.i64 u)
  (IntKind.wrap IntKind.i64 (Int.ofNat (List.length l) + (1 : Int)))))
  (need
  (Nat.ble
  (Int.toNat
  (Int.tmod (IntKind.wrap IntKind.i64 u)
  (IntKind.wrap IntKind.i64 (Int.ofNat (List.length l) + (1 : Int)))))
  (List.length l))
  (need
  (decide
  ((0 : Int) ≤
  Int.tmod (IntKind.wrap IntKind.i64 u)
  (IntKind.wrap IntKind.i64 (Int.ofNat (List.length l) + (1 : Int)))))
  (need
  (Nat.ble
  (Int.toNat
  (Int.tmod (IntKind.wrap IntKind.i64 u)
  (IntKind.wrap IntKind.i64 (Int.ofNat (List.length l) + (1 : Int)))))
  (List.length l))
  (need
  (true &&
  Nat.ble
  (0 +
  (Int.toNat
  (Int.tmod (IntKind.wrap IntKind.i64 u)
  (IntKind.wrap IntKind.i64 (Int.ofNat (List.length l) + (1 : Int)))) -
  0))
  (List.length l))
  (need (true && Nat.ble (0 + List.length img) (List.length img))
  (need
  (ok2 Wr Vl (fun l x x_1 x_2 => List.all l (okA Wr))
  [Ta.cell
  (Td.fr 4
  (Int.toNat
  (Int.tmod (IntKind.wrap IntKind.i64 u)
  (IntKind.wrap IntKind.i64 (Int.ofNat (List.length l) + (1 : Int)))) -
  0)
  (bif Nat.beq (List.length l) 0 then c else 0) fun i =>
  encL l (0 + 0 + i)),
  Ta.cell (Td.fr 3 (List.length img) d fun i => encL img (0 + i))])
  (need
  (Nat.ble 0
  (0 +
  Int.toNat
  (Int.tmod (IntKind.wrap IntKind.i64 u)
  (IntKind.wrap IntKind.i64 (Int.ofNat (List.length l) + (1 : Int))))) &&
  Nat.ble
  (0 +
  Int.toNat
  (Int.tmod (IntKind.wrap IntKind.i64 u)
  (IntKind.wrap IntKind.i64 (Int.ofNat (List.length l) + (1 : Int)))) +
  (List.length l -
  Int.toNat
  (Int.tmod (IntKind.wrap IntKind.i64 u)
  (IntKind.wrap IntKind.i64 (Int.ofNat (List.length l) + (1 : Int))))))
  (List.length l))
  (need
  (true &&
  Nat.ble
  (0 +
  List.length
  (drL
  (listT Wr
  (Td.fr 4
  (Int.toNat
  (Int.tmod (IntKind.wrap IntKind.i64 u)
  (IntKind.wrap IntKind.i64
  (Int.ofNat (List.length l) + (1 : Int)))) -
  0)
  (bif Nat.beq (List.length l) 0 then c else 0) fun i =>
  encL l (0 + 0 + i)))
  (listT Vl
  (Td.fr 3 (List.length img) d fun i => encL img (0 + i)))
  (List.length
  (listT Wr
  (Td.fr 4
  (Int.toNat
  (Int.tmod (IntKind.wrap IntKind.i64 u)
  (IntKind.wrap IntKind.i64
  (Int.ofNat (List.length l) + (1 : Int)))) -
  0)
  (bif Nat.beq (List.length l) 0 then c else 0)
  fun i => encL l (0 + 0 + i))))))
  (List.length
  (drL
  (listT Wr
  (Td.fr 4
  (Int.toNat
  (Int.tmod (IntKind.wrap IntKind.i64 u)
  (IntKind.wrap IntKind.i64
  (Int.ofNat (List.length l) + (1 : Int)))) -
  0)
  (bif Nat.beq (List.length l) 0 then c else 0) fun i =>
  encL l (0 + 0 + i)))
  (listT Vl
  (Td.fr 3 (List.length img) d fun i => encL img (0 + i)))
  (List.length
  (listT Wr
  (Td.fr 4
  (Int.toNat
  (Int.tmod (IntKind.wrap IntKind.i64 u)
  (IntKind.wrap IntKind.i64
  (Int.ofNat (List.length l) + (1 : Int)))) -
  0)
  (bif Nat.beq (List.length l) 0 then c else 0) fun i =>
  encL l (0 + 0 + i)))))))
  (need
  (ok2 Wr Vl (fun l x x_1 x_2 => List.all l (okA Wr))
  [Ta.cell
  (Td.fr 4
  (List.length l -
  Int.toNat
  (Int.tmod (IntKind.wrap IntKind.i64 u)
  (IntKind.wrap IntKind.i64 (Int.ofNat (List.length l) + (1 : Int)))))
  (bif Nat.beq (List.length l) 0 then c else 0) fun i =>
  encL l
  (0 +
  Int.toNat
  (Int.tmod (IntKind.wrap IntKind.i64 u)
  (IntKind.wrap IntKind.i64 (↑(List.length l) + (1 : Int)))) +
  i)),
  Ta.cell
  (Td.fr 3
  (List.length
  (drL
  (listT Wr
  (Td.fr 4
  (Int.toNat
  (Int.tmod (IntKind.wrap IntKind.i64 u)
  (IntKind.wrap IntKind.i64
  (Int.ofNat (List.length l) + (1 : Int)))) -
  0)
  (bif Nat.beq (List.length l) 0 then c else 0)
  fun i => encL l (0 + 0 + i)))
  (listT Vl
  (Td.fr 3 (List.length img) d fun i =>
  encL img (0 + i)))
  (List.length
  (listT Wr
  (Td.fr 4
  (Int.toNat
  (Int.tmod (IntKind.wrap IntKind.i64 u)
  (IntKind.wrap IntKind.i64
  (Int.ofNat (List.length l) + (1 : Int)))) -
  0)
  (bif Nat.beq (List.length l) 0 then c else 0)
  fun i => encL l (0 + 0 + i))))))
  (nilT
  (Td.fr 3 (List.length img) d fun i => encL img (0 + i)))
  fun i =>
  encL
  (drL
  (listT Wr
  (Td.fr (Enc.es Wr)
  (Int.toNat
  (Int.tmod (IntKind.wrap IntKind.i64 u)
  (IntKind.wrap IntKind.i64 (↑(List.length l) + (1 : Int)))) -
  0)
  (bif Nat.beq (List.length l) 0 then c else 0)
  fun i => encL l (0 + 0 + i)))
  (listT Vl
  (Td.fr (Enc.es Vl) (List.length img) d fun i =>
  encL img (0 + i)))
  (List.length
  (listT Wr
  (Td.fr (Enc.es Wr)
  (Int.toNat
  (Int.tmod (IntKind.wrap IntKind.i64 u)
  (IntKind.wrap IntKind.i64
  (↑(List.length l) + (1 : Int)))) -
  0)
  (bif Nat.beq (List.length l) 0 then c else 0)
  fun i => encL l (0 + 0 + i)))))
  (0 + i))])
  (need
  (true &&
  Nat.ble
  (0 +
  List.length
  (drL
  (listT Wr
  (Td.fr 4 (List.length l) c fun i => encL l (0 + i)))
  (listT Vl
  (Td.fr 3 (List.length img) d fun i =>
  encL img (0 + i)))
  (List.length
  (listT Wr
  (Td.fr 4 (List.length l) c fun i =>
  encL l (0 + i))))))
  (List.length
  (drL
  (listT Wr
  (Td.fr 4 (List.length l) c fun i => encL l (0 + i)))
  (listT Vl
  (Td.fr 3 (List.length img) d fun i =>
  encL img (0 + i)))
  (List.length
  (listT Wr
  (Td.fr 4 (List.length l) c fun i =>
  encL l (0 + i)))))))
  (need
  (true &&
  Nat.ble
  (0 +
  List.length
  (drL
  (listT Wr
  (Td.fr 4
  (List.length l -
  Int.toNat
  (Int.tmod (IntKind.wrap IntKind.i64 u)
  (IntKind.wrap IntKind.i64
  (Int.ofNat (List.length l) + (1 : Int)))))
  (bif Nat.beq (List.length l) 0 then c else 0)
  fun i =>
  encL l
  (0 +
  Int.toNat
  (Int.tmod (IntKind.wrap IntKind.i64 u)
  (IntKind.wrap IntKind.i64
  (↑(List.length l) + (1 : Int)))) +
  i)))
  (listT Vl
  (Td.fr 3
  (List.length
  (drL
  (listT Wr
  (Td.fr 4
  (Int.toNat
  (Int.tmod (IntKind.wrap IntKind.i64 u)
  (IntKind.wrap IntKind.i64
  (Int.ofNat (List.length l) + (1 : Int)))) -
  0)
  (bif Nat.beq (List.length l) 0 then c
  else 0)
  fun i => encL l (0 + 0 + i)))
  (listT Vl
  (Td.fr 3 (List.length img) d fun i =>
  encL img (0 + i)))
  (List.length
  (listT Wr
  (Td.fr 4
  (Int.toNat
  (Int.tmod (IntKind.wrap IntKind.i64 u)
  (IntKind.wrap IntKind.i64
  (Int.ofNat (List.length l) + (1 : Int)))) -
  0)
  (bif Nat.beq (List.length l) 0 then c
  else 0)
  fun i => encL l (0 + 0 + i))))))
  (nilT
  (Td.fr 3 (List.length img) d fun i =>
  encL img (0 + i)))
  fun i =>
  encL
  (drL
  (listT Wr
  (Td.fr (Enc.es Wr)
  (Int.toNat
  (Int.tmod (IntKind.wrap IntKind.i64 u)
  (IntKind.wrap IntKind.i64
  (↑(List.length l) + (1 : Int)))) -
  0)
  (bif Nat.beq (List.length l) 0 then c
  else 0)
  fun i => encL l (0 + 0 + i)))
  (listT Vl
  (Td.fr (Enc.es Vl) (List.length img) d fun i =>
  encL img (0 + i)))
  (List.length
  (listT Wr
  (Td.fr (Enc.es Wr)
  (Int.toNat
  (Int.tmod (IntKind.wrap IntKind.i64 u)
  (IntKind.wrap IntKind.i64
  (↑(List.length l) + (1 : Int)))) -
  0)
  (bif Nat.beq (List.length l) 0 then c
  else 0)
  fun i => encL l (0 + 0 + i)))))
  (0 + i)))
  (List.length
  (listT Wr
  (Td.fr 4
  (List.length l -
  Int.toNat
  (Int.tmod (IntKind.wrap IntKind.i64 u)
  (IntKind.wrap IntKind.i64
  (Int.ofNat (List.length l) + (1 : Int)))))
  (bif Nat.beq (List.length l) 0 then c else 0)
  fun i =>
  encL l
  (0 +
  Int.toNat
  (Int.tmod (IntKind.wrap IntKind.i64 u)
  (IntKind.wrap IntKind.i64
  (↑(List.length l) + (1 : Int)))) +
  i))))))
  (List.length
  (drL
  (listT Wr
  (Td.fr 4
  (List.length l -
  Int.toNat
  (Int.tmod (IntKind.wrap IntKind.i64 u)
  (IntKind.wrap IntKind.i64
  (Int.ofNat (List.length l) + (1 : Int)))))
  (bif Nat.beq (List.length l) 0 then c else 0)
  fun i =>
  encL l
  (0 +
  Int.toNat
  (Int.tmod (IntKind.wrap IntKind.i64 u)
  (IntKind.wrap IntKind.i64
  (↑(List.length l) + (1 : Int)))) +
  i)))
  (listT Vl
  (Td.fr 3
  (List.length
  (drL
  (listT Wr
  (Td.fr 4
  (Int.toNat
  (Int.tmod (IntKind.wrap IntKind.i64 u)
  (IntKind.wrap IntKind.i64
  (Int.ofNat (List.length l) + (1 : Int)))) -
  0)
  (bif Nat.beq (List.length l) 0 then c
  else 0)
  fun i => encL l (0 + 0 + i)))
  (listT Vl
  (Td.fr 3 (List.length img) d fun i =>
  encL img (0 + i)))
  (List.length
  (listT Wr
  (Td.fr 4
  (Int.toNat
  (Int.tmod (IntKind.wrap IntKind.i64 u)
  (IntKind.wrap IntKind.i64
  (Int.ofNat (List.length l) + (1 : Int)))) -
  0)
  (bif Nat.beq (List.length l) 0 then c
  else 0)
  fun i => encL l (0 + 0 + i))))))
  (nilT
  (Td.fr 3 (List.length img) d fun i =>
  encL img (0 + i)))
  fun i =>
  encL
  (drL
  (listT Wr
  (Td.fr (Enc.es Wr)
  (Int.toNat
  (Int.tmod (IntKind.wrap IntKind.i64 u)
  (IntKind.wrap IntKind.i64
  (↑(List.length l) + (1 : Int)))) -
  0)
  (bif Nat.beq (List.length l) 0 then c
  else 0)
  fun i => encL l (0 + 0 + i)))
  (listT Vl
  (Td.fr (Enc.es Vl) (List.length img) d fun i =>
  encL img (0 + i)))
  (List.length
  (listT Wr
  (Td.fr (Enc.es Wr)
  (Int.toNat
  (Int.tmod (IntKind.wrap IntKind.i64 u)
  (IntKind.wrap IntKind.i64
  (↑(List.length l) + (1 : Int)))) -
  0)
  (bif Nat.beq (List.length l) 0 then c
  else 0)
  fun i => encL l (0 + 0 + i)))))
  (0 + i)))
  (List.length
  (listT Wr
  (Td.fr 4
  (List.length l -
  Int.toNat
  (Int.tmod (IntKind.wrap IntKind.i64 u)
  (IntKind.wrap IntKind.i64
  (Int.ofNat (List.length l) + (1 : Int)))))
  (bif Nat.beq (List.length l) 0 then c else 0)
  fun i =>
  encL l
  (0 +
  Int.toNat
  (Int.tmod (IntKind.wrap IntKind.i64 u)
  (IntKind.wrap IntKind.i64
  (↑(List.length l) + (1 : Int)))) +
  i)))))))
  (need
  (ok2 Vl Vl (fun x x_1 x_2 x_3 => true)
  [Ta.cell
  (Td.fr 3
  (List.length
  (drL
  (listT Wr
  (Td.fr 4 (List.length l) c fun i =>
  encL l (0 + i)))
  (listT Vl
  (Td.fr 3 (List.length img) d fun i =>
  encL img (0 + i)))
  (List.length
  (listT Wr
  (Td.fr 4 (List.length l) c fun i =>
  encL l (0 + i))))))
  (nilT
  (Td.fr 3 (List.length img) d fun i =>
  encL img (0 + i)))
  fun i =>
  encL
  (drL
  (listT Wr
  (Td.fr (Enc.es Wr) (List.length l) c fun i =>
  encL l (0 + i)))
  (listT Vl
  (Td.fr (Enc.es Vl) (List.length img) d fun i =>
  encL img (0 + i)))
  (List.length
  (listT Wr
  (Td.fr (Enc.es Wr) (List.length l) c fun i =>
  encL l (0 + i)))))
  (0 + i)),
  Ta.cell
  (Td.fr 3
  (List.length
  (drL
  (listT Wr
  (Td.fr 4
  (List.length l -
  Int.toNat
  (Int.tmod (IntKind.wrap IntKind.i64 u)
  (IntKind.wrap IntKind.i64
  (Int.ofNat (List.length l) + (1 : Int)))))
  (bif Nat.beq (List.length l) 0 then c
  else 0)
  fun i =>
  encL l
  (0 +
  Int.toNat
  (Int.tmod (IntKind.wrap IntKind.i64 u)
  (IntKind.wrap IntKind.i64
  (↑(List.length l) + (1 : Int)))) +
  i)))
  (listT Vl
  (Td.fr 3
  (List.length
  (drL
  (listT Wr
  (Td.fr 4
  (Int.toNat
  (Int.tmod (IntKind.wrap IntKind.i64 u)
  (IntKind.wrap IntKind.i64
  (Int.ofNat (List.length l) + (1 : Int)))) -
  0)
  (bif Nat.beq (List.length l) 0 then c
  else 0)
  fun i => encL l (0 + 0 + i)))
  (listT Vl
  (Td.fr 3 (List.length img) d fun i =>
  encL img (0 + i)))
  (List.length
  (listT Wr
  (Td.fr 4
  (Int.toNat
  (Int.tmod (IntKind.wrap IntKind.i64 u)
  (IntKind.wrap IntKind.i64
  (Int.ofNat (List.length l) +
  (1 : Int)))) -
  0)
  (bif Nat.beq (List.length l) 0 then c
  else 0)
  fun i => encL l (0 + 0 + i))))))
  (nilT
  (Td.fr 3 (List.length img) d fun i =>
  encL img (0 + i)))
  fun i =>
  encL
  (drL
  (listT Wr
  (Td.fr (Enc.es Wr)
  (Int.toNat
  (Int.tmod (IntKind.wrap IntKind.i64 u)
  (IntKind.wrap IntKind.i64
  (↑(List.length l) + (1 : Int)))) -
  0)
  (bif Nat.beq (List.length l) 0 then c
  else 0)
  fun i => encL l (0 + 0 + i)))
  (listT Vl
  (Td.fr (Enc.es Vl) (List.length img) d fun i =>
  encL img (0 + i)))
  (List.length
  (listT Wr
  (Td.fr (Enc.es Wr)
  (Int.toNat
  (Int.tmod (IntKind.wrap IntKind.i64 u)
  (IntKind.wrap IntKind.i64
  (↑(List.length l) + (1 : Int)))) -
  0)
  (bif Nat.beq (List.length l) 0 then c
  else 0)
  fun i => encL l (0 + 0 + i)))))
  (0 + i)))
  (List.length
  (listT Wr
  (Td.fr 4
  (List.length l -
  Int.toNat
  (Int.tmod (IntKind.wrap IntKind.i64 u)
  (IntKind.wrap IntKind.i64
  (Int.ofNat (List.length l) + (1 : Int)))))
  (bif Nat.beq (List.length l) 0 then c
  else 0)
  fun i =>
  encL l
  (0 +
  Int.toNat
  (Int.tmod (IntKind.wrap IntKind.i64 u)
  (IntKind.wrap IntKind.i64
  (↑(List.length l) + (1 : Int)))) +
  i))))))
  (nilT
  (Td.fr 3
  (List.length
  (drL
  (listT Wr
  (Td.fr 4
  (Int.toNat
  (Int.tmod (IntKind.wrap IntKind.i64 u)
  (IntKind.wrap IntKind.i64
  (Int.ofNat (List.length l) + (1 : Int)))) -
  0)
  (bif Nat.beq (List.length l) 0 then c
  else 0)
  fun i => encL l (0 + 0 + i)))
  (listT Vl
  (Td.fr 3 (List.length img) d fun i =>
  encL img (0 + i)))
  (List.length
  (listT Wr
  (Td.fr 4
  (Int.toNat
  (Int.tmod (IntKind.wrap IntKind.i64 u)
  (IntKind.wrap IntKind.i64
  (Int.ofNat (List.length l) + (1 : Int)))) -
  0)
  (bif Nat.beq (List.length l) 0 then c
  else 0)
  fun i => encL l (0 + 0 + i))))))
  (nilT
  (Td.fr 3 (List.length img) d fun i =>
  encL img (0 + i)))
  fun i =>
  encL
  (drL
  (listT Wr
  (Td.fr (Enc.es Wr)
  (Int.toNat
  (Int.tmod (IntKind.wrap IntKind.i64 u)
  (IntKind.wrap IntKind.i64
  (↑(List.length l) + (1 : Int)))) -
  0)
  (bif Nat.beq (List.length l) 0 then c
  else 0)
  fun i => encL l (0 + 0 + i)))
  (listT Vl
  (Td.fr (Enc.es Vl) (List.length img) d fun i =>
  encL img (0 + i)))
  (List.length
  (listT Wr
  (Td.fr (Enc.es Wr)
  (Int.toNat
  (Int.tmod (IntKind.wrap IntKind.i64 u)
  (IntKind.wrap IntKind.i64
  (↑(List.length l) + (1 : Int)))) -
  0)
  (bif Nat.beq (List.length l) 0 then c
  else 0)
  fun i => encL l (0 + 0 + i)))))
  (0 + i)))
  fun i =>
  encL
  (drL
  (listT Wr
  (Td.fr (Enc.es Wr)
  (List.length l -
  Int.toNat
  (Int.tmod (IntKind.wrap IntKind.i64 u)
  (IntKind.wrap IntKind.i64
  (↑(List.length l) + (1 : Int)))))
  (bif Nat.beq (List.length l) 0 then c
  else 0)
  fun i =>
  encL l
  (0 +
  Int.toNat
  (Int.tmod (IntKind.wrap IntKind.i64 u)
  (IntKind.wrap IntKind.i64
  (↑(List.length l) + (1 : Int)))) +
  i)))
  (listT Vl
  (Td.fr (Enc.es Vl)
  (List.length
  (drL
  (listT Wr
  (Td.fr (Enc.es Wr)
  (Int.toNat
  (Int.tmod (IntKind.wrap IntKind.i64 u)
  (IntKind.wrap IntKind.i64
  (↑(List.length l) + (1 : Int)))) -
  0)
  (bif Nat.beq (List.length l) 0 then c
  else 0)
  fun i => encL l (0 + 0 + i)))
  (listT Vl
  (Td.fr (Enc.es Vl) (List.length img) d fun i =>
  encL img (0 + i)))
  (List.length
  (listT Wr
  (Td.fr (Enc.es Wr)
  (Int.toNat
  (Int.tmod (IntKind.wrap IntKind.i64 u)
  (IntKind.wrap IntKind.i64
  (↑(List.length l) + (1 : Int)))) -
  0)
  (bif Nat.beq (List.length l) 0 then c
  else 0)
  fun i => encL l (0 + 0 + i))))))
  (nilT
  (Td.fr (Enc.es Vl) (List.length img) d fun i =>
  encL img (0 + i)))
  fun i =>
  encL
  (drL
  (listT Wr
  (Td.fr (Enc.es Wr)
  (Int.toNat
  (Int.tmod (IntKind.wrap IntKind.i64 u)
  (IntKind.wrap IntKind.i64
  (↑(List.length l) + (1 : Int)))) -
  0)
  (bif Nat.beq (List.length l) 0 then c
  else 0)
  fun i => encL l (0 + 0 + i)))
  (listT Vl
  (Td.fr (Enc.es Vl) (List.length img) d fun i =>
  encL img (0 + i)))
  (List.length
  (listT Wr
  (Td.fr (Enc.es Wr)
  (Int.toNat
  (Int.tmod (IntKind.wrap IntKind.i64 u)
  (IntKind.wrap IntKind.i64
  (↑(List.length l) + (1 : Int)))) -
  0)
  (bif Nat.beq (List.length l) 0 then c
  else 0)
  fun i => encL l (0 + 0 + i)))))
  (0 + i)))
  (List.length
  (listT Wr
  (Td.fr (Enc.es Wr)
  (List.length l -
  Int.toNat
  (Int.tmod (IntKind.wrap IntKind.i64 u)
  (IntKind.wrap IntKind.i64
  (↑(List.length l) + (1 : Int)))))
  (bif Nat.beq (List.length l) 0 then c
  else 0)
  fun i =>
  encL l
  (0 +
  Int.toNat
  (Int.tmod (IntKind.wrap IntKind.i64 u)
  (IntKind.wrap IntKind.i64
  (↑(List.length l) + (1 : Int)))) +
  i)))))
  (0 + i))])
  (need
  (sameVs
  (listT Vl
  (Td.fr 3
  (List.length
  (drL
  (listT Wr
  (Td.fr 4 (List.length l) c fun i =>
  encL l (0 + i)))
  (listT Vl
  (Td.fr 3 (List.length img) d fun i =>
  encL img (0 + i)))
  (List.length
  (listT Wr
  (Td.fr 4 (List.length l) c fun i =>
  encL l (0 + i))))))
  (nilT
  (Td.fr 3 (List.length img) d fun i =>
  encL img (0 + i)))
  fun i =>
  encL
  (drL
  (listT Wr
  (Td.fr (Enc.es Wr) (List.length l) c fun i =>
  encL l (0 + i)))
  (listT Vl
  (Td.fr (Enc.es Vl) (List.length img) d fun i =>
  encL img (0 + i)))
  (List.length
  (listT Wr
  (Td.fr (Enc.es Wr) (List.length l) c fun i =>
  encL l (0 + i)))))
  (0 + i)))
  (listT Vl
  (Td.fr 3
  (List.length
  (drL
  (listT Wr
  (Td.fr 4
  (List.length l -
  Int.toNat
  (Int.tmod (IntKind.wrap IntKind.i64 u)
  (IntKind.wrap IntKind.i64
  (Int.ofNat (List.length l) + (1 : Int)))))
  (bif Nat.beq (List.length l) 0 then c
  else 0)
  fun i =>
  encL l
  (0 +
  Int.toNat
  (Int.tmod (IntKind.wrap IntKind.i64 u)
  (IntKind.wrap IntKind.i64
  (↑(List.length l) + (1 : Int)))) +
  i)))
  (listT Vl
  (Td.fr 3
  (List.length
  (drL
  (listT Wr
  (Td.fr 4
  (Int.toNat
  (Int.tmod (IntKind.wrap IntKind.i64 u)
  (IntKind.wrap IntKind.i64
  (Int.ofNat (List.length l) + (1 : Int)))) -
  0)
  (bif Nat.beq (List.length l) 0 then c
  else 0)
  fun i => encL l (0 + 0 + i)))
  (listT Vl
  (Td.fr 3 (List.length img) d fun i =>
  encL img (0 + i)))
  (List.length
  (listT Wr
  (Td.fr 4
  (Int.toNat
  (Int.tmod (IntKind.wrap IntKind.i64 u)
  (IntKind.wrap IntKind.i64
  (Int.ofNat (List.length l) +
  (1 : Int)))) -
  0)
  (bif Nat.beq (List.length l) 0 then c
  else 0)
  fun i => encL l (0 + 0 + i))))))
  (nilT
  (Td.fr 3 (List.length img) d fun i =>
  encL img (0 + i)))
  fun i =>
  encL
  (drL
  (listT Wr
  (Td.fr (Enc.es Wr)
  (Int.toNat
  (Int.tmod (IntKind.wrap IntKind.i64 u)
  (IntKind.wrap IntKind.i64
  (↑(List.length l) + (1 : Int)))) -
  0)
  (bif Nat.beq (List.length l) 0 then c
  else 0)
  fun i => encL l (0 + 0 + i)))
  (listT Vl
  (Td.fr (Enc.es Vl) (List.length img) d fun i =>
  encL img (0 + i)))
  (List.length
  (listT Wr
  (Td.fr (Enc.es Wr)
  (Int.toNat
  (Int.tmod (IntKind.wrap IntKind.i64 u)
  (IntKind.wrap IntKind.i64
  (↑(List.length l) + (1 : Int)))) -
  0)
  (bif Nat.beq (List.length l) 0 then c
  else 0)
  fun i => encL l (0 + 0 + i)))))
  (0 + i)))
  (List.length
  (listT Wr
  (Td.fr 4
  (List.length l -
  Int.toNat
  (Int.tmod (IntKind.wrap IntKind.i64 u)
  (IntKind.wrap IntKind.i64
  (Int.ofNat (List.length l) + (1 : Int)))))
  (bif Nat.beq (List.length l) 0 then c
  else 0)
  fun i =>
  encL l
  (0 +
  Int.toNat
  (Int.tmod (IntKind.wrap IntKind.i64 u)
  (IntKind.wrap IntKind.i64
  (↑(List.length l) + (1 : Int)))) +
  i))))))
  (nilT
  (Td.fr 3
  (List.length
  (drL
  (listT Wr
  (Td.fr 4
  (Int.toNat
  (Int.tmod (IntKind.wrap IntKind.i64 u)
  (IntKind.wrap IntKind.i64
  (Int.ofNat (List.length l) + (1 : Int)))) -
  0)
  (bif Nat.beq (List.length l) 0 then c
  else 0)
  fun i => encL l (0 + 0 + i)))
  (listT Vl
  (Td.fr 3 (List.length img) d fun i =>
  encL img (0 + i)))
  (List.length
  (listT Wr
  (Td.fr 4
  (Int.toNat
  (Int.tmod (IntKind.wrap IntKind.i64 u)
  (IntKind.wrap IntKind.i64
  (Int.ofNat (List.length l) + (1 : Int)))) -
  0)
  (bif Nat.beq (List.length l) 0 then c
  else 0)
  fun i => encL l (0 + 0 + i))))))
  (nilT
  (Td.fr 3 (List.length img) d fun i =>
  encL img (0 + i)))
  fun i =>
  encL
  (drL
  (listT Wr
  (Td.fr (Enc.es Wr)
  (Int.toNat
  (Int.tmod (IntKind.wrap IntKind.i64 u)
  (IntKind.wrap IntKind.i64
  (↑(List.length l) + (1 : Int)))) -
  0)
  (bif Nat.beq (List.length l) 0 then c
  else 0)
  fun i => encL l (0 + 0 + i)))
  (listT Vl
  (Td.fr (Enc.es Vl) (List.length img) d fun i =>
  encL img (0 + i)))
  (List.length
  (listT Wr
  (Td.fr (Enc.es Wr)
  (Int.toNat
  (Int.tmod (IntKind.wrap IntKind.i64 u)
  (IntKind.wrap IntKind.i64
  (↑(List.length l) + (1 : Int)))) -
  0)
  (bif Nat.beq (List.length l) 0 then c
  else 0)
  fun i => encL l (0 + 0 + i)))))
  (0 + i)))
  fun i =>
  encL
  (drL
  (listT Wr
  (Td.fr (Enc.es Wr)
  (List.length l -
  Int.toNat
  (Int.tmod (IntKind.wrap IntKind.i64 u)
  (IntKind.wrap IntKind.i64
  (↑(List.length l) + (1 : Int)))))
  (bif Nat.beq (List.length l) 0 then c
  else 0)
  fun i =>
  encL l
  (0 +
  Int.toNat
  (Int.tmod (IntKind.wrap IntKind.i64 u)
  (IntKind.wrap IntKind.i64
  (↑(List.length l) + (1 : Int)))) +
  i)))
  (listT Vl
  (Td.fr (Enc.es Vl)
  (List.length
  (drL
  (listT Wr
  (Td.fr (Enc.es Wr)
  (Int.toNat
  (Int.tmod (IntKind.wrap IntKind.i64 u)
  (IntKind.wrap IntKind.i64
  (↑(List.length l) + (1 : Int)))) -
  0)
  (bif Nat.beq (List.length l) 0 then c
  else 0)
  fun i => encL l (0 + 0 + i)))
  (listT Vl
  (Td.fr (Enc.es Vl) (List.length img) d fun i =>
  encL img (0 + i)))
  (List.length
  (listT Wr
  (Td.fr (Enc.es Wr)
  (Int.toNat
  (Int.tmod (IntKind.wrap IntKind.i64 u)
  (IntKind.wrap IntKind.i64
  (↑(List.length l) + (1 : Int)))) -
  0)
  (bif Nat.beq (List.length l) 0 then c
  else 0)
  fun i => encL l (0 + 0 + i))))))
  (nilT
  (Td.fr (Enc.es Vl) (List.length img) d fun i =>
  encL img (0 + i)))
  fun i =>
  encL
  (drL
  (listT Wr
  (Td.fr (Enc.es Wr)
  (Int.toNat
  (Int.tmod (IntKind.wrap IntKind.i64 u)
  (IntKind.wrap IntKind.i64
  (↑(List.length l) + (1 : Int)))) -
  0)
  (bif Nat.beq (List.length l) 0 then c
  else 0)
  fun i => encL l (0 + 0 + i)))
  (listT Vl
  (Td.fr (Enc.es Vl) (List.length img) d fun i =>
  encL img (0 + i)))
  (List.length
  (listT Wr
  (Td.fr (Enc.es Wr)
  (Int.toNat
  (Int.tmod (IntKind.wrap IntKind.i64 u)
  (IntKind.wrap IntKind.i64
  (↑(List.length l) + (1 : Int)))) -
  0)
  (bif Nat.beq (List.length l) 0 then c
  else 0)
  fun i => encL l (0 + 0 + i)))))
  (0 + i)))
  (List.length
  (listT Wr
  (Td.fr (Enc.es Wr)
  (List.length l -
  Int.toNat
  (Int.tmod (IntKind.wrap IntKind.i64 u)
  (IntKind.wrap IntKind.i64
  (↑(List.length l) + (1 : Int)))))
  (bif Nat.beq (List.length l) 0 then c
  else 0)
  fun i =>
  encL l
  (0 +
  Int.toNat
  (Int.tmod (IntKind.wrap IntKind.i64 u)
  (IntKind.wrap IntKind.i64
  (↑(List.length l) + (1 : Int)))) +
  i)))))
  (0 + i))))
  True)))))))))))))))))) ∧
  True))) := by kernel_rfl
theorem vc_mp_r (l : List Wr) (img : List Vl) (c d : Nat) (u i : Int) (β : Bs) (N : Kt) (ex : Nat → Kt → Prop) : roundJ Try.prog toldM 100 20 β (fun _ => 0) (cnOf 2 fun _ => slP) ex 6 0 2 lvP (FP l img c d u i) (SP l img) N =
(  br (decide (i < Int.ofNat (List.length l)))
  (need (decide ((0 : Int) ≤ i))
  (need (Nat.blt (Int.toNat i) (List.length l))
  (need (Nat.ble 0 (0 + Int.toNat i) && Nat.blt (0 + Int.toNat i) (List.length l))
  (br (decide (Int.ofNat (List.length (Wr.a (List.getD l (0 + Int.toNat i) Enc.dflt))) > (6 : Int)))
  (onP N AX.ret (shpPr l img true))
  (need (decide ((0 : Int) ≤ i))
  (need (Nat.blt (Int.toNat i) (List.length l))
  (need (Nat.ble 0 (0 + Int.toNat i) && Nat.blt (0 + Int.toNat i) (List.length l))
  (br
  (decide (Int.ofNat (List.length (Wr.v (List.getD l (0 + Int.toNat i) Enc.dflt))) > (6 : Int)))
  (onP N AX.ret (shpPr l img true))
  (onP N AX.normal (shpP l img c d u (IntKind.wrap IntKind.i64 (i + (1 : Int)))))))))))))
  (onP N (AX.exit 0) (shpP l img c d u i))) := by kernel_rfl
end Go.Proofs.Ytpejhdbllphdaaa.Ev
