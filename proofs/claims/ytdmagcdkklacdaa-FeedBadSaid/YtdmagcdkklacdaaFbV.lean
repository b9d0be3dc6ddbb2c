/-
  What has to hold: printed by the evaluator.
-/
import Derived.Test.YtdmagcdkklacdaaFdZ
set_option linter.unusedVariables false
set_option maxRecDepth 1000000
namespace Go.Proofs.Ytdmagcdkklacdaa.Ev
open Go Go.Proofs
def slB : List Nat := [0, 1, 5]
def lvB : AX → List Nat := fun x => match x with
  | .ret => [4]
  | _ => slB
def FB (l : List Ld) (b : List U8) (c d : Nat) (i : Int) : AFr := mkF 80 [(0, .slice (some ⟨0, 0, some 0⟩) l.length c), (1, .slice (some ⟨1, 0, some 0⟩) b.length d), (5, .int .i64 i)]
def SB (l : List Ld) (b : List U8) : ASt := mkS [some (rowO .still l), some (rowO .still b)]
def FBr (q : Bool) : AFr := mkF 80 [(4, .bool q)]
def exB (l : List Ld) (b : List U8) (c d : Nat) : Nat → Kt → Prop := fun x K => (l.all fit40 = true → K (.exit x) (FB l b c d l.length) (SB l b)) ∧ K .ret (FBr true) (SB l b)
def shpB (l : List Ld) (b : List U8) (c d : Nat) (i' : Int) : AFr × ASt := (FB l b c d i', SB l b)
def shpBr (l : List Ld) (b : List U8) (q' : Bool) : AFr × ASt := (FBr q', SB l b)
theorem vc_fb (l : List Ld) (b : List U8) (c d : Nat) (β : Bs) : lawE Try.prog toldG 100 20 β (fun _ => 0) (cnOf 2 fun _ => slB) (exB l b c d) 5 [.slice (some ⟨0, 0, some 0⟩) l.length c, .slice (some ⟨1, 0, some 0⟩) b.length d] (mkS [some (rowO .still l), some (rowO .still b)]) trueE =
(  br (decide (Int.ofNat (List.length l) > (4 : Int))) True
  (br (decide (Int.ofNat (List.length b) > (60 : Int))) True
  (LoopJ Try.prog β (exB l b c d) 0 (loopOf Try.prog 5 0) (FB l b c d (0 : Int)) (SB l b) ∧
  (List.all l fit40 = true →
  need (true && Nat.ble (0 + List.length l) (List.length l))
  (need
  (ok1 Ld (fun l x => List.all l (okA Ld) && Nat.ble (List.length l) 1000)
  [Ta.cell (Td.fr 1 (List.length l) c fun i => encL l (0 + i))])
  (need
  (Nat.ble
  (List.length
  (loadsN (listT Ld (Td.fr 1 (List.length l) c fun i => encL l (0 + i)))
  (List.length (listT Ld (Td.fr 1 (List.length l) c fun i => encL l (0 + i))))) +
  2)
  1000000)
  (need
  (true &&
  Nat.ble
  (0 +
  List.length
  (loadsN (listT Ld (Td.fr 1 (List.length l) c fun i => encL l (0 + i)))
  (List.length
  (listT Ld (Td.fr 1 (List.length l) c fun i => encL l (0 + i))))))
  (List.length
  (loadsN (listT Ld (Td.fr 1 (List.length l) c fun i => encL l (0 + i)))
  (List.length
  (listT Ld (Td.fr 1 (List.length l) c fun i => encL l (0 + i)))))))
  (need (true && Nat.ble (0 + List.length b) (List.length b))
  (need
  (Nat.ble
  (List.length
  (loadsN (listT Ld (Td.fr 1 (List.length l) c fun i => encL l (0 + i)))
  (List.length
  (listT Ld (Td.fr 1 (List.length l) c fun i => encL l (0 + i))))) +
  2 +
  List.length b)
  1000000)
  (need
  (true &&
  Nat.ble
  (0 +
  (List.length
  (loadsN (listT Ld (Td.fr 1 (List.length l) c fun i => encL l (0 + i)))
  (List.length
  (listT Ld (Td.fr 1 (List.length l) c fun i => encL l (0 + i))))) +
  2))
  (List.length
  (loadsN (listT Ld (Td.fr 1 (List.length l) c fun i => encL l (0 + i)))
  (List.length
  (listT Ld (Td.fr 1 (List.length l) c fun i => encL l (0 + i))))) +
  2))
  (need
  (true &&
  Nat.ble
  (0 +
  (List.length
  (loadsN
  (listT Ld (Td.fr 1 (List.length l) c fun i => encL l (0 + i)))
  (List.length
  (listT Ld
  (Td.fr 1 (List.length l) c fun i => encL l (0 + i))))) +
  2 +
  List.length b))
  (List.length
  (loadsN
  (listT Ld (Td.fr 1 (List.length l) c fun i => encL l (0 + i)))
  (List.length
  (listT Ld
  (Td.fr 1 (List.length l) c fun i => encL l (0 + i))))) +
  2 +
  List.length b))
  (need
  (okFd
  [Ta.agg [Td.fr 0 0 1 noT, Td.sc (Value.bool false)],
  Ta.cell
  (Td.fr 1
  (List.length
  (loadsN
  (listT Ld
  (Td.fr 1 (List.length l) c fun i => encL l (0 + i)))
  (List.length
  (listT Ld
  (Td.fr 1 (List.length l) c fun i => encL l (0 + i))))) +
  2 +
  List.length b)
  1 fun i k =>
  mrgT
  (Nat.blt (0 + i)
  (List.length
  (loadsN
  (listT Ld
  (Td.fr 1 (List.length l) c fun i => encL l (0 + i)))
  (List.length
  (listT Ld
  (Td.fr 1 (List.length l) c fun i =>
  encL l (0 + i))))) +
  2))
  (mrgT
  (Nat.blt (0 + (0 + i))
  (List.length
  (loadsN
  (listT Ld
  (Td.fr 1 (List.length l) c fun i => encL l (0 + i)))
  (List.length
  (listT Ld
  (Td.fr 1 (List.length l) c fun i =>
  encL l (0 + i)))))))
  (encL
  (loadsN
  (listT Ld
  (Td.fr 1 (List.length l) c fun i => encL l (0 + i)))
  (List.length
  (listT Ld
  (Td.fr 1 (List.length l) c fun i => encL l (0 + i)))))
  (0 + (0 + (0 + i))) k)
  (selT 1 2
  [Td.sc (Value.int IntKind.u8 (255 : Int)),
  Td.sc (Value.int IntKind.u8 (255 : Int))]
  (0 + (0 + i) -
  List.length
  (loadsN
  (listT Ld
  (Td.fr 1 (List.length l) c fun i => encL l (0 + i)))
  (List.length
  (listT Ld
  (Td.fr 1 (List.length l) c fun i =>
  encL l (0 + i))))))
  k))
  (encL b
  (0 +
  (0 + i -
  (List.length
  (loadsN
  (listT Ld
  (Td.fr 1 (List.length l) c fun i => encL l (0 + i)))
  (List.length
  (listT Ld
  (Td.fr 1 (List.length l) c fun i =>
  encL l (0 + i))))) +
  2)))
  k))])
  (need (true && Nat.ble (0 + List.length l) (List.length l))
  (need
  (ok1 Ld (fun l x => List.all l (okA Ld) && Nat.ble (List.length l) 1000)
  [Ta.cell (Td.fr 1 (List.length l) c fun i => encL l (0 + i))])
  (need
  (true &&
  Nat.ble
  (0 +
  List.length
  (fdB false []
  (listT U8
  (Td.fr 1
  (List.length
  (loadsN
  (listT Ld
  (Td.fr 1 (List.length l) c fun i =>
  encL l (0 + i)))
  (List.length
  (listT Ld
  (Td.fr 1 (List.length l) c fun i =>
  encL l (0 + i))))) +
  2 +
  List.length b)
  1 fun i k =>
  mrgT
  (Nat.blt (0 + i)
  (List.length
  (loadsN
  (listT Ld
  (Td.fr 1 (List.length l) c fun i =>
  encL l (0 + i)))
  (List.length
  (listT Ld
  (Td.fr 1 (List.length l) c fun i =>
  encL l (0 + i))))) +
  2))
  (mrgT
  (Nat.blt (0 + (0 + i))
  (List.length
  (loadsN
  (listT Ld
  (Td.fr 1 (List.length l) c fun i =>
  encL l (0 + i)))
  (List.length
  (listT Ld
  (Td.fr 1 (List.length l) c fun i =>
  encL l (0 + i)))))))
  (encL
  (loadsN
  (listT Ld
  (Td.fr 1 (List.length l) c fun i =>
  encL l (0 + i)))
  (List.length
  (listT Ld
  (Td.fr 1 (List.length l) c fun i =>
  encL l (0 + i)))))
  (0 + (0 + (0 + i))) k)
  (selT 1 2
  [Td.sc (Value.int IntKind.u8 (255 : Int)),
  Td.sc (Value.int IntKind.u8 (255 : Int))]
  (0 + (0 + i) -
  List.length
  (loadsN
  (listT Ld
  (Td.fr 1 (List.length l) c fun i =>
  encL l (0 + i)))
  (List.length
  (listT Ld
  (Td.fr 1 (List.length l) c fun i =>
  encL l (0 + i))))))
  k))
  (encL b
  (0 +
  (0 + i -
  (List.length
  (loadsN
  (listT Ld
  (Td.fr 1 (List.length l) c fun i =>
  encL l (0 + i)))
  (List.length
  (listT Ld
  (Td.fr 1 (List.length l) c fun i =>
  encL l (0 + i))))) +
  2)))
  k)))))
  (List.length
  (fdB false []
  (listT U8
  (Td.fr 1
  (List.length
  (loadsN
  (listT Ld
  (Td.fr 1 (List.length l) c fun i =>
  encL l (0 + i)))
  (List.length
  (listT Ld
  (Td.fr 1 (List.length l) c fun i =>
  encL l (0 + i))))) +
  2 +
  List.length b)
  1 fun i k =>
  mrgT
  (Nat.blt (0 + i)
  (List.length
  (loadsN
  (listT Ld
  (Td.fr 1 (List.length l) c fun i =>
  encL l (0 + i)))
  (List.length
  (listT Ld
  (Td.fr 1 (List.length l) c fun i =>
  encL l (0 + i))))) +
  2))
  (mrgT
  (Nat.blt (0 + (0 + i))
  (List.length
  (loadsN
  (listT Ld
  (Td.fr 1 (List.length l) c fun i =>
  encL l (0 + i)))
  (List.length
  (listT Ld
  (Td.fr 1 (List.length l) c fun i =>
  encL l (0 + i)))))))
  (encL
  (loadsN
  (listT Ld
  (Td.fr 1 (List.length l) c fun i =>
  encL l (0 + i)))
  (List.length
  (listT Ld
  (Td.fr 1 (List.length l) c fun i =>
  encL l (0 + i)))))
  (0 + (0 + (0 + i))) k)
  (selT 1 2
  [Td.sc (Value.int IntKind.u8 (255 : Int)),
  Td.sc (Value.int IntKind.u8 (255 : Int))]
  (0 + (0 + i) -
  List.length
  (loadsN
  (listT Ld
  (Td.fr 1 (List.length l) c fun i =>
  encL l (0 + i)))
  (List.length
  (listT Ld
  (Td.fr 1 (List.length l) c fun i =>
  encL l (0 + i))))))
  k))
  (encL b
  (0 +
  (0 + i -
  (List.length
  (loadsN
  (listT Ld
  (Td.fr 1 (List.length l) c fun i =>
  encL l (0 + i)))
  (List.length
  (listT Ld
  (Td.fr 1 (List.length l) c fun i =>
  encL l (0 + i))))) +
  2)))
  k))))))
  (need
  (true &&
  Nat.ble
  (0 +
  List.length
  (loadsN
  (listT Ld
  (Td.fr 1 (List.length l) c fun i => encL l (0 + i)))
  (List.length
  (listT Ld
  (Td.fr 1 (List.length l) c fun i =>
  encL l (0 + i))))))
  (List.length
  (loadsN
  (listT Ld
  (Td.fr 1 (List.length l) c fun i => encL l (0 + i)))
  (List.length
  (listT Ld
  (Td.fr 1 (List.length l) c fun i => encL l (0 + i)))))))
  (need
  (okFd
  [Ta.agg
  [Td.fr 1
  (List.length
  (fdB false []
  (listT U8
  (Td.fr 1
  (List.length
  (loadsN
  (listT Ld
  (Td.fr 1 (List.length l) c fun i =>
  encL l (0 + i)))
  (List.length
  (listT Ld
  (Td.fr 1 (List.length l) c fun i =>
  encL l (0 + i))))) +
  2 +
  List.length b)
  1 fun i k =>
  mrgT
  (Nat.blt (0 + i)
  (List.length
  (loadsN
  (listT Ld
  (Td.fr 1 (List.length l) c fun i =>
  encL l (0 + i)))
  (List.length
  (listT Ld
  (Td.fr 1 (List.length l) c fun i =>
  encL l (0 + i))))) +
  2))
  (mrgT
  (Nat.blt (0 + (0 + i))
  (List.length
  (loadsN
  (listT Ld
  (Td.fr 1 (List.length l) c fun i =>
  encL l (0 + i)))
  (List.length
  (listT Ld
  (Td.fr 1 (List.length l) c fun i =>
  encL l (0 + i)))))))
  (encL
  (loadsN
  (listT Ld
  (Td.fr 1 (List.length l) c fun i =>
  encL l (0 + i)))
  (List.length
  (listT Ld
  (Td.fr 1 (List.length l) c fun i =>
  encL l (0 + i)))))
  (0 + (0 + (0 + i))) k)
  (selT 1 2
  [Td.sc (Value.int IntKind.u8 (255 : Int)),
  Td.sc (Value.int IntKind.u8 (255 : Int))]
  (0 + (0 + i) -
  List.length
  (loadsN
  (listT Ld
  (Td.fr 1 (List.length l) c fun i =>
  encL l (0 + i)))
  (List.length
  (listT Ld
  (Td.fr 1 (List.length l) c fun i =>
  encL l (0 + i))))))
  k))
  (encL b
  (0 +
  (0 + i -
  (List.length
  (loadsN
  (listT Ld
  (Td.fr 1 (List.length l) c fun i =>
  encL l (0 + i)))
  (List.length
  (listT Ld
  (Td.fr 1 (List.length l) c fun i =>
  encL l (0 + i))))) +
  2)))
  k)))))
  (fdC false [] 1
  (listT U8
  (Td.fr 1
  (List.length
  (loadsN
  (listT Ld
  (Td.fr 1 (List.length l) c fun i =>
  encL l (0 + i)))
  (List.length
  (listT Ld
  (Td.fr 1 (List.length l) c fun i =>
  encL l (0 + i))))) +
  2 +
  List.length b)
  1 fun i k =>
  mrgT
  (Nat.blt (0 + i)
  (List.length
  (loadsN
  (listT Ld
  (Td.fr 1 (List.length l) c fun i =>
  encL l (0 + i)))
  (List.length
  (listT Ld
  (Td.fr 1 (List.length l) c fun i =>
  encL l (0 + i))))) +
  2))
  (mrgT
  (Nat.blt (0 + (0 + i))
  (List.length
  (loadsN
  (listT Ld
  (Td.fr 1 (List.length l) c fun i =>
  encL l (0 + i)))
  (List.length
  (listT Ld
  (Td.fr 1 (List.length l) c fun i =>
  encL l (0 + i)))))))
  (encL
  (loadsN
  (listT Ld
  (Td.fr 1 (List.length l) c fun i =>
  encL l (0 + i)))
  (List.length
  (listT Ld
  (Td.fr 1 (List.length l) c fun i =>
  encL l (0 + i)))))
  (0 + (0 + (0 + i))) k)
  (selT 1 2
  [Td.sc (Value.int IntKind.u8 (255 : Int)),
  Td.sc (Value.int IntKind.u8 (255 : Int))]
  (0 + (0 + i) -
  List.length
  (loadsN
  (listT Ld
  (Td.fr 1 (List.length l) c fun i =>
  encL l (0 + i)))
  (List.length
  (listT Ld
  (Td.fr 1 (List.length l) c fun i =>
  encL l (0 + i))))))
  k))
  (encL b
  (0 +
  (0 + i -
  (List.length
  (loadsN
  (listT Ld
  (Td.fr 1 (List.length l) c fun i =>
  encL l (0 + i)))
  (List.length
  (listT Ld
  (Td.fr 1 (List.length l) c fun i =>
  encL l (0 + i))))) +
  2)))
  k))))
  fun i =>
  encL
  (fdB false []
  (listT U8
  (Td.fr 1
  (List.length
  (loadsN
  (listT Ld
  (Td.fr 1 (List.length l) c fun i =>
  encL l (0 + i)))
  (List.length
  (listT Ld
  (Td.fr 1 (List.length l) c fun i =>
  encL l (0 + i))))) +
  2 +
  List.length b)
  1 fun i k =>
  mrgT
  (Nat.blt (0 + i)
  (List.length
  (loadsN
  (listT Ld
  (Td.fr 1 (List.length l) c fun i =>
  encL l (0 + i)))
  (List.length
  (listT Ld
  (Td.fr 1 (List.length l) c fun i =>
  encL l (0 + i))))) +
  2))
  (mrgT
  (Nat.blt (0 + (0 + i))
  (List.length
  (loadsN
  (listT Ld
  (Td.fr 1 (List.length l) c fun i =>
  encL l (0 + i)))
  (List.length
  (listT Ld
  (Td.fr 1 (List.length l) c fun i =>
  encL l (0 + i)))))))
  (encL
  (loadsN
  (listT Ld
  (Td.fr 1 (List.length l) c fun i =>
  encL l (0 + i)))
  (List.length
  (listT Ld
  (Td.fr 1 (List.length l) c fun i =>
  encL l (0 + i)))))
  (0 + (0 + (0 + i))) k)
  (selT 1 2
  [Td.sc (Value.int IntKind.u8 (255 : Int)),
  Td.sc (Value.int IntKind.u8 (255 : Int))]
  (0 + (0 + i) -
  List.length
  (loadsN
  (listT Ld
  (Td.fr 1 (List.length l) c fun i =>
  encL l (0 + i)))
  (List.length
  (listT Ld
  (Td.fr 1 (List.length l) c fun i =>
  encL l (0 + i))))))
  k))
  (encL b
  (0 +
  (0 + i -
  (List.length
  (loadsN
  (listT Ld
  (Td.fr 1 (List.length l) c fun i =>
  encL l (0 + i)))
  (List.length
  (listT Ld
  (Td.fr 1 (List.length l) c fun i =>
  encL l (0 + i))))) +
  2)))
  k))))
  (0 + i),
  Td.sc
  (Value.bool
  (fdQ false []
  (listT U8
  (Td.fr 1
  (List.length
  (loadsN
  (listT Ld
  (Td.fr 1 (List.length l) c fun i =>
  encL l (0 + i)))
  (List.length
  (listT Ld
  (Td.fr 1 (List.length l) c fun i =>
  encL l (0 + i))))) +
  2 +
  List.length b)
  1 fun i k =>
  mrgT
  (Nat.blt (0 + i)
  (List.length
  (loadsN
  (listT Ld
  (Td.fr 1 (List.length l) c fun i =>
  encL l (0 + i)))
  (List.length
  (listT Ld
  (Td.fr 1 (List.length l) c fun i =>
  encL l (0 + i))))) +
  2))
  (mrgT
  (Nat.blt (0 + (0 + i))
  (List.length
  (loadsN
  (listT Ld
  (Td.fr 1 (List.length l) c fun i =>
  encL l (0 + i)))
  (List.length
  (listT Ld
  (Td.fr 1 (List.length l) c fun i =>
  encL l (0 + i)))))))
  (encL
  (loadsN
  (listT Ld
  (Td.fr 1 (List.length l) c fun i =>
  encL l (0 + i)))
  (List.length
  (listT Ld
  (Td.fr 1 (List.length l) c fun i =>
  encL l (0 + i)))))
  (0 + (0 + (0 + i))) k)
  (selT 1 2
  [Td.sc (Value.int IntKind.u8 (255 : Int)),
  Td.sc (Value.int IntKind.u8 (255 : Int))]
  (0 + (0 + i) -
  List.length
  (loadsN
  (listT Ld
  (Td.fr 1 (List.length l) c fun i =>
  encL l (0 + i)))
  (List.length
  (listT Ld
  (Td.fr 1 (List.length l) c fun i =>
  encL l (0 + i))))))
  k))
  (encL b
  (0 +
  (0 + i -
  (List.length
  (loadsN
  (listT Ld
  (Td.fr 1 (List.length l) c fun i =>
  encL l (0 + i)))
  (List.length
  (listT Ld
  (Td.fr 1 (List.length l) c fun i =>
  encL l (0 + i))))) +
  2)))
  k)))))],
  Ta.cell
  (Td.fr 1
  (List.length
  (loadsN
  (listT Ld
  (Td.fr 1 (List.length l) c fun i => encL l (0 + i)))
  (List.length
  (listT Ld
  (Td.fr 1 (List.length l) c fun i =>
  encL l (0 + i))))))
  1 fun i =>
  encL
  (loadsN
  (listT Ld
  (Td.fr 1 (List.length l) c fun i => encL l (0 + i)))
  (List.length
  (listT Ld
  (Td.fr 1 (List.length l) c fun i =>
  encL l (0 + i)))))
  (0 + i))])
  (need
  (fdQ false []
  (listT U8
  (Td.fr 1
  (List.length
  (loadsN
  (listT Ld
  (Td.fr 1 (List.length l) c fun i =>
  encL l (0 + i)))
  (List.length
  (listT Ld
  (Td.fr 1 (List.length l) c fun i =>
  encL l (0 + i))))) +
  2 +
  List.length b)
  1 fun i k =>
  mrgT
  (Nat.blt (0 + i)
  (List.length
  (loadsN
  (listT Ld
  (Td.fr 1 (List.length l) c fun i =>
  encL l (0 + i)))
  (List.length
  (listT Ld
  (Td.fr 1 (List.length l) c fun i =>
  encL l (0 + i))))) +
  2))
  (mrgT
  (Nat.blt (0 + (0 + i))
  (List.length
  (loadsN
  (listT Ld
  (Td.fr 1 (List.length l) c fun i =>
  encL l (0 + i)))
  (List.length
  (listT Ld
  (Td.fr 1 (List.length l) c fun i =>
  encL l (0 + i)))))))
  (encL
  (loadsN
  (listT Ld
  (Td.fr 1 (List.length l) c fun i =>
  encL l (0 + i)))
  (List.length
  (listT Ld
  (Td.fr 1 (List.length l) c fun i =>
  encL l (0 + i)))))
  (0 + (0 + (0 + i))) k)
  (selT 1 2
  [Td.sc (Value.int IntKind.u8 (255 : Int)),
  Td.sc (Value.int IntKind.u8 (255 : Int))]
  (0 + (0 + i) -
  List.length
  (loadsN
  (listT Ld
  (Td.fr 1 (List.length l) c fun i =>
  encL l (0 + i)))
  (List.length
  (listT Ld
  (Td.fr 1 (List.length l) c fun i =>
  encL l (0 + i))))))
  k))
  (encL b
  (0 +
  (0 + i -
  (List.length
  (loadsN
  (listT Ld
  (Td.fr 1 (List.length l) c fun i =>
  encL l (0 + i)))
  (List.length
  (listT Ld
  (Td.fr 1 (List.length l) c fun i =>
  encL l (0 + i))))) +
  2)))
  k))))
  (need
  (Int.ofNat
  (List.length
  (fdB false []
  (listT U8
  (Td.fr 1
  (List.length
  (loadsN
  (listT Ld
  (Td.fr 1 (List.length l) c fun i =>
  encL l (0 + i)))
  (List.length
  (listT Ld
  (Td.fr 1 (List.length l) c fun i =>
  encL l (0 + i))))) +
  2 +
  List.length b)
  1 fun i k =>
  mrgT
  (Nat.blt (0 + i)
  (List.length
  (loadsN
  (listT Ld
  (Td.fr 1 (List.length l) c fun i =>
  encL l (0 + i)))
  (List.length
  (listT Ld
  (Td.fr 1 (List.length l) c fun i =>
  encL l (0 + i))))) +
  2))
  (mrgT
  (Nat.blt (0 + (0 + i))
  (List.length
  (loadsN
  (listT Ld
  (Td.fr 1 (List.length l) c fun i =>
  encL l (0 + i)))
  (List.length
  (listT Ld
  (Td.fr 1 (List.length l) c fun i =>
  encL l (0 + i)))))))
  (encL
  (loadsN
  (listT Ld
  (Td.fr 1 (List.length l) c fun i =>
  encL l (0 + i)))
  (List.length
  (listT Ld
  (Td.fr 1 (List.length l) c fun i =>
  encL l (0 + i)))))
  (0 + (0 + (0 + i))) k)
  (selT 1 2
  [Td.sc (Value.int IntKind.u8 (255 : Int)),
  Td.sc (Value.int IntKind.u8 (255 : Int))]
  (0 + (0 + i) -
  List.length
  (loadsN
  (listT Ld
  (Td.fr 1 (List.length l) c fun i =>
  encL l (0 + i)))
  (List.length
  (listT Ld
  (Td.fr 1 (List.length l) c fun i =>
  encL l (0 + i))))))
  k))
  (encL b
  (0 +
  (0 + i -
  (List.length
  (loadsN
  (listT Ld
  (Td.fr 1 (List.length l) c fun i =>
  encL l (0 + i)))
  (List.length
  (listT Ld
  (Td.fr 1 (List.length l) c fun i =>
  encL l (0 + i))))) +
  2)))
  k))))) ==
  (0 : Int))
  (need
  (true &&
  Nat.ble
  (0 +
  List.length
  (fdL false []
  (listT U8
  (Td.fr 1
  (List.length
  (loadsN
  (listT Ld
  (Td.fr 1 (List.length l) c fun i =>
  encL l (0 + i)))
  (List.length
  (listT Ld
  (Td.fr 1 (List.length l) c fun i =>
  encL l (0 + i))))) +
  2 +
  List.length b)
  1 fun i k =>
  mrgT
  (Nat.blt (0 + i)
  (List.length
  (loadsN
  (listT Ld
  (Td.fr 1 (List.length l) c fun i =>
  encL l (0 + i)))
  (List.length
  (listT Ld
  (Td.fr 1 (List.length l) c fun i =>
  encL l (0 + i))))) +
  2))
  (mrgT
  (Nat.blt (0 + (0 + i))
  (List.length
  (loadsN
  (listT Ld
  (Td.fr 1 (List.length l) c fun i =>
  encL l (0 + i)))
  (List.length
  (listT Ld
  (Td.fr 1 (List.length l) c fun i =>
  encL l (0 + i)))))))
  (encL
  (loadsN
  (listT Ld
  (Td.fr 1 (List.length l) c fun i =>
  encL l (0 + i)))
  (List.length
  (listT Ld
  (Td.fr 1 (List.length l) c fun i =>
  encL l (0 + i)))))
  (0 + (0 + (0 + i))) k)
  (selT 1 2
  [Td.sc (Value.int IntKind.u8 (255 : Int)),
  Td.sc (Value.int IntKind.u8 (255 : Int))]
  (0 + (0 + i) -
  List.length
  (loadsN
  (listT Ld
  (Td.fr 1 (List.length l) c fun i =>
  encL l (0 + i)))
  (List.length
  (listT Ld
  (Td.fr 1 (List.length l) c fun i =>
  encL l (0 + i))))))
  k))
  (encL b
  (0 +
  (0 + i -
  (List.length
  (loadsN
  (listT Ld
  (Td.fr 1 (List.length l) c fun i =>
  encL l (0 + i)))
  (List.length
  (listT Ld
  (Td.fr 1 (List.length l) c fun i =>
  encL l (0 + i))))) +
  2)))
  k)))))
  (List.length
  (fdL false []
  (listT U8
  (Td.fr 1
  (List.length
  (loadsN
  (listT Ld
  (Td.fr 1 (List.length l) c fun i =>
  encL l (0 + i)))
  (List.length
  (listT Ld
  (Td.fr 1 (List.length l) c fun i =>
  encL l (0 + i))))) +
  2 +
  List.length b)
  1 fun i k =>
  mrgT
  (Nat.blt (0 + i)
  (List.length
  (loadsN
  (listT Ld
  (Td.fr 1 (List.length l) c fun i =>
  encL l (0 + i)))
  (List.length
  (listT Ld
  (Td.fr 1 (List.length l) c fun i =>
  encL l (0 + i))))) +
  2))
  (mrgT
  (Nat.blt (0 + (0 + i))
  (List.length
  (loadsN
  (listT Ld
  (Td.fr 1 (List.length l) c fun i =>
  encL l (0 + i)))
  (List.length
  (listT Ld
  (Td.fr 1 (List.length l) c fun i =>
  encL l (0 + i)))))))
  (encL
  (loadsN
  (listT Ld
  (Td.fr 1 (List.length l) c fun i =>
  encL l (0 + i)))
  (List.length
  (listT Ld
  (Td.fr 1 (List.length l) c fun i =>
  encL l (0 + i)))))
  (0 + (0 + (0 + i))) k)
  (selT 1 2
  [Td.sc (Value.int IntKind.u8 (255 : Int)),
  Td.sc (Value.int IntKind.u8 (255 : Int))]
  (0 + (0 + i) -
  List.length
  (loadsN
  (listT Ld
  (Td.fr 1 (List.length l) c fun i =>
  encL l (0 + i)))
  (List.length
  (listT Ld
  (Td.fr 1 (List.length l) c fun i =>
  encL l (0 + i))))))
  k))
  (encL b
  (0 +
  (0 + i -
  (List.length
  (loadsN
  (listT Ld
  (Td.fr 1 (List.length l) c fun i =>
  encL l (0 + i)))
  (List.length
  (listT Ld
  (Td.fr 1 (List.length l) c fun i =>
  encL l (0 + i))))) +
  2)))
  k))))))
  (need (true && Nat.ble (0 + List.length l) (List.length l))
  (need
  (ok2 Ld Ld (fun l x m x_1 => List.all l (okA Ld) && List.all m (okA Ld))
  [Ta.cell
  (Td.fr 1
  (List.length
  (fdL false []
  (listT U8
  (Td.fr 1
  (List.length
  (loadsN
  (listT Ld
  (Td.fr 1 (List.length l) c fun i =>
  encL l (0 + i)))
  (List.length
  (listT Ld
  (Td.fr 1 (List.length l) c fun i =>
  encL l (0 + i))))) +
  2 +
  List.length b)
  1 fun i k =>
  mrgT
  (Nat.blt (0 + i)
  (List.length
  (loadsN
  (listT Ld
  (Td.fr 1 (List.length l) c fun i =>
  encL l (0 + i)))
  (List.length
  (listT Ld
  (Td.fr 1 (List.length l) c
  fun i => encL l (0 + i))))) +
  2))
  (mrgT
  (Nat.blt (0 + (0 + i))
  (List.length
  (loadsN
  (listT Ld
  (Td.fr 1 (List.length l) c fun i =>
  encL l (0 + i)))
  (List.length
  (listT Ld
  (Td.fr 1 (List.length l) c
  fun i => encL l (0 + i)))))))
  (encL
  (loadsN
  (listT Ld
  (Td.fr 1 (List.length l) c fun i =>
  encL l (0 + i)))
  (List.length
  (listT Ld
  (Td.fr 1 (List.length l) c fun i =>
  encL l (0 + i)))))
  (0 + (0 + (0 + i))) k)
  (selT 1 2
  [Td.sc (Value.int IntKind.u8 (255 : Int)),
  Td.sc (Value.int IntKind.u8 (255 : Int))]
  (0 + (0 + i) -
  List.length
  (loadsN
  (listT Ld
  (Td.fr 1 (List.length l) c
  fun i => encL l (0 + i)))
  (List.length
  (listT Ld
  (Td.fr 1 (List.length l) c
  fun i => encL l (0 + i))))))
  k))
  (encL b
  (0 +
  (0 + i -
  (List.length
  (loadsN
  (listT Ld
  (Td.fr 1 (List.length l) c
  fun i => encL l (0 + i)))
  (List.length
  (listT Ld
  (Td.fr 1 (List.length l) c
  fun i =>
  encL l (0 + i))))) +
  2)))
  k)))))
  1 fun i =>
  encL
  (fdL false []
  (listT U8
  (Td.fr 1
  (List.length
  (loadsN
  (listT Ld
  (Td.fr 1 (List.length l) c fun i =>
  encL l (0 + i)))
  (List.length
  (listT Ld
  (Td.fr 1 (List.length l) c fun i =>
  encL l (0 + i))))) +
  2 +
  List.length b)
  1 fun i k =>
  mrgT
  (Nat.blt (0 + i)
  (List.length
  (loadsN
  (listT Ld
  (Td.fr 1 (List.length l) c fun i =>
  encL l (0 + i)))
  (List.length
  (listT Ld
  (Td.fr 1 (List.length l) c
  fun i => encL l (0 + i))))) +
  2))
  (mrgT
  (Nat.blt (0 + (0 + i))
  (List.length
  (loadsN
  (listT Ld
  (Td.fr 1 (List.length l) c fun i =>
  encL l (0 + i)))
  (List.length
  (listT Ld
  (Td.fr 1 (List.length l) c
  fun i => encL l (0 + i)))))))
  (encL
  (loadsN
  (listT Ld
  (Td.fr 1 (List.length l) c fun i =>
  encL l (0 + i)))
  (List.length
  (listT Ld
  (Td.fr 1 (List.length l) c fun i =>
  encL l (0 + i)))))
  (0 + (0 + (0 + i))) k)
  (selT 1 2
  [Td.sc (Value.int IntKind.u8 (255 : Int)),
  Td.sc (Value.int IntKind.u8 (255 : Int))]
  (0 + (0 + i) -
  List.length
  (loadsN
  (listT Ld
  (Td.fr 1 (List.length l) c
  fun i => encL l (0 + i)))
  (List.length
  (listT Ld
  (Td.fr 1 (List.length l) c
  fun i => encL l (0 + i))))))
  k))
  (encL b
  (0 +
  (0 + i -
  (List.length
  (loadsN
  (listT Ld
  (Td.fr 1 (List.length l) c
  fun i => encL l (0 + i)))
  (List.length
  (listT Ld
  (Td.fr 1 (List.length l) c
  fun i =>
  encL l (0 + i))))) +
  2)))
  k))))
  (0 + i)),
  Ta.cell
  (Td.fr 1 (List.length l) c fun i =>
  encL l (0 + i))])
  (need
  (sameLs
  (listT Ld
  (Td.fr 1
  (List.length
  (fdL false []
  (listT U8
  (Td.fr 1
  (List.length
  (loadsN
  (listT Ld
  (Td.fr 1 (List.length l) c fun i =>
  encL l (0 + i)))
  (List.length
  (listT Ld
  (Td.fr 1 (List.length l) c fun i =>
  encL l (0 + i))))) +
  2 +
  List.length b)
  1 fun i k =>
  mrgT
  (Nat.blt (0 + i)
  (List.length
  (loadsN
  (listT Ld
  (Td.fr 1 (List.length l) c fun i =>
  encL l (0 + i)))
  (List.length
  (listT Ld
  (Td.fr 1 (List.length l) c
  fun i => encL l (0 + i))))) +
  2))
  (mrgT
  (Nat.blt (0 + (0 + i))
  (List.length
  (loadsN
  (listT Ld
  (Td.fr 1 (List.length l) c fun i =>
  encL l (0 + i)))
  (List.length
  (listT Ld
  (Td.fr 1 (List.length l) c
  fun i => encL l (0 + i)))))))
  (encL
  (loadsN
  (listT Ld
  (Td.fr 1 (List.length l) c fun i =>
  encL l (0 + i)))
  (List.length
  (listT Ld
  (Td.fr 1 (List.length l) c fun i =>
  encL l (0 + i)))))
  (0 + (0 + (0 + i))) k)
  (selT 1 2
  [Td.sc (Value.int IntKind.u8 (255 : Int)),
  Td.sc (Value.int IntKind.u8 (255 : Int))]
  (0 + (0 + i) -
  List.length
  (loadsN
  (listT Ld
  (Td.fr 1 (List.length l) c
  fun i => encL l (0 + i)))
  (List.length
  (listT Ld
  (Td.fr 1 (List.length l) c
  fun i => encL l (0 + i))))))
  k))
  (encL b
  (0 +
  (0 + i -
  (List.length
  (loadsN
  (listT Ld
  (Td.fr 1 (List.length l) c
  fun i => encL l (0 + i)))
  (List.length
  (listT Ld
  (Td.fr 1 (List.length l) c
  fun i =>
  encL l (0 + i))))) +
  2)))
  k)))))
  1 fun i =>
  encL
  (fdL false []
  (listT U8
  (Td.fr 1
  (List.length
  (loadsN
  (listT Ld
  (Td.fr 1 (List.length l) c fun i =>
  encL l (0 + i)))
  (List.length
  (listT Ld
  (Td.fr 1 (List.length l) c fun i =>
  encL l (0 + i))))) +
  2 +
  List.length b)
  1 fun i k =>
  mrgT
  (Nat.blt (0 + i)
  (List.length
  (loadsN
  (listT Ld
  (Td.fr 1 (List.length l) c fun i =>
  encL l (0 + i)))
  (List.length
  (listT Ld
  (Td.fr 1 (List.length l) c
  fun i => encL l (0 + i))))) +
  2))
  (mrgT
  (Nat.blt (0 + (0 + i))
  (List.length
  (loadsN
  (listT Ld
  (Td.fr 1 (List.length l) c fun i =>
  encL l (0 + i)))
  (List.length
  (listT Ld
  (Td.fr 1 (List.length l) c
  fun i => encL l (0 + i)))))))
  (encL
  (loadsN
  (listT Ld
  (Td.fr 1 (List.length l) c fun i =>
  encL l (0 + i)))
  (List.length
  (listT Ld
  (Td.fr 1 (List.length l) c fun i =>
  encL l (0 + i)))))
  (0 + (0 + (0 + i))) k)
  (selT 1 2
  [Td.sc (Value.int IntKind.u8 (255 : Int)),
  Td.sc (Value.int IntKind.u8 (255 : Int))]
  (0 + (0 + i) -
  List.length
  (loadsN
  (listT Ld
  (Td.fr 1 (List.length l) c
  fun i => encL l (0 + i)))
  (List.length
  (listT Ld
  (Td.fr 1 (List.length l) c
  fun i => encL l (0 + i))))))
  k))
  (encL b
  (0 +
  (0 + i -
  (List.length
  (loadsN
  (listT Ld
  (Td.fr 1 (List.length l) c
  fun i => encL l (0 + i)))
  (List.length
  (listT Ld
  (Td.fr 1 (List.length l) c
  fun i =>
  encL l (0 + i))))) +
  2)))
  k))))
  (0 + i)))
  (listT Ld
  (Td.fr 1 (List.length l) c fun i =>
  encL l (0 + i))))
  (need
  (fdQ
  (boolD
  (Td.sc
  (Value.bool
  (fdQ false []
  (listT U8
  (Td.fr 1
  (List.length
  (loadsN
  (listT Ld
  (Td.fr 1 (List.length l) c fun i =>
  encL l (0 + i)))
  (List.length
  (listT Ld
  (Td.fr 1 (List.length l) c
  fun i => encL l (0 + i))))) +
  2 +
  List.length b)
  1 fun i k =>
  mrgT
  (Nat.blt (0 + i)
  (List.length
  (loadsN
  (listT Ld
  (Td.fr 1 (List.length l) c
  fun i => encL l (0 + i)))
  (List.length
  (listT Ld
  (Td.fr 1 (List.length l) c
  fun i => encL l (0 + i))))) +
  2))
  (mrgT
  (Nat.blt (0 + (0 + i))
  (List.length
  (loadsN
  (listT Ld
  (Td.fr 1 (List.length l) c
  fun i => encL l (0 + i)))
  (List.length
  (listT Ld
  (Td.fr 1 (List.length l) c
  fun i => encL l (0 + i)))))))
  (encL
  (loadsN
  (listT Ld
  (Td.fr 1 (List.length l) c fun i =>
  encL l (0 + i)))
  (List.length
  (listT Ld
  (Td.fr 1 (List.length l) c
  fun i => encL l (0 + i)))))
  (0 + (0 + (0 + i))) k)
  (selT 1 2
  [Td.sc (Value.int IntKind.u8 (255 : Int)),
  Td.sc (Value.int IntKind.u8 (255 : Int))]
  (0 + (0 + i) -
  List.length
  (loadsN
  (listT Ld
  (Td.fr 1 (List.length l) c
  fun i => encL l (0 + i)))
  (List.length
  (listT Ld
  (Td.fr 1 (List.length l) c
  fun i => encL l (0 + i))))))
  k))
  (encL b
  (0 +
  (0 + i -
  (List.length
  (loadsN
  (listT Ld
  (Td.fr 1 (List.length l) c
  fun i => encL l (0 + i)))
  (List.length
  (listT Ld
  (Td.fr 1 (List.length l) c
  fun i =>
  encL l (0 + i))))) +
  2)))
  k)))))))
  (listT U8
  (Td.fr 1
  (List.length
  (fdB false []
  (listT U8
  (Td.fr 1
  (List.length
  (loadsN
  (listT Ld
  (Td.fr 1 (List.length l) c fun i =>
  encL l (0 + i)))
  (List.length
  (listT Ld
  (Td.fr 1 (List.length l) c
  fun i => encL l (0 + i))))) +
  2 +
  List.length b)
  1 fun i k =>
  mrgT
  (Nat.blt (0 + i)
  (List.length
  (loadsN
  (listT Ld
  (Td.fr 1 (List.length l) c
  fun i => encL l (0 + i)))
  (List.length
  (listT Ld
  (Td.fr 1 (List.length l) c
  fun i => encL l (0 + i))))) +
  2))
  (mrgT
  (Nat.blt (0 + (0 + i))
  (List.length
  (loadsN
  (listT Ld
  (Td.fr 1 (List.length l) c
  fun i => encL l (0 + i)))
  (List.length
  (listT Ld
  (Td.fr 1 (List.length l) c
  fun i => encL l (0 + i)))))))
  (encL
  (loadsN
  (listT Ld
  (Td.fr 1 (List.length l) c fun i =>
  encL l (0 + i)))
  (List.length
  (listT Ld
  (Td.fr 1 (List.length l) c
  fun i => encL l (0 + i)))))
  (0 + (0 + (0 + i))) k)
  (selT 1 2
  [Td.sc (Value.int IntKind.u8 (255 : Int)),
  Td.sc (Value.int IntKind.u8 (255 : Int))]
  (0 + (0 + i) -
  List.length
  (loadsN
  (listT Ld
  (Td.fr 1 (List.length l) c
  fun i => encL l (0 + i)))
  (List.length
  (listT Ld
  (Td.fr 1 (List.length l) c
  fun i => encL l (0 + i))))))
  k))
  (encL b
  (0 +
  (0 + i -
  (List.length
  (loadsN
  (listT Ld
  (Td.fr 1 (List.length l) c
  fun i => encL l (0 + i)))
  (List.length
  (listT Ld
  (Td.fr 1 (List.length l) c
  fun i =>
  encL l (0 + i))))) +
  2)))
  k)))))
  (fdC false [] 1
  (listT U8
  (Td.fr 1
  (List.length
  (loadsN
  (listT Ld
  (Td.fr 1 (List.length l) c fun i =>
  encL l (0 + i)))
  (List.length
  (listT Ld
  (Td.fr 1 (List.length l) c fun i =>
  encL l (0 + i))))) +
  2 +
  List.length b)
  1 fun i k =>
  mrgT
  (Nat.blt (0 + i)
  (List.length
  (loadsN
  (listT Ld
  (Td.fr 1 (List.length l) c fun i =>
  encL l (0 + i)))
  (List.length
  (listT Ld
  (Td.fr 1 (List.length l) c
  fun i => encL l (0 + i))))) +
  2))
  (mrgT
  (Nat.blt (0 + (0 + i))
  (List.length
  (loadsN
  (listT Ld
  (Td.fr 1 (List.length l) c fun i =>
  encL l (0 + i)))
  (List.length
  (listT Ld
  (Td.fr 1 (List.length l) c
  fun i => encL l (0 + i)))))))
  (encL
  (loadsN
  (listT Ld
  (Td.fr 1 (List.length l) c fun i =>
  encL l (0 + i)))
  (List.length
  (listT Ld
  (Td.fr 1 (List.length l) c fun i =>
  encL l (0 + i)))))
  (0 + (0 + (0 + i))) k)
  (selT 1 2
  [Td.sc (Value.int IntKind.u8 (255 : Int)),
  Td.sc (Value.int IntKind.u8 (255 : Int))]
  (0 + (0 + i) -
  List.length
  (loadsN
  (listT Ld
  (Td.fr 1 (List.length l) c
  fun i => encL l (0 + i)))
  (List.length
  (listT Ld
  (Td.fr 1 (List.length l) c
  fun i => encL l (0 + i))))))
  k))
  (encL b
  (0 +
  (0 + i -
  (List.length
  (loadsN
  (listT Ld
  (Td.fr 1 (List.length l) c
  fun i => encL l (0 + i)))
  (List.length
  (listT Ld
  (Td.fr 1 (List.length l) c
  fun i =>
  encL l (0 + i))))) +
  2)))
  k))))
  fun i =>
  encL
  (fdB false []
  (listT U8
  (Td.fr 1
  (List.length
  (loadsN
  (listT Ld
  (Td.fr 1 (List.length l) c fun i =>
  encL l (0 + i)))
  (List.length
  (listT Ld
  (Td.fr 1 (List.length l) c
  fun i => encL l (0 + i))))) +
  2 +
  List.length b)
  1 fun i k =>
  mrgT
  (Nat.blt (0 + i)
  (List.length
  (loadsN
  (listT Ld
  (Td.fr 1 (List.length l) c
  fun i => encL l (0 + i)))
  (List.length
  (listT Ld
  (Td.fr 1 (List.length l) c
  fun i => encL l (0 + i))))) +
  2))
  (mrgT
  (Nat.blt (0 + (0 + i))
  (List.length
  (loadsN
  (listT Ld
  (Td.fr 1 (List.length l) c
  fun i => encL l (0 + i)))
  (List.length
  (listT Ld
  (Td.fr 1 (List.length l) c
  fun i => encL l (0 + i)))))))
  (encL
  (loadsN
  (listT Ld
  (Td.fr 1 (List.length l) c fun i =>
  encL l (0 + i)))
  (List.length
  (listT Ld
  (Td.fr 1 (List.length l) c
  fun i => encL l (0 + i)))))
  (0 + (0 + (0 + i))) k)
  (selT 1 2
  [Td.sc (Value.int IntKind.u8 (255 : Int)),
  Td.sc (Value.int IntKind.u8 (255 : Int))]
  (0 + (0 + i) -
  List.length
  (loadsN
  (listT Ld
  (Td.fr 1 (List.length l) c
  fun i => encL l (0 + i)))
  (List.length
  (listT Ld
  (Td.fr 1 (List.length l) c
  fun i => encL l (0 + i))))))
  k))
  (encL b
  (0 +
  (0 + i -
  (List.length
  (loadsN
  (listT Ld
  (Td.fr 1 (List.length l) c
  fun i => encL l (0 + i)))
  (List.length
  (listT Ld
  (Td.fr 1 (List.length l) c
  fun i =>
  encL l (0 + i))))) +
  2)))
  k))))
  (0 + i)))
  (listT U8
  (Td.fr 1
  (List.length
  (loadsN
  (listT Ld
  (Td.fr 1 (List.length l) c fun i =>
  encL l (0 + i)))
  (List.length
  (listT Ld
  (Td.fr 1 (List.length l) c fun i =>
  encL l (0 + i))))))
  1 fun i =>
  encL
  (loadsN
  (listT Ld
  (Td.fr 1 (List.length l) c fun i =>
  encL l (0 + i)))
  (List.length
  (listT Ld
  (Td.fr 1 (List.length l) c fun i =>
  encL l (0 + i)))))
  (0 + i))))
  (need
  (Int.ofNat
  (List.length
  (fdB
  (boolD
  (Td.sc
  (Value.bool
  (fdQ false []
  (listT U8
  (Td.fr 1
  (List.length
  (loadsN
  (listT Ld
  (Td.fr 1 (List.length l) c
  fun i => encL l (0 + i)))
  (List.length
  (listT Ld
  (Td.fr 1 (List.length l) c
  fun i =>
  encL l (0 + i))))) +
  2 +
  List.length b)
  1 fun i k =>
  mrgT
  (Nat.blt (0 + i)
  (List.length
  (loadsN
  (listT Ld
  (Td.fr 1 (List.length l) c
  fun i =>
  encL l (0 + i)))
  (List.length
  (listT Ld
  (Td.fr 1 (List.length l)
  c fun i =>
  encL l (0 + i))))) +
  2))
  (mrgT
  (Nat.blt (0 + (0 + i))
  (List.length
  (loadsN
  (listT Ld
  (Td.fr 1 (List.length l) c
  fun i =>
  encL l (0 + i)))
  (List.length
  (listT Ld
  (Td.fr 1 (List.length l)
  c fun i =>
  encL l (0 + i)))))))
  (encL
  (loadsN
  (listT Ld
  (Td.fr 1 (List.length l) c
  fun i => encL l (0 + i)))
  (List.length
  (listT Ld
  (Td.fr 1 (List.length l) c
  fun i =>
  encL l (0 + i)))))
  (0 +
  (0 + (0 + i)))
  k)
  (selT 1 2
  [Td.sc
  (Value.int IntKind.u8 (255 : Int)),
  Td.sc
  (Value.int IntKind.u8 (255 : Int))]
  (0 + (0 + i) -
  List.length
  (loadsN
  (listT Ld
  (Td.fr 1 (List.length l)
  c fun i =>
  encL l (0 + i)))
  (List.length
  (listT Ld
  (Td.fr 1
  (List.length l) c fun i =>
  encL l (0 + i))))))
  k))
  (encL b
  (0 +
  (0 + i -
  (List.length
  (loadsN
  (listT Ld
  (Td.fr 1
  (List.length l) c fun i =>
  encL l (0 + i)))
  (List.length
  (listT Ld
  (Td.fr 1
  (List.length l) c fun i =>
  encL l
  (0 + i))))) +
  2)))
  k)))))))
  (listT U8
  (Td.fr 1
  (List.length
  (fdB false []
  (listT U8
  (Td.fr 1
  (List.length
  (loadsN
  (listT Ld
  (Td.fr 1 (List.length l) c
  fun i => encL l (0 + i)))
  (List.length
  (listT Ld
  (Td.fr 1 (List.length l) c
  fun i =>
  encL l (0 + i))))) +
  2 +
  List.length b)
  1 fun i k =>
  mrgT
  (Nat.blt (0 + i)
  (List.length
  (loadsN
  (listT Ld
  (Td.fr 1 (List.length l) c
  fun i =>
  encL l (0 + i)))
  (List.length
  (listT Ld
  (Td.fr 1 (List.length l)
  c fun i =>
  encL l (0 + i))))) +
  2))
  (mrgT
  (Nat.blt (0 + (0 + i))
  (List.length
  (loadsN
  (listT Ld
  (Td.fr 1 (List.length l) c
  fun i =>
  encL l (0 + i)))
  (List.length
  (listT Ld
  (Td.fr 1 (List.length l)
  c fun i =>
  encL l (0 + i)))))))
  (encL
  (loadsN
  (listT Ld
  (Td.fr 1 (List.length l) c
  fun i => encL l (0 + i)))
  (List.length
  (listT Ld
  (Td.fr 1 (List.length l) c
  fun i =>
  encL l (0 + i)))))
  (0 +
  (0 + (0 + i)))
  k)
  (selT 1 2
  [Td.sc
  (Value.int IntKind.u8 (255 : Int)),
  Td.sc
  (Value.int IntKind.u8 (255 : Int))]
  (0 + (0 + i) -
  List.length
  (loadsN
  (listT Ld
  (Td.fr 1 (List.length l)
  c fun i =>
  encL l (0 + i)))
  (List.length
  (listT Ld
  (Td.fr 1
  (List.length l) c fun i =>
  encL l (0 + i))))))
  k))
  (encL b
  (0 +
  (0 + i -
  (List.length
  (loadsN
  (listT Ld
  (Td.fr 1
  (List.length l) c fun i =>
  encL l (0 + i)))
  (List.length
  (listT Ld
  (Td.fr 1
  (List.length l) c fun i =>
  encL l
  (0 + i))))) +
  2)))
  k)))))
  (fdC false [] 1
  (listT U8
  (Td.fr 1
  (List.length
  (loadsN
  (listT Ld
  (Td.fr 1 (List.length l) c
  fun i => encL l (0 + i)))
  (List.length
  (listT Ld
  (Td.fr 1 (List.length l) c
  fun i =>
  encL l (0 + i))))) +
  2 +
  List.length b)
  1 fun i k =>
  mrgT
  (Nat.blt (0 + i)
  (List.length
  (loadsN
  (listT Ld
  (Td.fr 1 (List.length l) c
  fun i => encL l (0 + i)))
  (List.length
  (listT Ld
  (Td.fr 1 (List.length l) c
  fun i =>
  encL l (0 + i))))) +
  2))
  (mrgT
  (Nat.blt (0 + (0 + i))
  (List.length
  (loadsN
  (listT Ld
  (Td.fr 1 (List.length l) c
  fun i => encL l (0 + i)))
  (List.length
  (listT Ld
  (Td.fr 1 (List.length l) c
  fun i =>
  encL l (0 + i)))))))
  (encL
  (loadsN
  (listT Ld
  (Td.fr 1 (List.length l) c
  fun i => encL l (0 + i)))
  (List.length
  (listT Ld
  (Td.fr 1 (List.length l) c
  fun i =>
  encL l (0 + i)))))
  (0 +
  (0 + (0 + i)))
  k)
  (selT 1 2
  [Td.sc (Value.int IntKind.u8 (255 : Int)),
  Td.sc
  (Value.int IntKind.u8 (255 : Int))]
  (0 + (0 + i) -
  List.length
  (loadsN
  (listT Ld
  (Td.fr 1 (List.length l) c
  fun i =>
  encL l (0 + i)))
  (List.length
  (listT Ld
  (Td.fr 1 (List.length l)
  c fun i =>
  encL l (0 + i))))))
  k))
  (encL b
  (0 +
  (0 + i -
  (List.length
  (loadsN
  (listT Ld
  (Td.fr 1 (List.length l)
  c fun i =>
  encL l (0 + i)))
  (List.length
  (listT Ld
  (Td.fr 1
  (List.length l) c fun i =>
  encL l (0 + i))))) +
  2)))
  k))))
  fun i =>
  encL
  (fdB false []
  (listT U8
  (Td.fr 1
  (List.length
  (loadsN
  (listT Ld
  (Td.fr 1 (List.length l) c
  fun i => encL l (0 + i)))
  (List.length
  (listT Ld
  (Td.fr 1 (List.length l) c
  fun i =>
  encL l (0 + i))))) +
  2 +
  List.length b)
  1 fun i k =>
  mrgT
  (Nat.blt (0 + i)
  (List.length
  (loadsN
  (listT Ld
  (Td.fr 1 (List.length l) c
  fun i =>
  encL l (0 + i)))
  (List.length
  (listT Ld
  (Td.fr 1 (List.length l)
  c fun i =>
  encL l (0 + i))))) +
  2))
  (mrgT
  (Nat.blt (0 + (0 + i))
  (List.length
  (loadsN
  (listT Ld
  (Td.fr 1 (List.length l) c
  fun i =>
  encL l (0 + i)))
  (List.length
  (listT Ld
  (Td.fr 1 (List.length l)
  c fun i =>
  encL l (0 + i)))))))
  (encL
  (loadsN
  (listT Ld
  (Td.fr 1 (List.length l) c
  fun i => encL l (0 + i)))
  (List.length
  (listT Ld
  (Td.fr 1 (List.length l) c
  fun i =>
  encL l (0 + i)))))
  (0 +
  (0 + (0 + i)))
  k)
  (selT 1 2
  [Td.sc
  (Value.int IntKind.u8 (255 : Int)),
  Td.sc
  (Value.int IntKind.u8 (255 : Int))]
  (0 + (0 + i) -
  List.length
  (loadsN
  (listT Ld
  (Td.fr 1 (List.length l)
  c fun i =>
  encL l (0 + i)))
  (List.length
  (listT Ld
  (Td.fr 1
  (List.length l) c fun i =>
  encL l (0 + i))))))
  k))
  (encL b
  (0 +
  (0 + i -
  (List.length
  (loadsN
  (listT Ld
  (Td.fr 1
  (List.length l) c fun i =>
  encL l (0 + i)))
  (List.length
  (listT Ld
  (Td.fr 1
  (List.length l) c fun i =>
  encL l
  (0 + i))))) +
  2)))
  k))))
  (0 + i)))
  (listT U8
  (Td.fr 1
  (List.length
  (loadsN
  (listT Ld
  (Td.fr 1 (List.length l) c fun i =>
  encL l (0 + i)))
  (List.length
  (listT Ld
  (Td.fr 1 (List.length l) c fun i =>
  encL l (0 + i))))))
  1 fun i =>
  encL
  (loadsN
  (listT Ld
  (Td.fr 1 (List.length l) c fun i =>
  encL l (0 + i)))
  (List.length
  (listT Ld
  (Td.fr 1 (List.length l) c fun i =>
  encL l (0 + i)))))
  (0 + i))))) ==
  (0 : Int))
  (need
  (Int.ofNat
  (List.length
  (fdL
  (boolD
  (Td.sc
  (Value.bool
  (fdQ false []
  (listT U8
  (Td.fr 1
  (List.length
  (loadsN
  (listT Ld
  (Td.fr 1 (List.length l) c
  fun i =>
  encL l (0 + i)))
  (List.length
  (listT Ld
  (Td.fr 1 (List.length l)
  c fun i =>
  encL l (0 + i))))) +
  2 +
  List.length b)
  1 fun i k =>
  mrgT
  (Nat.blt (0 + i)
  (List.length
  (loadsN
  (listT Ld
  (Td.fr 1 (List.length l)
  c fun i =>
  encL l (0 + i)))
  (List.length
  (listT Ld
  (Td.fr 1
  (List.length l) c fun i =>
  encL l (0 + i))))) +
  2))
  (mrgT
  (Nat.blt (0 + (0 + i))
  (List.length
  (loadsN
  (listT Ld
  (Td.fr 1 (List.length l)
  c fun i =>
  encL l (0 + i)))
  (List.length
  (listT Ld
  (Td.fr 1
  (List.length l) c fun i =>
  encL l (0 + i)))))))
  (encL
  (loadsN
  (listT Ld
  (Td.fr 1 (List.length l) c
  fun i =>
  encL l (0 + i)))
  (List.length
  (listT Ld
  (Td.fr 1 (List.length l)
  c fun i =>
  encL l (0 + i)))))
  (0 +
  (0 + (0 + i)))
  k)
  (selT 1 2
  [Td.sc
  (Value.int IntKind.u8
  (255 : Int)),
  Td.sc
  (Value.int IntKind.u8
  (255 : Int))]
  (0 + (0 + i) -
  List.length
  (loadsN
  (listT Ld
  (Td.fr 1
  (List.length l) c fun i =>
  encL l (0 + i)))
  (List.length
  (listT Ld
  (Td.fr 1
  (List.length l) c fun i =>
  encL l
  (0 + i))))))
  k))
  (encL b
  (0 +
  (0 + i -
  (List.length
  (loadsN
  (listT Ld
  (Td.fr 1
  (List.length l) c fun i =>
  encL l (0 + i)))
  (List.length
  (listT Ld
  (Td.fr 1
  (List.length l) c
  fun i =>
  encL l
  (0 + i))))) +
  2)))
  k)))))))
  (listT U8
  (Td.fr 1
  (List.length
  (fdB false []
  (listT U8
  (Td.fr 1
  (List.length
  (loadsN
  (listT Ld
  (Td.fr 1 (List.length l) c
  fun i =>
  encL l (0 + i)))
  (List.length
  (listT Ld
  (Td.fr 1 (List.length l)
  c fun i =>
  encL l (0 + i))))) +
  2 +
  List.length b)
  1 fun i k =>
  mrgT
  (Nat.blt (0 + i)
  (List.length
  (loadsN
  (listT Ld
  (Td.fr 1 (List.length l)
  c fun i =>
  encL l (0 + i)))
  (List.length
  (listT Ld
  (Td.fr 1
  (List.length l) c fun i =>
  encL l (0 + i))))) +
  2))
  (mrgT
  (Nat.blt (0 + (0 + i))
  (List.length
  (loadsN
  (listT Ld
  (Td.fr 1 (List.length l)
  c fun i =>
  encL l (0 + i)))
  (List.length
  (listT Ld
  (Td.fr 1
  (List.length l) c fun i =>
  encL l (0 + i)))))))
  (encL
  (loadsN
  (listT Ld
  (Td.fr 1 (List.length l) c
  fun i =>
  encL l (0 + i)))
  (List.length
  (listT Ld
  (Td.fr 1 (List.length l)
  c fun i =>
  encL l (0 + i)))))
  (0 +
  (0 + (0 + i)))
  k)
  (selT 1 2
  [Td.sc
  (Value.int IntKind.u8
  (255 : Int)),
  Td.sc
  (Value.int IntKind.u8
  (255 : Int))]
  (0 + (0 + i) -
  List.length
  (loadsN
  (listT Ld
  (Td.fr 1
  (List.length l) c fun i =>
  encL l (0 + i)))
  (List.length
  (listT Ld
  (Td.fr 1
  (List.length l) c fun i =>
  encL l
  (0 + i))))))
  k))
  (encL b
  (0 +
  (0 + i -
  (List.length
  (loadsN
  (listT Ld
  (Td.fr 1
  (List.length l) c fun i =>
  encL l (0 + i)))
  (List.length
  (listT Ld
  (Td.fr 1
  (List.length l) c
  fun i =>
  encL l
  (0 + i))))) +
  2)))
  k)))))
  (fdC false [] 1
  (listT U8
  (Td.fr 1
  (List.length
  (loadsN
  (listT Ld
  (Td.fr 1 (List.length l) c
  fun i => encL l (0 + i)))
  (List.length
  (listT Ld
  (Td.fr 1 (List.length l) c
  fun i =>
  encL l (0 + i))))) +
  2 +
  List.length b)
  1 fun i k =>
  mrgT
  (Nat.blt (0 + i)
  (List.length
  (loadsN
  (listT Ld
  (Td.fr 1 (List.length l) c
  fun i =>
  encL l (0 + i)))
  (List.length
  (listT Ld
  (Td.fr 1 (List.length l)
  c fun i =>
  encL l (0 + i))))) +
  2))
  (mrgT
  (Nat.blt (0 + (0 + i))
  (List.length
  (loadsN
  (listT Ld
  (Td.fr 1 (List.length l) c
  fun i =>
  encL l (0 + i)))
  (List.length
  (listT Ld
  (Td.fr 1 (List.length l)
  c fun i =>
  encL l (0 + i)))))))
  (encL
  (loadsN
  (listT Ld
  (Td.fr 1 (List.length l) c
  fun i => encL l (0 + i)))
  (List.length
  (listT Ld
  (Td.fr 1 (List.length l) c
  fun i =>
  encL l (0 + i)))))
  (0 +
  (0 + (0 + i)))
  k)
  (selT 1 2
  [Td.sc
  (Value.int IntKind.u8 (255 : Int)),
  Td.sc
  (Value.int IntKind.u8 (255 : Int))]
  (0 + (0 + i) -
  List.length
  (loadsN
  (listT Ld
  (Td.fr 1 (List.length l)
  c fun i =>
  encL l (0 + i)))
  (List.length
  (listT Ld
  (Td.fr 1
  (List.length l) c fun i =>
  encL l (0 + i))))))
  k))
  (encL b
  (0 +
  (0 + i -
  (List.length
  (loadsN
  (listT Ld
  (Td.fr 1
  (List.length l) c fun i =>
  encL l (0 + i)))
  (List.length
  (listT Ld
  (Td.fr 1
  (List.length l) c fun i =>
  encL l
  (0 + i))))) +
  2)))
  k))))
  fun i =>
  encL
  (fdB false []
  (listT U8
  (Td.fr 1
  (List.length
  (loadsN
  (listT Ld
  (Td.fr 1 (List.length l) c
  fun i =>
  encL l (0 + i)))
  (List.length
  (listT Ld
  (Td.fr 1 (List.length l)
  c fun i =>
  encL l (0 + i))))) +
  2 +
  List.length b)
  1 fun i k =>
  mrgT
  (Nat.blt (0 + i)
  (List.length
  (loadsN
  (listT Ld
  (Td.fr 1 (List.length l)
  c fun i =>
  encL l (0 + i)))
  (List.length
  (listT Ld
  (Td.fr 1
  (List.length l) c fun i =>
  encL l (0 + i))))) +
  2))
  (mrgT
  (Nat.blt (0 + (0 + i))
  (List.length
  (loadsN
  (listT Ld
  (Td.fr 1 (List.length l)
  c fun i =>
  encL l (0 + i)))
  (List.length
  (listT Ld
  (Td.fr 1
  (List.length l) c fun i =>
  encL l (0 + i)))))))
  (encL
  (loadsN
  (listT Ld
  (Td.fr 1 (List.length l) c
  fun i =>
  encL l (0 + i)))
  (List.length
  (listT Ld
  (Td.fr 1 (List.length l)
  c fun i =>
  encL l (0 + i)))))
  (0 +
  (0 + (0 + i)))
  k)
  (selT 1 2
  [Td.sc
  (Value.int IntKind.u8
  (255 : Int)),
  Td.sc
  (Value.int IntKind.u8
  (255 : Int))]
  (0 + (0 + i) -
  List.length
  (loadsN
  (listT Ld
  (Td.fr 1
  (List.length l) c fun i =>
  encL l (0 + i)))
  (List.length
  (listT Ld
  (Td.fr 1
  (List.length l) c fun i =>
  encL l
  (0 + i))))))
  k))
  (encL b
  (0 +
  (0 + i -
  (List.length
  (loadsN
  (listT Ld
  (Td.fr 1
  (List.length l) c fun i =>
  encL l (0 + i)))
  (List.length
  (listT Ld
  (Td.fr 1
  (List.length l) c
  fun i =>
  encL l
  (0 + i))))) +
  2)))
  k))))
  (0 + i)))
  (listT U8
  (Td.fr 1
  (List.length
  (loadsN
  (listT Ld
  (Td.fr 1 (List.length l) c fun i =>
  encL l (0 + i)))
  (List.length
  (listT Ld
  (Td.fr 1 (List.length l) c fun i =>
  encL l (0 + i))))))
  1 fun i =>
  encL
  (loadsN
  (listT Ld
  (Td.fr 1 (List.length l) c fun i =>
  encL l (0 + i)))
  (List.length
  (listT Ld
  (Td.fr 1 (List.length l) c fun i =>
  encL l (0 + i)))))
  (0 + i))))) ==
  (0 : Int))
  True))))))))))))))))))))))) ∧
  True))) := by kernel_rfl
theorem vc_fb_r (l : List Ld) (b : List U8) (c d : Nat) (i : Int) (β : Bs) (N : Kt) (ex : Nat → Kt → Prop) : roundJ Try.prog toldG 100 20 β (fun _ => 0) (cnOf 2 fun _ => slB) ex 5 0 2 lvB (FB l b c d i) (SB l b) N =
(  br (decide (i < Int.ofNat (List.length l)))
  (need (decide ((0 : Int) ≤ i))
  (need (Nat.blt (Int.toNat i) (List.length l))
  (need (Nat.ble 0 (0 + Int.toNat i) && Nat.blt (0 + Int.toNat i) (List.length l))
  (br (decide (Int.ofNat (List.length (Ld.l (List.getD l (0 + Int.toNat i) Enc.dflt))) > (40 : Int)))
  (onP N AX.ret (shpBr l b true))
  (onP N AX.normal (shpB l b c d (IntKind.wrap IntKind.i64 (i + (1 : Int)))))))))
  (onP N (AX.exit 0) (shpB l b c d i))) := by kernel_rfl
end Go.Proofs.Ytdmagcdkklacdaa.Ev
