/-
  SameMail: what has to hold.
-/
import Derived.Test.YtpejhdbllphdaaaMlDr
set_option linter.unusedVariables false
set_option maxRecDepth 1000000
namespace Go.Proofs.Ytpejhdbllphdaaa.Ev
open Go Go.Proofs
def slMo : List Nat := [0, 1, 5]
def slMi : List Nat := [0, 1, 5, 6]
def lvM (b : Nat) : List Nat := cond (Nat.beq b 0) slMo slMi
def lvMo : AX → List Nat := fun x => match x with
  | .ret => [4]
  | _ => slMo
def lvMi : AX → List Nat := fun x => match x with
  | .normal => slMi
  | .ret => [4]
  | _ => slMo
def FMo (l m : List Wr) (c d : Nat) (i : Int) : AFr := mkF 98 [(0, .slice (some ⟨0, 0, some 0⟩) l.length c), (1, .slice (some ⟨1, 0, some 0⟩) m.length d), (5, .int .i64 i)]
def FMi (l m : List Wr) (c d : Nat) (i k : Int) : AFr := mkF 98 [(0, .slice (some ⟨0, 0, some 0⟩) l.length c), (1, .slice (some ⟨1, 0, some 0⟩) m.length d), (5, .int .i64 i), (6, .int .i64 k)]
def SM (l m : List Wr) : ASt := mkS [some (rowO .look l), some (rowO .look m)]
def FMr (q : Bool) : AFr := mkF 98 [(4, .bool q)]
def sameA (a b : List Int) : Bool := (List.range a.length).all fun k => decide (a.getD k Enc.dflt = b.getD k Enc.dflt)
def sameW (a b : Wr) : Bool := decide (a.s = b.s) && decide (a.d = b.d) && decide (a.a.length = b.a.length) && sameVs a.v b.v && sameA a.a b.a
def sameMl (l m : List Wr) : Bool := decide (l.length = m.length) && (List.range l.length).all fun i => sameW (l.getD i Enc.dflt) (m.getD i Enc.dflt)
def exMo (l m : List Wr) (c d : Nat) : Nat → Kt → Prop := fun b K => (sameMl l m = true → K (.exit b) (FMo l m c d l.length) (SM l m)) ∧ (sameMl l m = false → K .ret (FMr false) (SM l m))
def exMi (l m : List Wr) (c d : Nat) (i : Int) : Nat → Kt → Prop := fun b K => (sameA (l.getD i.toNat Enc.dflt).a (m.getD i.toNat Enc.dflt).a = true → K (.exit b) (FMo l m c d i) (SM l m)) ∧ (sameA (l.getD i.toNat Enc.dflt).a (m.getD i.toNat Enc.dflt).a = false → K .ret (FMr false) (SM l m))
def shpMo (l m : List Wr) (c d : Nat) (i' : Int) : AFr × ASt := (FMo l m c d i', SM l m)
def shpMi (l m : List Wr) (c d : Nat) (i : Int) (k' : Int) : AFr × ASt := (FMi l m c d i k', SM l m)
def shpMr (l m : List Wr) (q' : Bool) : AFr × ASt := (FMr q', SM l m)
theorem vc_sm (l m : List Wr) (c d : Nat) (β : Bs) (K : AE → Prop) : lawE Try.prog toldT 100 20 β (fun _ => 0) (cnOf 2 lvM) (exMo l m c d) 11 [.slice (some ⟨0, 0, some 0⟩) l.length c, .slice (some ⟨1, 0, some 0⟩) m.length d] (mkS [some (rowO .look l), some (rowO .look m)]) (fun r _ => K r) =
(  br (Int.ofNat (List.length l) != Int.ofNat (List.length m)) (K (AE.returned (Value.bool false)))
  (LoopJ Try.prog β (exMo l m c d) 0 (loopOf Try.prog 11 0) (FMo l m c d (0 : Int))
  (SM l m) ∧
  (sameMl l m = true → K (AE.returned (Value.bool true))) ∧ (sameMl l m = false → K (AE.returned (Value.bool false))))) := by kernel_rfl
theorem vc_mo_r (l m : List Wr) (c d : Nat) (i : Int) (β : Bs) (N : Kt) : roundJ Try.prog toldT 100 20 β (fun _ => 0) (cnOf 2 lvM) (exMi l m c d i) 11 0 2 lvMo (FMo l m c d i) (SM l m) N =
(  br (decide (i < Int.ofNat (List.length l)))
  (need (decide ((0 : Int) ≤ i))
  (need (Nat.blt (Int.toNat i) (List.length l))
  (need (Nat.ble 0 (0 + Int.toNat i) && Nat.blt (0 + Int.toNat i) (List.length l))
  (need (decide ((0 : Int) ≤ i))
  (need (Nat.blt (Int.toNat i) (List.length m))
  (need (Nat.ble 0 (0 + Int.toNat i) && Nat.blt (0 + Int.toNat i) (List.length m))
  (br
  (Wr.s (List.getD l (0 + Int.toNat i) Enc.dflt) !=
  Wr.s (List.getD m (0 + Int.toNat i) Enc.dflt))
  (onP N AX.ret (shpMr l m false))
  (need (decide ((0 : Int) ≤ i))
  (need (Nat.blt (Int.toNat i) (List.length l))
  (need
  (Nat.ble 0 (0 + Int.toNat i) && Nat.blt (0 + Int.toNat i) (List.length l))
  (need (decide ((0 : Int) ≤ i))
  (need (Nat.blt (Int.toNat i) (List.length m))
  (need
  (Nat.ble 0 (0 + Int.toNat i) &&
  Nat.blt (0 + Int.toNat i) (List.length m))
  (br
  (Wr.d (List.getD l (0 + Int.toNat i) Enc.dflt) !=
  Wr.d (List.getD m (0 + Int.toNat i) Enc.dflt))
  (onP N AX.ret (shpMr l m false))
  (need (decide ((0 : Int) ≤ i))
  (need (Nat.blt (Int.toNat i) (List.length l))
  (need
  (Nat.ble 0 (0 + Int.toNat i) &&
  Nat.blt (0 + Int.toNat i) (List.length l))
  (need (decide ((0 : Int) ≤ i))
  (need (Nat.blt (Int.toNat i) (List.length m))
  (need
  (Nat.ble 0 (0 + Int.toNat i) &&
  Nat.blt (0 + Int.toNat i) (List.length m))
  (br
  (Int.ofNat
  (List.length (Wr.a (List.getD l (0 + Int.toNat i) Enc.dflt))) !=
  Int.ofNat
  (List.length (Wr.a (List.getD m (0 + Int.toNat i) Enc.dflt))))
  (onP N AX.ret (shpMr l m false))
  (need (decide ((0 : Int) ≤ i))
  (need (Nat.blt (Int.toNat i) (List.length l))
  (need
  (Nat.ble 0 (0 + Int.toNat i) &&
  Nat.blt (0 + Int.toNat i) (List.length l))
  (need (decide ((0 : Int) ≤ i))
  (need (Nat.blt (Int.toNat i) (List.length m))
  (need
  (Nat.ble 0 (0 + Int.toNat i) &&
  Nat.blt (0 + Int.toNat i) (List.length m))
  (need
  (true &&
  Nat.ble
  (0 +
  List.length
  (Wr.v
  (List.getD l (0 + Int.toNat i) Enc.dflt)))
  (List.length
  (Wr.v
  (List.getD l (0 + Int.toNat i) Enc.dflt))))
  (need
  (true &&
  Nat.ble
  (0 +
  List.length
  (Wr.v
  (List.getD m (0 + Int.toNat i) Enc.dflt)))
  (List.length
  (Wr.v
  (List.getD m (0 + Int.toNat i) Enc.dflt))))
  (need
  (ok2 Vl Vl (fun x x_1 x_2 x_3 => true)
  [Ta.cell
  (Td.fr 3
  (List.length
  (Wr.v
  (List.getD l (0 + Int.toNat i)
  Enc.dflt)))
  (Wr.cv
  (List.getD l (0 + Int.toNat i)
  Enc.dflt))
  fun i_1 =>
  encL
  (Wr.v
  (List.getD l (0 + Int.toNat i)
  Enc.dflt))
  (0 + i_1)),
  Ta.cell
  (Td.fr 3
  (List.length
  (Wr.v
  (List.getD m (0 + Int.toNat i)
  Enc.dflt)))
  (Wr.cv
  (List.getD m (0 + Int.toNat i)
  Enc.dflt))
  fun i_1 =>
  encL
  (Wr.v
  (List.getD m (0 + Int.toNat i)
  Enc.dflt))
  (0 + i_1))])
  (br
  (!sameVs
  (listT Vl
  (Td.fr 3
  (List.length
  (Wr.v
  (List.getD l (0 + Int.toNat i)
  Enc.dflt)))
  (Wr.cv
  (List.getD l (0 + Int.toNat i)
  Enc.dflt))
  fun i_1 =>
  encL
  (Wr.v
  (List.getD l (0 + Int.toNat i)
  Enc.dflt))
  (0 + i_1)))
  (listT Vl
  (Td.fr 3
  (List.length
  (Wr.v
  (List.getD m (0 + Int.toNat i)
  Enc.dflt)))
  (Wr.cv
  (List.getD m (0 + Int.toNat i)
  Enc.dflt))
  fun i_1 =>
  encL
  (Wr.v
  (List.getD m (0 + Int.toNat i)
  Enc.dflt))
  (0 + i_1))))
  (onP N AX.ret (shpMr l m false))
  (LoopJ Try.prog β (exMi l m c d i) 2
  (loopOf Try.prog 11 2)
  (FMi l m c d i (0 : Int)) (SM l m) ∧
  (sameA (Wr.a (List.getD l (Int.toNat i) Enc.dflt))
  (Wr.a (List.getD m (Int.toNat i) Enc.dflt)) =
  true →
  onP N AX.normal
  (shpMo l m c d
  (IntKind.wrap IntKind.i64 (i + (1 : Int))))) ∧
  (sameA (Wr.a (List.getD l (Int.toNat i) Enc.dflt))
  (Wr.a (List.getD m (Int.toNat i) Enc.dflt)) =
  false →
  onP N AX.ret
  (shpMr l m
  false))))))))))))))))))))))))))))))))))
  (onP N (AX.exit 0) (shpMo l m c d i))) := by kernel_rfl
theorem vc_mi_r (l m : List Wr) (c d : Nat) (i k : Int) (β : Bs) (N : Kt) (ex : Nat → Kt → Prop) : roundJ Try.prog toldT 100 20 β (fun _ => 0) (cnOf 2 lvM) ex 11 2 2 lvMi (FMi l m c d i k) (SM l m) N =
(  need (decide ((0 : Int) ≤ i))
  (need (Nat.blt (Int.toNat i) (List.length l))
  (need (Nat.ble 0 (0 + Int.toNat i) && Nat.blt (0 + Int.toNat i) (List.length l))
  (br (decide (k < Int.ofNat (List.length (Wr.a (List.getD l (0 + Int.toNat i) Enc.dflt)))))
  (need (decide ((0 : Int) ≤ i))
  (need (Nat.blt (Int.toNat i) (List.length l))
  (need (Nat.ble 0 (0 + Int.toNat i) && Nat.blt (0 + Int.toNat i) (List.length l))
  (need (decide ((0 : Int) ≤ k))
  (need (Nat.blt (Int.toNat k) (List.length (Wr.a (List.getD l (0 + Int.toNat i) Enc.dflt))))
  (need
  (Nat.ble 0 (0 + Int.toNat k) &&
  Nat.blt (0 + Int.toNat k)
  (List.length (Wr.a (List.getD l (0 + Int.toNat i) Enc.dflt))))
  (need (decide ((0 : Int) ≤ i))
  (need (Nat.blt (Int.toNat i) (List.length m))
  (need
  (Nat.ble 0 (0 + Int.toNat i) &&
  Nat.blt (0 + Int.toNat i) (List.length m))
  (need (decide ((0 : Int) ≤ k))
  (need
  (Nat.blt (Int.toNat k)
  (List.length (Wr.a (List.getD m (0 + Int.toNat i) Enc.dflt))))
  (need
  (Nat.ble 0 (0 + Int.toNat k) &&
  Nat.blt (0 + Int.toNat k)
  (List.length (Wr.a (List.getD m (0 + Int.toNat i) Enc.dflt))))
  (br
  (List.getD (Wr.a (List.getD l (0 + Int.toNat i) Enc.dflt))
  (0 + Int.toNat k) (0 : Int) !=
  List.getD (Wr.a (List.getD m (0 + Int.toNat i) Enc.dflt))
  (0 + Int.toNat k) (0 : Int))
  (onP N AX.ret (shpMr l m false))
  (onP N AX.normal
  (shpMi l m c d i (IntKind.wrap IntKind.i64 (k + (1 : Int))))))))))))))))))
  (onP N (AX.exit 2) (shpMo l m c d i)))))) := by kernel_rfl
end Go.Proofs.Ytpejhdbllphdaaa.Ev
