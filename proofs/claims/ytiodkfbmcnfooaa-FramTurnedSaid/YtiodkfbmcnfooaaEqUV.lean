/-
  What has to hold: printed by the evaluator.
-/
import Derived.Test.YtiodkfbmcnfooaaFrS
set_option linter.unusedVariables false
set_option maxRecDepth 1000000
namespace Go.Proofs.Ytiodkfbmcnfooaa.Ev
open Go Go.Proofs
def slE : List Nat := [0, 1, 12, 13]
def lvE : AX → List Nat := fun x => match x with
  | .ret => [4]
  | _ => slE
def FE (l m : List U8) (c d : Nat) (i : Int) : AFr := mkF 26 [(0, .slice (some ⟨0, 0, some 0⟩) l.length c), (1, .slice (some ⟨1, 0, some 0⟩) m.length d), (12, .int .i64 (Int.ofNat l.length)), (13, .int .i64 i)]
def SE (l m : List U8) : ASt := mkS [some (rowO .look l), some (rowO .look m)]
def FEr (q : Bool) : AFr := mkF 26 [(4, .bool q)]
def sameU (l m : List U8) : Bool := decide (l.length = m.length) && (List.range l.length).all fun i => decide ((l.getD i Enc.dflt).v = (m.getD i Enc.dflt).v)
def exE (l m : List U8) (c d : Nat) : Nat → Kt → Prop := fun b K => (sameU l m = true → K (.exit b) (FE l m c d l.length) (SE l m)) ∧ (sameU l m = false → K .ret (FEr false) (SE l m))
def shpE (l m : List U8) (c d : Nat) (i' : Int) : AFr × ASt := (FE l m c d i', SE l m)
def shpEr (l m : List U8) (q' : Bool) : AFr × ASt := (FEr q', SE l m)
theorem vc_eq (l m : List U8) (c d : Nat) (β : Bs) (K : AE → Prop) : lawE Try.prog toldU 100 20 β (fun _ => 0) (cnOf 2 fun _ => slE) (exE l m c d) 19 [.slice (some ⟨0, 0, some 0⟩) l.length c, .slice (some ⟨1, 0, some 0⟩) m.length d] (mkS [some (rowO .look l), some (rowO .look m)]) (fun r _ => K r) =
(  br (Int.ofNat (List.length l) != Int.ofNat (List.length m)) (K (AE.returned (Value.bool false)))
  (LoopJ Try.prog β (exE l m c d) 0 (loopOf Try.prog 19 0) (FE l m c d (0 : Int)) (SE l m) ∧
  (sameU l m = true → K (AE.returned (Value.bool true))) ∧ (sameU l m = false → K (AE.returned (Value.bool false))))) := by kernel_rfl
theorem vc_eq_r (l m : List U8) (c d : Nat) (i : Int) (β : Bs) (N : Kt) (ex : Nat → Kt → Prop) : roundJ Try.prog toldU 100 20 β (fun _ => 0) (cnOf 2 fun _ => slE) ex 19 0 2 lvE (FE l m c d i) (SE l m) N =
(  br (decide (i < Int.ofNat (List.length l)))
  (need (decide ((0 : Int) ≤ i))
  (need (Nat.blt (Int.toNat i) (List.length l))
  (need (Nat.ble 0 (0 + Int.toNat i) && Nat.blt (0 + Int.toNat i) (List.length l))
  (need (decide ((0 : Int) ≤ i))
  (need (Nat.blt (Int.toNat i) (List.length m))
  (need (Nat.ble 0 (0 + Int.toNat i) && Nat.blt (0 + Int.toNat i) (List.length m))
  (br
  (U8.v (List.getD l (0 + Int.toNat i) Enc.dflt) !=
  U8.v (List.getD m (0 + Int.toNat i) Enc.dflt))
  (onP N AX.ret (shpEr l m false))
  (onP N AX.normal (shpE l m c d (IntKind.wrap IntKind.i64 (i + (1 : Int))))))))))))
  (onP N (AX.exit 0) (shpE l m c d i))) := by kernel_rfl
end Go.Proofs.Ytiodkfbmcnfooaa.Ev
