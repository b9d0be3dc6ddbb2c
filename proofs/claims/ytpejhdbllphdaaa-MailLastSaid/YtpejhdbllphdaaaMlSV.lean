/-
  SameVals: what has to hold.
-/
import Derived.Test.YtpejhdbllphdaaaMlD
set_option linter.unusedVariables false
set_option maxRecDepth 1000000
namespace Go.Proofs.Ytpejhdbllphdaaa.Ev
open Go Go.Proofs
def slV : List Nat := [0, 1, 5]
def lvV : AX → List Nat := fun x => match x with
  | .ret => [4]
  | _ => slV
def FV (l m : List Vl) (c d : Nat) (i : Int) : AFr := mkF 27 [(0, .slice (some ⟨0, 0, some 0⟩) l.length c), (1, .slice (some ⟨1, 0, some 0⟩) m.length d), (5, .int .i64 i)]
def SV (l m : List Vl) : ASt := mkS [some (rowO .look l), some (rowO .look m)]
def FVr (q : Bool) : AFr := mkF 27 [(4, .bool q)]
def sameVl (a b : Vl) : Bool := decide (a.k = b.k) && decide (a.i = b.i) && sameN a.f b.f
def sameVs (l m : List Vl) : Bool := decide (l.length = m.length) && (List.range l.length).all fun i => sameVl (l.getD i Enc.dflt) (m.getD i Enc.dflt)
def exV (l m : List Vl) (c d : Nat) : Nat → Kt → Prop := fun b K => (sameVs l m = true → K (.exit b) (FV l m c d l.length) (SV l m)) ∧ (sameVs l m = false → K .ret (FVr false) (SV l m))
def shpV (l m : List Vl) (c d : Nat) (i' : Int) : AFr × ASt := (FV l m c d i', SV l m)
def shpW (l m : List Vl) (q' : Bool) : AFr × ASt := (FVr q', SV l m)
theorem vc_sv (l m : List Vl) (c d : Nat) (β : Bs) (K : AE → Prop) : lawE Try.prog toldA 100 20 β (fun _ => 0) (cnOf 2 fun _ => slV) (exV l m c d) 12 [.slice (some ⟨0, 0, some 0⟩) l.length c, .slice (some ⟨1, 0, some 0⟩) m.length d] (mkS [some (rowO .look l), some (rowO .look m)]) (fun r _ => K r) =
(  br (Int.ofNat (List.length l) != Int.ofNat (List.length m)) (K (AE.returned (Value.bool false)))
  (LoopJ Try.prog β (exV l m c d) 0 (loopOf Try.prog 12 0) (FV l m c d (0 : Int)) (SV l m) ∧
  (sameVs l m = true → K (AE.returned (Value.bool true))) ∧ (sameVs l m = false → K (AE.returned (Value.bool false))))) := by kernel_rfl
theorem vc_sv_r (l m : List Vl) (c d : Nat) (i : Int) (β : Bs) (N : Kt) (ex : Nat → Kt → Prop) : roundJ Try.prog toldA 100 20 β (fun _ => 0) (cnOf 2 fun _ => slV) ex 12 0 2 lvV (FV l m c d i) (SV l m) N =
(  br (decide (i < Int.ofNat (List.length l)))
  (need (decide ((0 : Int) ≤ i))
  (need (Nat.blt (Int.toNat i) (List.length l))
  (need (Nat.ble 0 (0 + Int.toNat i) && Nat.blt (0 + Int.toNat i) (List.length l))
  (need (decide ((0 : Int) ≤ i))
  (need (Nat.blt (Int.toNat i) (List.length m))
  (need (Nat.ble 0 (0 + Int.toNat i) && Nat.blt (0 + Int.toNat i) (List.length m))
  (br
  (Vl.k (List.getD l (0 + Int.toNat i) Enc.dflt) ==
  Vl.k (List.getD m (0 + Int.toNat i) Enc.dflt))
  (br
  (Vl.i (List.getD l (0 + Int.toNat i) Enc.dflt) ==
  Vl.i (List.getD m (0 + Int.toNat i) Enc.dflt))
  (br
  (!sameN (Vl.f (List.getD l (0 + Int.toNat i) Enc.dflt))
  (Vl.f (List.getD m (0 + Int.toNat i) Enc.dflt)))
  (onP N AX.ret (shpW l m false))
  (onP N AX.normal (shpV l m c d (IntKind.wrap IntKind.i64 (i + (1 : Int))))))
  (onP N AX.ret (shpW l m false)))
  (onP N AX.ret (shpW l m false)))))))))
  (onP N (AX.exit 0) (shpV l m c d i))) := by kernel_rfl
end Go.Proofs.Ytpejhdbllphdaaa.Ev
