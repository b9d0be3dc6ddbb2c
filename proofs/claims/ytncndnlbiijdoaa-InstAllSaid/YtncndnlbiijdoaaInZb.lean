/-
  What has to hold: printed by the evaluator.
-/
import Derived.Test.YtncndnlbiijdoaaInZa
set_option linter.unusedVariables false
/-! What has to hold: printed by the evaluator. -/
set_option linter.unusedVariables false
set_option maxRecDepth 1000000
namespace Go.Proofs.Ytncndnlbiijdoaa.Ev
open Go Go.Proofs
theorem vc_by (k i : Int) (f : Nat) (β : Bs) (K : AE → List (Option AObj) → Prop) : lawE Try.prog toldB3 100 20 β (fun _ => 0) (cnOf 0 fun _ => []) (fun _ _ => False) 34 [.agg ⟨[.int .i64 k, .int .i64 i, .float .f64 f]⟩] (mkS []) (outK K) =
(  br (k == (5 : Int))
  (br (k == (1 : Int))
  (K (AE.returned (Value.slice (some (Addr.mk 2 0 none)) 1 1))
  [some (AObj.cells [Value.int IntKind.i64 k, Value.int IntKind.i64 i, Value.float FloatKind.f64 f] true 0),
  some
  (AObj.cells [Value.int IntKind.u8 (IntKind.wrap IntKind.u8 (Int.fdiv (Int.ofNat (bitsN f)) (1 : Int)))] true
  1),
  some
  (AObj.cells [Value.int IntKind.u8 (IntKind.wrap IntKind.u8 (Int.fdiv (Int.ofNat (bitsN f)) (1 : Int)))] false
  1)])
  (br (k == (2 : Int))
  (K (AE.returned (Value.slice (some (Addr.mk 4 0 none)) 2 2))
  [some
  (AObj.cells [Value.int IntKind.i64 k, Value.int IntKind.i64 i, Value.float FloatKind.f64 f] true 0),
  some
  (AObj.cells [Value.int IntKind.u8 (IntKind.wrap IntKind.u8 (Int.fdiv (Int.ofNat (bitsN f)) (256 : Int)))]
  true 1),
  none,
  some
  (AObj.cells [Value.int IntKind.u8 (IntKind.wrap IntKind.u8 (Int.fdiv (Int.ofNat (bitsN f)) (1 : Int)))] true
  1),
  some
  (AObj.cells
  [Value.int IntKind.u8 (IntKind.wrap IntKind.u8 (Int.fdiv (Int.ofNat (bitsN f)) (256 : Int))),
  Value.int IntKind.u8 (IntKind.wrap IntKind.u8 (Int.fdiv (Int.ofNat (bitsN f)) (1 : Int)))]
  false 1)])
  (br (k == (3 : Int))
  (K (AE.returned (Value.slice (some (Addr.mk 8 0 none)) 4 4))
  [some
  (AObj.cells [Value.int IntKind.i64 k, Value.int IntKind.i64 i, Value.float FloatKind.f64 f] true
  0),
  some
  (AObj.cells
  [Value.int IntKind.u8 (IntKind.wrap IntKind.u8 (Int.fdiv (Int.ofNat (bitsN f)) (16777216 : Int)))] true
  1),
  none,
  some
  (AObj.cells
  [Value.int IntKind.u8 (IntKind.wrap IntKind.u8 (Int.fdiv (Int.ofNat (bitsN f)) (65536 : Int)))] true
  1),
  none,
  some
  (AObj.cells [Value.int IntKind.u8 (IntKind.wrap IntKind.u8 (Int.fdiv (Int.ofNat (bitsN f)) (256 : Int)))]
  true 1),
  none,
  some
  (AObj.cells [Value.int IntKind.u8 (IntKind.wrap IntKind.u8 (Int.fdiv (Int.ofNat (bitsN f)) (1 : Int)))]
  true 1),
  some
  (AObj.cells
  [Value.int IntKind.u8 (IntKind.wrap IntKind.u8 (Int.fdiv (Int.ofNat (bitsN f)) (16777216 : Int))),
  Value.int IntKind.u8 (IntKind.wrap IntKind.u8 (Int.fdiv (Int.ofNat (bitsN f)) (65536 : Int))),
  Value.int IntKind.u8 (IntKind.wrap IntKind.u8 (Int.fdiv (Int.ofNat (bitsN f)) (256 : Int))),
  Value.int IntKind.u8 (IntKind.wrap IntKind.u8 (Int.fdiv (Int.ofNat (bitsN f)) (1 : Int)))]
  false 1)])
  (br (k == (4 : Int))
  (K (AE.returned (Value.slice (some (Addr.mk 16 0 none)) 8 8))
  [some
  (AObj.cells [Value.int IntKind.i64 k, Value.int IntKind.i64 i, Value.float FloatKind.f64 f] true
  0),
  some
  (AObj.cells
  [Value.int IntKind.u8
  (IntKind.wrap IntKind.u8 (Int.fdiv (Int.ofNat (bitsN f)) (72057594037927936 : Int)))]
  true 1),
  none,
  some
  (AObj.cells
  [Value.int IntKind.u8
  (IntKind.wrap IntKind.u8 (Int.fdiv (Int.ofNat (bitsN f)) (281474976710656 : Int)))]
  true 1),
  none,
  some
  (AObj.cells
  [Value.int IntKind.u8
  (IntKind.wrap IntKind.u8 (Int.fdiv (Int.ofNat (bitsN f)) (1099511627776 : Int)))]
  true 1),
  none,
  some
  (AObj.cells
  [Value.int IntKind.u8 (IntKind.wrap IntKind.u8 (Int.fdiv (Int.ofNat (bitsN f)) (4294967296 : Int)))]
  true 1),
  none,
  some
  (AObj.cells
  [Value.int IntKind.u8 (IntKind.wrap IntKind.u8 (Int.fdiv (Int.ofNat (bitsN f)) (16777216 : Int)))]
  true 1),
  none,
  some
  (AObj.cells
  [Value.int IntKind.u8 (IntKind.wrap IntKind.u8 (Int.fdiv (Int.ofNat (bitsN f)) (65536 : Int)))] true
  1),
  none,
  some
  (AObj.cells
  [Value.int IntKind.u8 (IntKind.wrap IntKind.u8 (Int.fdiv (Int.ofNat (bitsN f)) (256 : Int)))] true
  1),
  none,
  some
  (AObj.cells [Value.int IntKind.u8 (IntKind.wrap IntKind.u8 (Int.fdiv (Int.ofNat (bitsN f)) (1 : Int)))]
  true 1),
  some
  (AObj.cells
  [Value.int IntKind.u8
  (IntKind.wrap IntKind.u8 (Int.fdiv (Int.ofNat (bitsN f)) (72057594037927936 : Int))),
  Value.int IntKind.u8
  (IntKind.wrap IntKind.u8 (Int.fdiv (Int.ofNat (bitsN f)) (281474976710656 : Int))),
  Value.int IntKind.u8
  (IntKind.wrap IntKind.u8 (Int.fdiv (Int.ofNat (bitsN f)) (1099511627776 : Int))),
  Value.int IntKind.u8 (IntKind.wrap IntKind.u8 (Int.fdiv (Int.ofNat (bitsN f)) (4294967296 : Int))),
  Value.int IntKind.u8 (IntKind.wrap IntKind.u8 (Int.fdiv (Int.ofNat (bitsN f)) (16777216 : Int))),
  Value.int IntKind.u8 (IntKind.wrap IntKind.u8 (Int.fdiv (Int.ofNat (bitsN f)) (65536 : Int))),
  Value.int IntKind.u8 (IntKind.wrap IntKind.u8 (Int.fdiv (Int.ofNat (bitsN f)) (256 : Int))),
  Value.int IntKind.u8 (IntKind.wrap IntKind.u8 (Int.fdiv (Int.ofNat (bitsN f)) (1 : Int)))]
  false 1)])
  (br (k == (5 : Int))
  (K (AE.returned (Value.slice (some (Addr.mk 16 0 none)) 8 8))
  [some
  (AObj.cells [Value.int IntKind.i64 k, Value.int IntKind.i64 i, Value.float FloatKind.f64 f] true
  0),
  some
  (AObj.cells
  [Value.int IntKind.u8
  (IntKind.wrap IntKind.u8 (Int.fdiv (Int.ofNat (bitsN f)) (72057594037927936 : Int)))]
  true 1),
  none,
  some
  (AObj.cells
  [Value.int IntKind.u8
  (IntKind.wrap IntKind.u8 (Int.fdiv (Int.ofNat (bitsN f)) (281474976710656 : Int)))]
  true 1),
  none,
  some
  (AObj.cells
  [Value.int IntKind.u8
  (IntKind.wrap IntKind.u8 (Int.fdiv (Int.ofNat (bitsN f)) (1099511627776 : Int)))]
  true 1),
  none,
  some
  (AObj.cells
  [Value.int IntKind.u8 (IntKind.wrap IntKind.u8 (Int.fdiv (Int.ofNat (bitsN f)) (4294967296 : Int)))]
  true 1),
  none,
  some
  (AObj.cells
  [Value.int IntKind.u8 (IntKind.wrap IntKind.u8 (Int.fdiv (Int.ofNat (bitsN f)) (16777216 : Int)))]
  true 1),
  none,
  some
  (AObj.cells
  [Value.int IntKind.u8 (IntKind.wrap IntKind.u8 (Int.fdiv (Int.ofNat (bitsN f)) (65536 : Int)))] true
  1),
  none,
  some
  (AObj.cells
  [Value.int IntKind.u8 (IntKind.wrap IntKind.u8 (Int.fdiv (Int.ofNat (bitsN f)) (256 : Int)))] true
  1),
  none,
  some
  (AObj.cells
  [Value.int IntKind.u8 (IntKind.wrap IntKind.u8 (Int.fdiv (Int.ofNat (bitsN f)) (1 : Int)))] true
  1),
  some
  (AObj.cells
  [Value.int IntKind.u8
  (IntKind.wrap IntKind.u8 (Int.fdiv (Int.ofNat (bitsN f)) (72057594037927936 : Int))),
  Value.int IntKind.u8
  (IntKind.wrap IntKind.u8 (Int.fdiv (Int.ofNat (bitsN f)) (281474976710656 : Int))),
  Value.int IntKind.u8
  (IntKind.wrap IntKind.u8 (Int.fdiv (Int.ofNat (bitsN f)) (1099511627776 : Int))),
  Value.int IntKind.u8
  (IntKind.wrap IntKind.u8 (Int.fdiv (Int.ofNat (bitsN f)) (4294967296 : Int))),
  Value.int IntKind.u8 (IntKind.wrap IntKind.u8 (Int.fdiv (Int.ofNat (bitsN f)) (16777216 : Int))),
  Value.int IntKind.u8 (IntKind.wrap IntKind.u8 (Int.fdiv (Int.ofNat (bitsN f)) (65536 : Int))),
  Value.int IntKind.u8 (IntKind.wrap IntKind.u8 (Int.fdiv (Int.ofNat (bitsN f)) (256 : Int))),
  Value.int IntKind.u8 (IntKind.wrap IntKind.u8 (Int.fdiv (Int.ofNat (bitsN f)) (1 : Int)))]
  false 1)])
  (K (AE.returned (Value.slice none 0 0))
  [some
  (AObj.cells [Value.int IntKind.i64 k, Value.int IntKind.i64 i, Value.float FloatKind.f64 f] true
  0)]))))))
  (br (k == (1 : Int))
  (K (AE.returned (Value.slice (some (Addr.mk 2 0 none)) 1 1))
  [some (AObj.cells [Value.int IntKind.i64 k, Value.int IntKind.i64 i, Value.float FloatKind.f64 f] true 0),
  some
  (AObj.cells [Value.int IntKind.u8 (IntKind.wrap IntKind.u8 (Int.fdiv (IntKind.wrap IntKind.u64 i) (1 : Int)))]
  true 1),
  some
  (AObj.cells [Value.int IntKind.u8 (IntKind.wrap IntKind.u8 (Int.fdiv (IntKind.wrap IntKind.u64 i) (1 : Int)))]
  false 1)])
  (br (k == (2 : Int))
  (K (AE.returned (Value.slice (some (Addr.mk 4 0 none)) 2 2))
  [some
  (AObj.cells [Value.int IntKind.i64 k, Value.int IntKind.i64 i, Value.float FloatKind.f64 f] true 0),
  some
  (AObj.cells
  [Value.int IntKind.u8 (IntKind.wrap IntKind.u8 (Int.fdiv (IntKind.wrap IntKind.u64 i) (256 : Int)))] true
  1),
  none,
  some
  (AObj.cells
  [Value.int IntKind.u8 (IntKind.wrap IntKind.u8 (Int.fdiv (IntKind.wrap IntKind.u64 i) (1 : Int)))] true
  1),
  some
  (AObj.cells
  [Value.int IntKind.u8 (IntKind.wrap IntKind.u8 (Int.fdiv (IntKind.wrap IntKind.u64 i) (256 : Int))),
  Value.int IntKind.u8 (IntKind.wrap IntKind.u8 (Int.fdiv (IntKind.wrap IntKind.u64 i) (1 : Int)))]
  false 1)])
  (br (k == (3 : Int))
  (K (AE.returned (Value.slice (some (Addr.mk 8 0 none)) 4 4))
  [some
  (AObj.cells [Value.int IntKind.i64 k, Value.int IntKind.i64 i, Value.float FloatKind.f64 f] true
  0),
  some
  (AObj.cells
  [Value.int IntKind.u8
  (IntKind.wrap IntKind.u8 (Int.fdiv (IntKind.wrap IntKind.u64 i) (16777216 : Int)))]
  true 1),
  none,
  some
  (AObj.cells
  [Value.int IntKind.u8 (IntKind.wrap IntKind.u8 (Int.fdiv (IntKind.wrap IntKind.u64 i) (65536 : Int)))]
  true 1),
  none,
  some
  (AObj.cells
  [Value.int IntKind.u8 (IntKind.wrap IntKind.u8 (Int.fdiv (IntKind.wrap IntKind.u64 i) (256 : Int)))]
  true 1),
  none,
  some
  (AObj.cells
  [Value.int IntKind.u8 (IntKind.wrap IntKind.u8 (Int.fdiv (IntKind.wrap IntKind.u64 i) (1 : Int)))] true
  1),
  some
  (AObj.cells
  [Value.int IntKind.u8
  (IntKind.wrap IntKind.u8 (Int.fdiv (IntKind.wrap IntKind.u64 i) (16777216 : Int))),
  Value.int IntKind.u8 (IntKind.wrap IntKind.u8 (Int.fdiv (IntKind.wrap IntKind.u64 i) (65536 : Int))),
  Value.int IntKind.u8 (IntKind.wrap IntKind.u8 (Int.fdiv (IntKind.wrap IntKind.u64 i) (256 : Int))),
  Value.int IntKind.u8 (IntKind.wrap IntKind.u8 (Int.fdiv (IntKind.wrap IntKind.u64 i) (1 : Int)))]
  false 1)])
  (br (k == (4 : Int))
  (K (AE.returned (Value.slice (some (Addr.mk 16 0 none)) 8 8))
  [some
  (AObj.cells [Value.int IntKind.i64 k, Value.int IntKind.i64 i, Value.float FloatKind.f64 f] true
  0),
  some
  (AObj.cells
  [Value.int IntKind.u8
  (IntKind.wrap IntKind.u8 (Int.fdiv (IntKind.wrap IntKind.u64 i) (72057594037927936 : Int)))]
  true 1),
  none,
  some
  (AObj.cells
  [Value.int IntKind.u8
  (IntKind.wrap IntKind.u8 (Int.fdiv (IntKind.wrap IntKind.u64 i) (281474976710656 : Int)))]
  true 1),
  none,
  some
  (AObj.cells
  [Value.int IntKind.u8
  (IntKind.wrap IntKind.u8 (Int.fdiv (IntKind.wrap IntKind.u64 i) (1099511627776 : Int)))]
  true 1),
  none,
  some
  (AObj.cells
  [Value.int IntKind.u8
  (IntKind.wrap IntKind.u8 (Int.fdiv (IntKind.wrap IntKind.u64 i) (4294967296 : Int)))]
  true 1),
  none,
  some
  (AObj.cells
  [Value.int IntKind.u8
  (IntKind.wrap IntKind.u8 (Int.fdiv (IntKind.wrap IntKind.u64 i) (16777216 : Int)))]
  true 1),
  none,
  some
  (AObj.cells
  [Value.int IntKind.u8 (IntKind.wrap IntKind.u8 (Int.fdiv (IntKind.wrap IntKind.u64 i) (65536 : Int)))]
  true 1),
  none,
  some
  (AObj.cells
  [Value.int IntKind.u8 (IntKind.wrap IntKind.u8 (Int.fdiv (IntKind.wrap IntKind.u64 i) (256 : Int)))]
  true 1),
  none,
  some
  (AObj.cells
  [Value.int IntKind.u8 (IntKind.wrap IntKind.u8 (Int.fdiv (IntKind.wrap IntKind.u64 i) (1 : Int)))]
  true 1),
  some
  (AObj.cells
  [Value.int IntKind.u8
  (IntKind.wrap IntKind.u8 (Int.fdiv (IntKind.wrap IntKind.u64 i) (72057594037927936 : Int))),
  Value.int IntKind.u8
  (IntKind.wrap IntKind.u8 (Int.fdiv (IntKind.wrap IntKind.u64 i) (281474976710656 : Int))),
  Value.int IntKind.u8
  (IntKind.wrap IntKind.u8 (Int.fdiv (IntKind.wrap IntKind.u64 i) (1099511627776 : Int))),
  Value.int IntKind.u8
  (IntKind.wrap IntKind.u8 (Int.fdiv (IntKind.wrap IntKind.u64 i) (4294967296 : Int))),
  Value.int IntKind.u8
  (IntKind.wrap IntKind.u8 (Int.fdiv (IntKind.wrap IntKind.u64 i) (16777216 : Int))),
  Value.int IntKind.u8
  (IntKind.wrap IntKind.u8 (Int.fdiv (IntKind.wrap IntKind.u64 i) (65536 : Int))),
  Value.int IntKind.u8 (IntKind.wrap IntKind.u8 (Int.fdiv (IntKind.wrap IntKind.u64 i) (256 : Int))),
  Value.int IntKind.u8 (IntKind.wrap IntKind.u8 (Int.fdiv (IntKind.wrap IntKind.u64 i) (1 : Int)))]
  false 1)])
  (br (k == (5 : Int))
  (K (AE.returned (Value.slice (some (Addr.mk 16 0 none)) 8 8))
  [some
  (AObj.cells [Value.int IntKind.i64 k, Value.int IntKind.i64 i, Value.float FloatKind.f64 f] true
  0),
  some
  (AObj.cells
  [Value.int IntKind.u8
  (IntKind.wrap IntKind.u8 (Int.fdiv (IntKind.wrap IntKind.u64 i) (72057594037927936 : Int)))]
  true 1),
  none,
  some
  (AObj.cells
  [Value.int IntKind.u8
  (IntKind.wrap IntKind.u8 (Int.fdiv (IntKind.wrap IntKind.u64 i) (281474976710656 : Int)))]
  true 1),
  none,
  some
  (AObj.cells
  [Value.int IntKind.u8
  (IntKind.wrap IntKind.u8 (Int.fdiv (IntKind.wrap IntKind.u64 i) (1099511627776 : Int)))]
  true 1),
  none,
  some
  (AObj.cells
  [Value.int IntKind.u8
  (IntKind.wrap IntKind.u8 (Int.fdiv (IntKind.wrap IntKind.u64 i) (4294967296 : Int)))]
  true 1),
  none,
  some
  (AObj.cells
  [Value.int IntKind.u8
  (IntKind.wrap IntKind.u8 (Int.fdiv (IntKind.wrap IntKind.u64 i) (16777216 : Int)))]
  true 1),
  none,
  some
  (AObj.cells
  [Value.int IntKind.u8
  (IntKind.wrap IntKind.u8 (Int.fdiv (IntKind.wrap IntKind.u64 i) (65536 : Int)))]
  true 1),
  none,
  some
  (AObj.cells
  [Value.int IntKind.u8 (IntKind.wrap IntKind.u8 (Int.fdiv (IntKind.wrap IntKind.u64 i) (256 : Int)))]
  true 1),
  none,
  some
  (AObj.cells
  [Value.int IntKind.u8 (IntKind.wrap IntKind.u8 (Int.fdiv (IntKind.wrap IntKind.u64 i) (1 : Int)))]
  true 1),
  some
  (AObj.cells
  [Value.int IntKind.u8
  (IntKind.wrap IntKind.u8 (Int.fdiv (IntKind.wrap IntKind.u64 i) (72057594037927936 : Int))),
  Value.int IntKind.u8
  (IntKind.wrap IntKind.u8 (Int.fdiv (IntKind.wrap IntKind.u64 i) (281474976710656 : Int))),
  Value.int IntKind.u8
  (IntKind.wrap IntKind.u8 (Int.fdiv (IntKind.wrap IntKind.u64 i) (1099511627776 : Int))),
  Value.int IntKind.u8
  (IntKind.wrap IntKind.u8 (Int.fdiv (IntKind.wrap IntKind.u64 i) (4294967296 : Int))),
  Value.int IntKind.u8
  (IntKind.wrap IntKind.u8 (Int.fdiv (IntKind.wrap IntKind.u64 i) (16777216 : Int))),
  Value.int IntKind.u8
  (IntKind.wrap IntKind.u8 (Int.fdiv (IntKind.wrap IntKind.u64 i) (65536 : Int))),
  Value.int IntKind.u8
  (IntKind.wrap IntKind.u8 (Int.fdiv (IntKind.wrap IntKind.u64 i) (256 : Int))),
  Value.int IntKind.u8 (IntKind.wrap IntKind.u8 (Int.fdiv (IntKind.wrap IntKind.u64 i) (1 : Int)))]
  false 1)])
  (K (AE.returned (Value.slice none 0 0))
  [some
  (AObj.cells [Value.int IntKind.i64 k, Value.int IntKind.i64 i, Value.float FloatKind.f64 f] true
  0)]))))))) := by kernel_rfl
end Go.Proofs.Ytncndnlbiijdoaa.Ev

/-! What has to hold: printed by the evaluator. -/
set_option linter.unusedVariables false
set_option maxRecDepth 1000000
namespace Go.Proofs.Ytncndnlbiijdoaa.Ev
open Go Go.Proofs
def slX : List Nat := [0, 1, 7, 8]
def lvX : AX → List Nat := fun x => match x with
  | .ret => [4]
  | _ => slX
def fnX : Value := .func (.func 31) #[] #[]
def FX (l : List In) (c : Nat) (i : Int) : AFr := mkF 19 [(0, .slice (some ⟨0, 0, some 0⟩) l.length c), (1, fnX), (7, .int .i64 (Int.ofNat l.length)), (8, .int .i64 i)]
def SX (l : List In) : ASt := mkS [some (rowO .look l)]
def FXr (n : Int) : AFr := mkF 19 [(4, .int .i64 n)]
noncomputable def idxN (l : List In) : Nat → Nat → Int
  | 0, _ => -1
  | n + 1, k => cond (mayB (l.getD k Enc.dflt)) (idxN l n (k + 1)) (k : Int)
noncomputable def idxV (l : List In) : Int := idxN l l.length 0
def exX (l : List In) (c : Nat) : Nat → Kt → Prop := fun b K => (idxV l = -1 → K (.exit b) (FX l c l.length) (SX l)) ∧ (∀ k : Nat, k < l.length → idxV l = (k : Int) → K .ret (FXr (k : Int)) (SX l))
def shpX (l : List In) (c : Nat) (i' : Int) : AFr × ASt := (FX l c i', SX l)
def shpXr (l : List In) (n' : Int) : AFr × ASt := (FXr n', SX l)
theorem vc_ix (l : List In) (c : Nat) (β : Bs) (K : AE → Prop) : lawE Try.prog toldB3 100 20 β (fun _ => 0) (cnOf 1 fun _ => slX) (exX l c) 45 [.slice (some ⟨0, 0, some 0⟩) l.length c, fnX] (mkS [some (rowO .look l)]) (fun r _ => K r) =
(  LoopJ Try.prog β (exX l c) 0 (loopOf Try.prog 45 0) (FX l c (0 : Int)) (SX l) ∧
  (idxV l = (-1 : Int) → K (AE.returned (Value.int IntKind.i64 (-1 : Int)))) ∧
  ∀ (k : Nat), k < List.length l → idxV l = ↑k → K (AE.returned (Value.int IntKind.i64 (Int.ofNat k)))) := by kernel_rfl
theorem vc_ix_r (l : List In) (c : Nat) (i : Int) (β : Bs) (N : Kt) (ex : Nat → Kt → Prop) : roundJ Try.prog toldB3 100 20 β (fun _ => 0) (cnOf 1 fun _ => slX) ex 45 0 1 lvX (FX l c i) (SX l) N =
(  br (decide (i < Int.ofNat (List.length l)))
  (need (decide ((0 : Int) ≤ i))
  (need (Nat.blt (Int.toNat i) (List.length l))
  (need (Nat.ble 0 (0 + Int.toNat i) && Nat.blt (0 + Int.toNat i) (List.length l))
  (br
  (!mayB
  (In.mk (In.op (List.getD l (0 + Int.toNat i) Enc.dflt))
  (In.kd (List.getD l (0 + Int.toNat i) Enc.dflt))
  (In.a (List.getD l (0 + Int.toNat i) Enc.dflt))
  (In.n (List.getD l (0 + Int.toNat i) Enc.dflt))
  (Vl.mk (Vl.k (In.v (List.getD l (0 + Int.toNat i) Enc.dflt)))
  (Vl.i (In.v (List.getD l (0 + Int.toNat i) Enc.dflt)))
  (Vl.f (In.v (List.getD l (0 + Int.toNat i) Enc.dflt))))))
  (onP N AX.ret (shpXr l i)) (onP N AX.normal (shpX l c (IntKind.wrap IntKind.i64 (i + (1 : Int)))))))))
  (onP N (AX.exit 0) (shpX l c i))) := by kernel_rfl
end Go.Proofs.Ytncndnlbiijdoaa.Ev

/-! inst.bytes: told to the evaluator. -/
set_option linter.unusedVariables false
set_option linter.unusedSimpArgs false
set_option maxRecDepth 100000
namespace Go.Proofs.Ytncndnlbiijdoaa.Ev
open Go Go.Proofs Go.RowKit

def num1 (n : Nat) : List U8 := [byU n]
def num8 (n : Nat) : List U8 := [byU (n / 72057594037927936), byU (n / 281474976710656), byU (n / 1099511627776), byU (n / 4294967296), byU (n / 16777216), byU (n / 65536), byU (n / 256), byU n]
/-- so many bytes -/
def numW (w n : Nat) : List U8 := match w with
  | 1 => num1 n
  | 2 => num2 n
  | 4 => num4 n
  | 8 => num8 n
  | _ => []
def vwid (k : Int) : Nat := if k = 1 then 1 else if k = 2 then 2 else if k = 3 then 4 else if k = 4 then 8 else if k = 5 then 8 else 0
def uN (i : Int) : Nat := (IntKind.wrap .u64 i).toNat
def vnum (k i : Int) (f : Nat) : Nat := if k = 5 then bitsN f else uN i
def vby (k i : Int) (f : Nat) : List U8 := numW (vwid k) (vnum k i f)
theorem uN_eq (i : Int) : IntKind.wrap .u64 i = Int.ofNat (uN i) := by
  have : 0 ≤ IntKind.wrap .u64 i := by
    unfold IntKind.wrap
    simp only [IntKind.signed, IntKind.bits]
    have := Int.emod_nonneg i (show ((2 : Int) ^ 64) ≠ 0 by decide)
    simpa using this
  unfold uN
  rw [Int.ofNat_eq_natCast, Int.toNat_of_nonneg this]
theorem fdU (n m : Nat) : IntKind.wrap .u8 (Int.fdiv (Int.ofNat n) (m : Int)) = (byU (n / m)).v := by_fdiv n m
theorem fdU1 (n : Nat) : IntKind.wrap .u8 (Int.fdiv (Int.ofNat n) 1) = (byU n).v := fd1 n
theorem cells_leaf {L : List U8} {M : List (Option AObj)} {k n cap : Nat} (hM : M[k]? = some (some (.cells (L.map fun u => Value.int .u8 u.v) false 1))) (hn : n = L.length) :
    ∃ m2, objsR M m2 ∧ ansE (.ret (.cell (ownL L 0))) (.returned (.slice (some ⟨k, 0, none⟩) n cap)) (mkS m2) := by
  subst hn
  refine ⟨_, objsR.refl _, [k], .inr (.inr ⟨k, 0, cap, _, false, 1, rfl, rfl, by rw [mkS_get, hM]; rfl, rfl, fun _ => rfl, (fun h => by cases h), fun i hi j hj => ?_⟩), by simp⟩
  have hj : j < 1 := hj
  have : j = 0 := by omega
  subst this
  refine ⟨.int .u8 (L.getD i Enc.dflt).v, ?_, rfl, rfl⟩
  have : 0 + i * Enc.es U8 + 0 = i := by rw [esU]; omega
  rw [this, List.getElem?_map]
  simp [List.getD, hi]
theorem by_law {k i : Int} {f : Nat} {β : Bs} (h1 : 1 ≤ k) (h5 : k ≤ 5) : lawE Try.prog toldB3 100 20 β (fun _ => 0) (cnOf 0 fun _ => []) (fun _ _ => False) 34 [.agg ⟨[.int .i64 k, .int .i64 i, .float .f64 f]⟩] (mkS []) (outR (ansE (.ret (.cell (ownL (vby k i f) 0))))) := by
  show lawE _ _ _ _ _ _ _ _ _ _ _ (outK fun r M => ∃ m2, objsR M m2 ∧ ansE (.ret (.cell (ownL (vby k i f) 0))) r (mkS m2))
  rw [vc_by]
  simp only [uN_eq, fdU1, show (256 : Int) = ((256 : Nat) : Int) from rfl, show (65536 : Int) = ((65536 : Nat) : Int) from rfl, show (16777216 : Int) = ((16777216 : Nat) : Int) from rfl, show (4294967296 : Int) = ((4294967296 : Nat) : Int) from rfl, show (1099511627776 : Int) = ((1099511627776 : Nat) : Int) from rfl, show (281474976710656 : Int) = ((281474976710656 : Nat) : Int) from rfl, show (72057594037927936 : Int) = ((72057594037927936 : Nat) : Int) from rfl, fdU]
  have hk : k = 1 ∨ k = 2 ∨ k = 3 ∨ k = 4 ∨ k = 5 := by omega
  rcases hk with rfl | rfl | rfl | rfl | rfl
  · exact cells_leaf (L := num1 (uN i)) (k := 2) rfl rfl
  · exact cells_leaf (L := num2 (uN i)) (k := 4) rfl rfl
  · exact cells_leaf (L := num4 (uN i)) (k := 8) rfl rfl
  · exact cells_leaf (L := num8 (uN i)) (k := 16) rfl rfl
  · exact cells_leaf (L := num8 (bitsN f)) (k := 16) rfl rfl
def okBy (ts : List Ta) : Bool := match ts with
  | [.agg [a, b, c]] => intOk a && intOk b && fltOk c && (decide (1 ≤ intD a) && decide (intD a ≤ 5))
  | _ => false
def ansBy (ts : List Ta) : Ans := match ts with
  | [.agg [a, b, c]] => .ret (.cell (ownL (vby (intD a) (intD b) (fltD c)) 0))
  | _ => .pan .nilIface
theorem by_told : ToldW Try.prog 34 okBy ansBy := by
  intro ts hok w args' F hF ha
  unfold okBy at hok
  split at hok
  · rename_i a b c
    simp only [Bool.and_eq_true, decide_eq_true_eq] at hok
    obtain ⟨⟨⟨o1, o2⟩, o3⟩, o4, o5⟩ := hok
    obtain ⟨y, m, e, hy, hm'⟩ := ha.uncons
    have := hm'.nil_inv
    subst this
    obtain ⟨arr, rfl, hy⟩ := hy
    have hy' : PW (TRo w F) [.sc (.int .i64 (intD a)), .sc (.int .i64 (intD b)), .sc (.float .f64 (fltD c))] arr.toList := by
      rw [← intOk_inv o1, ← intOk_inv o2, ← fltOk_inv o3]; exact hy
    have ha' : PW (TaR w F) [.agg [.sc (.int .i64 (intD a)), .sc (.int .i64 (intD b)), .sc (.float .f64 (fltD c))]] args'.toList := by rw [e]; exact PW.cons ⟨arr, rfl, hy'⟩ (PW.nil _)
    refine toldW_out (ts := [.agg [.sc (.int .i64 (intD a)), .sc (.int .i64 (intD b)), .sc (.float .f64 (fltD c))]]) follows ⟨toldB3, 100, 20, fun _ => 0, fun _ => [], fun _ _ => False, toldB3_ok, fun β hβ => ?_⟩ w args' F hF ha'
    exact by_law o4 o5
  · cases hok
/-! ### the first that may not be -/
theorem idxN_all {l : List In} : ∀ (n k : Nat), k + n = l.length → (∀ j, k ≤ j → j < l.length → mayB (l.getD j Enc.dflt) = true) → idxN l n k = -1 := by
  intro n
  induction n with
  | zero => intro k h _; rfl
  | succ n ih =>
    intro k h hall
    simp only [idxN]
    rw [hall k (Nat.le_refl _) (by omega)]
    exact ih (k + 1) (by omega) fun j h1 h2 => hall j (by omega) h2
theorem idxN_go {l : List In} {n k : Nat} (h : mayB (l.getD k Enc.dflt) = true) : idxN l (n + 1) k = idxN l n (k + 1) := by
  simp only [idxN]; rw [h]; rfl
theorem idxN_stop {l : List In} {n k : Nat} (h : mayB (l.getD k Enc.dflt) = false) : idxN l (n + 1) k = (k : Int) := by
  simp only [idxN]; rw [h]; rfl
theorem idxN_all_inv {l : List In} : ∀ (n k : Nat), k + n = l.length → idxN l n k < 0 → ∀ j, k ≤ j → j < l.length → mayB (l.getD j Enc.dflt) = true := by
  intro n
  induction n with
  | zero => intro k h _ j h1 h2; omega
  | succ n ih =>
    intro k h hneg j h1 h2
    cases hm : mayB (l.getD k Enc.dflt) with
    | false => rw [idxN_stop hm] at hneg; omega
    | true =>
      rw [idxN_go hm] at hneg
      by_cases hj : j = k
      · subst hj; exact hm
      · exact ih (k + 1) (by omega) hneg j (by omega) h2
theorem idxV_iff (l : List In) : decide (idxV l ≥ 0) = !(l.all mayB) := by
  have h1 : l.all mayB = true → idxV l = -1 := fun h => idxN_all _ _ (by omega) fun j _ hj => by
    rw [List.all_eq_true] at h
    exact h _ (by simp [List.getD, hj])
  cases h : l.all mayB with
  | true => rw [h1 h]; rfl
  | false =>
    refine decide_eq_true ?_
    rcases Int.lt_or_le (idxV l) 0 with hn | hn
    · have := idxN_all_inv l.length 0 (by omega) hn
      have : l.all mayB = true := by
        rw [List.all_eq_true]
        intro x hx
        obtain ⟨i, hi, rfl⟩ := List.mem_iff_getElem.1 hx
        have := this i (Nat.zero_le _) hi
        simpa [List.getD, hi] using this
      rw [h] at this; cases this
    · exact hn
def okX (ts : List Ta) : Bool := match ts with
  | [.cell t, .cell (.sc (.func (.func g) ⟨[]⟩ ⟨[]⟩))] => okT In t && Nat.beq g 31
  | _ => false
noncomputable def ansX (ts : List Ta) : Ans := match ts with
  | [.cell t, _] => .ret (.cell (.sc (.int .i64 (idxV (listT In t)))))
  | _ => .pan .nilIface
theorem ix_law {l : List In} {c : Nat} {β : Bs} (hβ : β.X.length = 1) (hl : l.length ≤ 1000000) : lawE Try.prog toldB3 100 20 β (fun _ => 0) (cnOf 1 fun _ => slX) (exX l c) 45 [.slice (some ⟨0, 0, some 0⟩) l.length c, fnX] (mkS [some (rowO .look l)]) (fun r _ => ansE (.ret (.cell (.sc (.int .i64 (idxV l))))) r st0) := by
  rw [vc_ix l c β fun r => ansE (.ret (.cell (.sc (.int .i64 (idxV l))))) r st0]
  refine ⟨?_, fun h => ⟨[], ⟨rfl, by rw [h], rfl⟩, List.nodup_nil⟩, fun k hk h => ⟨[], ⟨rfl, by rw [h]; rfl, rfl⟩, List.nodup_nil⟩⟩
  refine loop_rule (fun k : Nat => k ≤ l.length ∧ idxV l = idxN l (l.length - k) k) (fun k => FX l c k) (fun _ => SX l) (fun k => l.length - k) (fun k hk K hK => ?_) 0 ⟨Nat.zero_le _, rfl⟩
  obtain ⟨hk, hi⟩ := hk
  have hK : (idxV l = -1 → K (.exit 0) (FX l c l.length) (SX l)) ∧ (∀ k : Nat, k < l.length → idxV l = (k : Int) → K .ret (FXr (k : Int)) (SX l)) := hK
  show J _ β _ _ _ (Nn β (fun k : Nat => k ≤ l.length ∧ idxV l = idxN l (l.length - k) k) (fun k => l.length - k) (fun k => FX l c k) (fun _ => SX l) k K)
  refine roundJ_ok (E := 1) (lvs := fun _ => slX) (un := fun _ => 0) (fuel := 100) (n := 20) (ex := fun _ _ => False) follows toldB3_ok hβ (lv := lvX) ?_
  rw [vc_ix_r]
  by_cases hkn : k < l.length
  · have c1 : decide ((k : Int) < Int.ofNat l.length) = true := by simpa using hkn
    have c2 : decide ((0 : Int) ≤ (k : Int)) = true := by simp
    have e0 : Int.toNat (k : Int) = k := Int.toNat_natCast k
    have c3 : Nat.blt k l.length = true := by simpa using hkn
    have c5 : Nat.ble 0 k = true := by simp
    have hw : IntKind.wrap .i64 ((k : Int) + 1) = ((k + 1 : Nat) : Int) := w64 (by omega) (by omega)
    have hs : l.length - k = (l.length - (k + 1)) + 1 := by omega
    have hx : ∀ x : In, (⟨x.op, x.kd, x.a, x.n, ⟨x.v.k, x.v.i, x.v.f⟩⟩ : In) = x := fun x => rfl
    simp only [c1, c2, e0, Nat.zero_add, c3, c5, Bool.true_and, br_t, need_t, hw, hx]
    refine br_of (fun q => ?_) (fun q => ?_)
    · have q : mayB (l.getD k Enc.dflt) = false := by simpa using q
      rw [hs, idxN_stop q] at hi
      exact Nn.ret (Seen.refl _ _ _) (hK.2 k hkn hi)
    · have q : mayB (l.getD k Enc.dflt) = true := by simpa using q
      rw [hs, idxN_go q] at hi
      exact Nn.next (I := fun k : Nat => k ≤ l.length ∧ idxV l = idxN l (l.length - k) k) (m := fun k => l.length - k) (F := fun k : Nat => FX l c k) (S := fun _ => SX l) (p := k) (k + 1) ⟨hkn, hi⟩ (by omega) (Seen.refl _ _ _)
  · have c1 : decide ((k : Int) < Int.ofNat l.length) = false := by simpa using hkn
    have hkn' : k = l.length := by omega
    simp only [c1, br_f]
    subst hkn'
    exact Nn.exit (Seen.refl _ _ _) (hK.1 (by rw [hi, Nat.sub_self]; rfl))
theorem ix_told : ToldW Try.prog 45 okX ansX := by
  intro ts hok w args' F hF ha
  unfold okX at hok
  split at hok
  · rename_i t g
    simp only [Bool.and_eq_true] at hok
    obtain ⟨o1, o2⟩ := hok
    have := Nat.eq_of_beq_eq_true o2
    subst this
    obtain ⟨h1, h2⟩ := okT_len o1
    obtain ⟨y, m, e, hy, hm'⟩ := ha.uncons
    have ha' : PW (TaR w F) [.cell (tdL (listT In t) (nilT t)), .cell (.sc fnX)] args'.toList := by rw [e]; exact PW.cons (okT_TRo o1 hy) hm'
    refine toldW_at (ts := [.cell (tdL (listT In t) (nilT t)), .cell (.sc fnX)]) follows ⟨toldB3, 100, 20, fun _ => 0, fun _ => slX, exX (listT In t) (nilT t), toldB3_ok, fun β hβ => ?_⟩ w args' F hF ha'
    have := ix_law (l := listT In t) (c := nilT t) hβ h1
    have ea : ansE (.ret (.cell (.sc (.int .i64 (idxV (listT In t)))))) = fun r _ => ansE (.ret (.cell (.sc (.int .i64 (idxV (listT In t)))))) r st0 := by funext r st; cases r <;> rfl
    show lawE _ _ _ _ _ _ (cnOf 1 fun _ => slX) _ _ [.slice (some ⟨0, 0, some 0⟩) (listT In t).length (nilT t), fnX] (mkS [some (rowO .look (listT In t))]) (ansE (.ret (.cell (.sc (.int .i64 (idxV (listT In t)))))))
    rw [ea]
    exact this
  · cases hok
noncomputable def toldB4 : Told := (toldB3.tree 34 okBy ansBy).tree 45 okX ansX
theorem toldB4_ok : ToldS Try.prog toldB4 := Told.tree_ok (Told.tree_ok toldB3_ok by_told) ix_told
end Go.Proofs.Ytncndnlbiijdoaa.Ev

/-! What has to hold: printed by the evaluator. -/
set_option linter.unusedVariables false
set_option maxRecDepth 1000000
namespace Go.Proofs.Ytncndnlbiijdoaa.Ev
open Go Go.Proofs
theorem vc_num2 (v : Int) (β : Bs) (K : AE → List (Option AObj) → Prop) : lawE Try.prog toldB3 100 20 β (fun _ => 8) (cnOf 0 fun _ => []) (fun _ _ => False) 32 [.int .u64 v, .int .i64 2] (mkS []) (outK K) =
(  K (AE.returned (Value.slice (some (Addr.mk 3 0 none)) 2 2))
  [some (AObj.cells [Value.int IntKind.u8 (IntKind.wrap IntKind.u8 (Int.fdiv v (256 : Int)))] true 1), none,
  some (AObj.cells [Value.int IntKind.u8 (IntKind.wrap IntKind.u8 (Int.fdiv v (1 : Int)))] true 1),
  some
  (AObj.cells
  [Value.int IntKind.u8 (IntKind.wrap IntKind.u8 (Int.fdiv v (256 : Int))),
  Value.int IntKind.u8 (IntKind.wrap IntKind.u8 (Int.fdiv v (1 : Int)))]
  false 1)]) := by kernel_rfl
end Go.Proofs.Ytncndnlbiijdoaa.Ev

/-! inst.num of two bytes: told to the evaluator. -/
set_option linter.unusedVariables false
set_option linter.unusedSimpArgs false
set_option maxRecDepth 100000
namespace Go.Proofs.Ytncndnlbiijdoaa.Ev
open Go Go.Proofs Go.RowKit

def natD (t : Td) : Int := match t with | .sc (.int .u64 v) => v | _ => 0
def natOk (t : Td) : Bool := match t with | .sc (.int .u64 v) => decide (0 ≤ v) | _ => false
theorem natOk_inv {t : Td} (h : natOk t = true) : t = .sc (.int .u64 (natD t)) ∧ 0 ≤ natD t := by
  unfold natOk at h
  split at h
  · exact ⟨rfl, of_decide_eq_true h⟩
  · cases h
def okNm (ts : List Ta) : Bool := match ts with
  | [.cell a, .cell (.sc (.int .i64 n))] => natOk a && decide (n = 2)
  | _ => false
def ansNm (ts : List Ta) : Ans := match ts with
  | [.cell a, _] => .ret (.cell (ownL (num2 (natD a).toNat) 0))
  | _ => .pan .nilIface
theorem nm_told : ToldW Try.prog 32 okNm ansNm := by
  intro ts hok w args' F hF ha
  unfold okNm at hok
  split at hok
  · rename_i a n
    simp only [Bool.and_eq_true, decide_eq_true_eq] at hok
    obtain ⟨o1, rfl⟩ := hok
    obtain ⟨o2, o3⟩ := natOk_inv o1
    rw [o2] at ha
    have he : natD a = Int.ofNat (natD a).toNat := (Int.toNat_of_nonneg o3).symm
    have ha : PW (TaR w F) [.cell (.sc (.int .u64 (Int.ofNat (natD a).toNat))), .cell (.sc (.int .i64 2))] args'.toList := by rw [← he]; exact ha
    show Calls _ _ _ _ fun e w' => AnsR w F (.ret (.cell (ownL (num2 (natD a).toNat) 0))) e w'
    refine toldW_out (ts := [.cell (.sc (.int .u64 (Int.ofNat (natD a).toNat))), .cell (.sc (.int .i64 2))]) follows ⟨toldB3, 100, 20, fun _ => 8, fun _ => [], fun _ _ => False, toldB3_ok, fun β hβ => ?_⟩ w args' F hF ha
    generalize (natD a).toNat = v
    show lawE _ _ _ _ _ _ (cnOf 0 fun _ => []) _ _ [.int .u64 (Int.ofNat v), .int .i64 2] (mkS []) (outK fun r M => ∃ m2, objsR M m2 ∧ ansE (.ret (.cell (ownL (num2 v) 0))) r (mkS m2))
    rw [vc_num2]
    simp only [fdU1, show (256 : Int) = ((256 : Nat) : Int) from rfl, fdU]
    exact cells_leaf (L := num2 v) (k := 3) rfl rfl
  · cases hok
noncomputable def toldB5 : Told := toldB4.tree 32 okNm ansNm
theorem toldB5_ok : ToldS Try.prog toldB5 := Told.tree_ok toldB4_ok nm_told
end Go.Proofs.Ytncndnlbiijdoaa.Ev

/-! What has to hold: printed by the evaluator. -/
set_option linter.unusedVariables false
set_option maxRecDepth 1000000
namespace Go.Proofs.Ytncndnlbiijdoaa.Ev
open Go Go.Proofs
def slPu : List Nat := [3, 17, 18, 19]
def FPu (l : List In) (b : List U8) (c cb : Nat) (i : Int) : AFr := mkF 51 [(3, .slice (some ⟨1, 0, some 0⟩) b.length cb), (17, .slice (some ⟨0, 0, some 0⟩) l.length c), (18, .int .i64 (Int.ofNat l.length)), (19, .int .i64 i)]
def SPu (l : List In) (b : List U8) : ASt := mkS [some (rowO .look l), some (rowO .mine b)]
def w8B (x : Int) : U8 := ⟨IntKind.wrap .u8 x⟩
def inBy (x : In) : List U8 := ([w8B x.op, w8B x.kd] ++ num2 (uN x.a) ++ [w8B x.n]) ++ (if x.op = 1 then vby x.v.k x.v.i x.v.f else [])
def putN (l : List In) : Nat → List U8
  | 0 => num2 l.length
  | k + 1 => putN l k ++ inBy (l.getD k Enc.dflt)
def exPu (l : List In) (c : Nat) : Nat → Kt → Prop := fun b K => K (.exit b) (FPu l (putN l l.length) c 0 l.length) (SPu l (putN l l.length))
theorem vc_put (l : List In) (c : Nat) (β : Bs) (K : AE → ASt → Prop) : lawE Try.prog toldB5 100 20 β (fun _ => 0) (cnOf 1 fun _ => slPu) (exPu l c) 12 [.slice (some ⟨0, 0, some 0⟩) l.length c] (mkS [some (rowO .look l)]) K =
(  br (decide (Int.ofNat (List.length l) > (400 : Int)))
  (K (AE.returned (Value.slice none 0 0))
  (mkS [some (AObj.row Rk.look 7 0 (List.length l) (encL l))]))
  (need (true && Nat.ble (0 + List.length l) (List.length l))
  (need
  (okX
  [Ta.cell (Td.fr 7 (List.length l) c fun i => encL l (0 + i)),
  Ta.cell (Td.sc (Value.func (Fn.func 31) #[] #[]))])
  (br (decide (idxV (listT In (Td.fr 7 (List.length l) c fun i => encL l (0 + i))) ≥ (0 : Int)))
  (K (AE.returned (Value.slice none 0 0)) (ASt.skip (mkS [some (rowO Rk.look l)])))
  (LoopJ Try.prog β (exPu l c) 0 (loopOf Try.prog 12 0)
  (mkF 51
  [(3, Value.slice (some (Addr.mk 1 0 (some 0))) 2 0),
  (17, Value.slice (some (Addr.mk 0 0 (some 0))) (List.length l) c),
  (18, Value.int IntKind.i64 (Int.ofNat (List.length l))),
  (19, Value.int IntKind.i64 (0 : Int))])
  (mkS
  [some (AObj.row Rk.look 7 0 (List.length l) (encL l)),
  some
  (AObj.row Rk.mine 1 0 2
  (encL
  (num2
  (Int.toNat
  (natD
  (Td.sc
  (Value.int IntKind.u64 (IntKind.wrap IntKind.u64 (Int.ofNat (List.length l))))))))))]) ∧
  K
  (AE.returned
  (Value.slice (some (Addr.mk 1 0 (some 0))) (List.length (putN l (List.length l)))
  0))
  (SPu l (putN l (List.length l)))))))) := by kernel_rfl
theorem vc_put_r (l : List In) (b : List U8) (c cb : Nat) (i : Int) (β : Bs) (N : Kt) (ex : Nat → Kt → Prop) : roundJ Try.prog toldB5 100 20 β (fun _ => 0) (cnOf 1 fun _ => slPu) ex 12 0 1 (fun _ => slPu) (FPu l b c cb i) (SPu l b) N =
(  br (decide (i < Int.ofNat (List.length l)))
  (need (decide ((0 : Int) ≤ i))
  (need (Nat.blt (Int.toNat i) (List.length l))
  (need (Nat.ble 0 (0 + Int.toNat i) && Nat.blt (0 + Int.toNat i) (List.length l))
  (need
  (okNm
  [Ta.cell
  (Td.sc
  (Value.int IntKind.u64
  (IntKind.wrap IntKind.u64 (In.a (List.getD l (0 + Int.toNat i) Enc.dflt))))),
  Ta.cell (Td.sc (Value.int IntKind.i64 (2 : Int)))])
  (br (decide (IntKind.wrap IntKind.i64 ((0 : Int) + Int.ofNat (List.length b)) < (0 : Int))) False
  (br
  (decide
  (IntKind.wrap IntKind.i64
  (IntKind.wrap IntKind.i64 ((0 : Int) + Int.ofNat (List.length b)) + (2 : Int)) <
  (0 : Int)))
  False
  (br
  (decide
  (IntKind.wrap IntKind.i64
  (IntKind.wrap IntKind.i64
  (IntKind.wrap IntKind.i64 ((0 : Int) + Int.ofNat (List.length b)) + (2 : Int)) +
  Int.ofNat
  (List.length
  (num2
  (Int.toNat
  (natD
  (Td.sc
  (Value.int IntKind.u64
  (IntKind.wrap IntKind.u64
  (In.a (List.getD l (0 + Int.toNat i) Enc.dflt)))))))))) <
  (0 : Int)))
  False
  (br
  (decide
  (IntKind.wrap IntKind.i64
  (IntKind.wrap IntKind.i64
  (IntKind.wrap IntKind.i64
  (IntKind.wrap IntKind.i64 ((0 : Int) + Int.ofNat (List.length b)) + (2 : Int)) +
  Int.ofNat
  (List.length
  (num2
  (Int.toNat
  (natD
  (Td.sc
  (Value.int IntKind.u64
  (IntKind.wrap IntKind.u64
  (In.a (List.getD l (0 + Int.toNat i) Enc.dflt)))))))))) +
  (1 : Int)) <
  (0 : Int)))
  False
  (br
  (decide
  (IntKind.wrap IntKind.i64
  (IntKind.wrap IntKind.i64
  (IntKind.wrap IntKind.i64
  (IntKind.wrap IntKind.i64 ((0 : Int) + Int.ofNat (List.length b)) + (2 : Int)) +
  Int.ofNat
  (List.length
  (num2
  (Int.toNat
  (natD
  (Td.sc
  (Value.int IntKind.u64
  (IntKind.wrap IntKind.u64
  (In.a (List.getD l (0 + Int.toNat i) Enc.dflt)))))))))) +
  (1 : Int)) <
  (0 : Int)))
  False
  (br
  (decide
  (IntKind.wrap IntKind.i64
  (IntKind.wrap IntKind.i64
  (IntKind.wrap IntKind.i64
  (IntKind.wrap IntKind.i64
  (IntKind.wrap IntKind.i64 ((0 : Int) + Int.ofNat (List.length b)) + (2 : Int)) +
  Int.ofNat
  (List.length
  (num2
  (Int.toNat
  (natD
  (Td.sc
  (Value.int IntKind.u64
  (IntKind.wrap IntKind.u64
  (In.a (List.getD l (0 + Int.toNat i) Enc.dflt)))))))))) +
  (1 : Int)) -
  (0 : Int)) >
  (0 : Int)))
  (need
  (decide
  ((0 : Int) ≤
  IntKind.wrap IntKind.i64
  (IntKind.wrap IntKind.i64
  (IntKind.wrap IntKind.i64
  (IntKind.wrap IntKind.i64
  (IntKind.wrap IntKind.i64 ((0 : Int) + Int.ofNat (List.length b)) +
  (2 : Int)) +
  Int.ofNat
  (List.length
  (num2
  (Int.toNat
  (natD
  (Td.sc
  (Value.int IntKind.u64
  (IntKind.wrap IntKind.u64
  (In.a
  (List.getD l (0 + Int.toNat i) Enc.dflt)))))))))) +
  (1 : Int)) -
  (0 : Int))))
  (need
  (Nat.ble
  (Int.toNat
  (IntKind.wrap IntKind.i64
  (IntKind.wrap IntKind.i64
  (IntKind.wrap IntKind.i64
  (IntKind.wrap IntKind.i64
  (IntKind.wrap IntKind.i64 ((0 : Int) + Int.ofNat (List.length b)) +
  (2 : Int)) +
  Int.ofNat
  (List.length
  (num2
  (Int.toNat
  (natD
  (Td.sc
  (Value.int IntKind.u64
  (IntKind.wrap IntKind.u64
  (In.a
  (List.getD l (0 + Int.toNat i) Enc.dflt)))))))))) +
  (1 : Int)) -
  (0 : Int))))
  1000000)
  (need
  (Nat.ble
  (0 +
  Int.toNat
  (IntKind.wrap IntKind.i64
  (IntKind.wrap IntKind.i64
  (IntKind.wrap IntKind.i64
  (IntKind.wrap IntKind.i64
  (IntKind.wrap IntKind.i64 ((0 : Int) + Int.ofNat (List.length b)) +
  (2 : Int)) +
  Int.ofNat
  (List.length
  (num2
  (Int.toNat
  (natD
  (Td.sc
  (Value.int IntKind.u64
  (IntKind.wrap IntKind.u64
  (In.a
  (List.getD l (0 + Int.toNat i)
  Enc.dflt)))))))))) +
  (1 : Int)) -
  (0 : Int))))
  1000000)
  (need (true && Nat.ble (0 + List.length b) (List.length b))
  (need (Nat.ble (0 + List.length b) 1000000)
  (need (Nat.ble (0 + List.length b + 2) 1000000)
  (need
  (true &&
  Nat.ble (0 + (0 + List.length b)) (0 + List.length b))
  (need
  (Nat.ble
  (0 + List.length b + 2 +
  List.length
  (num2
  (Int.toNat
  (natD
  (Td.sc
  (Value.int IntKind.u64
  (IntKind.wrap IntKind.u64
  (In.a (List.getD l (0 + Int.toNat i) Enc.dflt)))))))))
  1000000)
  (need
  (true &&
  Nat.ble (0 + (0 + List.length b + 2))
  (0 + List.length b + 2))
  (need
  (Nat.ble
  (0 + List.length b + 2 +
  List.length
  (num2
  (Int.toNat
  (natD
  (Td.sc
  (Value.int IntKind.u64
  (IntKind.wrap IntKind.u64
  (In.a
  (List.getD l (0 + Int.toNat i)
  Enc.dflt)))))))) +
  1)
  1000000)
  (need
  (true &&
  Nat.ble
  (0 +
  (0 + List.length b + 2 +
  List.length
  (num2
  (Int.toNat
  (natD
  (Td.sc
  (Value.int IntKind.u64
  (IntKind.wrap IntKind.u64
  (In.a
  (List.getD l (0 + Int.toNat i)
  Enc.dflt))))))))))
  (0 + List.length b + 2 +
  List.length
  (num2
  (Int.toNat
  (natD
  (Td.sc
  (Value.int IntKind.u64
  (IntKind.wrap IntKind.u64
  (In.a
  (List.getD l (0 + Int.toNat i)
  Enc.dflt))))))))))
  (br (In.op (List.getD l (0 + Int.toNat i) Enc.dflt) == (1 : Int))
  (need
  (okBy
  [Ta.agg
  [Td.sc
  (Value.int IntKind.i64
  (Vl.k
  (In.v (List.getD l (0 + Int.toNat i) Enc.dflt)))),
  Td.sc
  (Value.int IntKind.i64
  (Vl.i
  (In.v (List.getD l (0 + Int.toNat i) Enc.dflt)))),
  Td.sc
  (Value.float FloatKind.f64
  (Vl.f
  (In.v
  (List.getD l (0 + Int.toNat i) Enc.dflt))))]])
  (need
  (true &&
  Nat.ble
  (0 +
  List.length
  (vby
  (Vl.k
  (In.v (List.getD l (0 + Int.toNat i) Enc.dflt)))
  (Vl.i
  (In.v (List.getD l (0 + Int.toNat i) Enc.dflt)))
  (fltD
  (Td.sc
  (Value.float FloatKind.f64
  (Vl.f
  (In.v
  (List.getD l (0 + Int.toNat i)
  Enc.dflt))))))))
  (List.length
  (vby
  (Vl.k (In.v (List.getD l (0 + Int.toNat i) Enc.dflt)))
  (Vl.i (In.v (List.getD l (0 + Int.toNat i) Enc.dflt)))
  (fltD
  (Td.sc
  (Value.float FloatKind.f64
  (Vl.f
  (In.v
  (List.getD l (0 + Int.toNat i)
  Enc.dflt)))))))))
  (need
  (Nat.ble
  (0 + List.length b + 2 +
  List.length
  (num2
  (Int.toNat
  (natD
  (Td.sc
  (Value.int IntKind.u64
  (IntKind.wrap IntKind.u64
  (In.a
  (List.getD l (0 + Int.toNat i)
  Enc.dflt)))))))) +
  1 +
  List.length
  (vby
  (Vl.k
  (In.v (List.getD l (0 + Int.toNat i) Enc.dflt)))
  (Vl.i
  (In.v (List.getD l (0 + Int.toNat i) Enc.dflt)))
  (fltD
  (Td.sc
  (Value.float FloatKind.f64
  (Vl.f
  (In.v
  (List.getD l (0 + Int.toNat i)
  Enc.dflt))))))))
  1000000)
  (need
  (true &&
  Nat.ble
  (0 +
  (0 + List.length b + 2 +
  List.length
  (num2
  (Int.toNat
  (natD
  (Td.sc
  (Value.int IntKind.u64
  (IntKind.wrap IntKind.u64
  (In.a
  (List.getD l (0 + Int.toNat i)
  Enc.dflt)))))))) +
  1))
  (0 + List.length b + 2 +
  List.length
  (num2
  (Int.toNat
  (natD
  (Td.sc
  (Value.int IntKind.u64
  (IntKind.wrap IntKind.u64
  (In.a
  (List.getD l (0 + Int.toNat i)
  Enc.dflt)))))))) +
  1))
  (N AX.normal
  (mkF 51
  [(3,
  Value.slice
  (some (Addr.mk 1 0 (some 0)))
  (0 + List.length b + 2 +
  List.length
  (num2
  (Int.toNat
  (natD
  (Td.sc
  (Value.int IntKind.u64
  (IntKind.wrap IntKind.u64
  (In.a
  (List.getD l
  (0 + Int.toNat i)
  Enc.dflt)))))))) +
  1 +
  List.length
  (vby
  (Vl.k
  (In.v
  (List.getD l (0 + Int.toNat i)
  Enc.dflt)))
  (Vl.i
  (In.v
  (List.getD l (0 + Int.toNat i)
  Enc.dflt)))
  (fltD
  (Td.sc
  (Value.float FloatKind.f64
  (Vl.f
  (In.v
  (List.getD l (0 + Int.toNat i)
  Enc.dflt))))))))
  (bif
  Nat.beq
  (Int.toNat
  (IntKind.wrap IntKind.i64
  (IntKind.wrap IntKind.i64
  (IntKind.wrap IntKind.i64
  (IntKind.wrap IntKind.i64
  (IntKind.wrap IntKind.i64
  ((0 : Int) +
  Int.ofNat (List.length b)) +
  (2 : Int)) +
  Int.ofNat
  (List.length
  (num2
  (Int.toNat
  (natD
  (Td.sc
  (Value.int IntKind.u64
  (IntKind.wrap
  IntKind.u64
  (In.a
  (List.getD l
  (0 +
  Int.toNat i)
  Enc.dflt)))))))))) +
  (1 : Int)) -
  (0 : Int))))
  0 then
  1
  else 0)),
  (17,
  Value.slice
  (some (Addr.mk 0 0 (some 0)))
  (List.length l) c),
  (18,
  Value.int IntKind.i64 (Int.ofNat (List.length l))),
  (19,
  Value.int IntKind.i64
  (IntKind.wrap IntKind.i64 (i + (1 : Int))))])
  (mkS
  [some
  (AObj.row Rk.look 7 0 (List.length l)
  (encL l)),
  some
  (AObj.row Rk.mine 1 0
  (0 + List.length b + 2 +
  List.length
  (num2
  (Int.toNat
  (natD
  (Td.sc
  (Value.int IntKind.u64
  (IntKind.wrap IntKind.u64
  (In.a
  (List.getD l
  (0 + Int.toNat i)
  Enc.dflt)))))))) +
  1 +
  List.length
  (vby
  (Vl.k
  (In.v
  (List.getD l (0 + Int.toNat i)
  Enc.dflt)))
  (Vl.i
  (In.v
  (List.getD l (0 + Int.toNat i)
  Enc.dflt)))
  (fltD
  (Td.sc
  (Value.float FloatKind.f64
  (Vl.f
  (In.v
  (List.getD l (0 + Int.toNat i)
  Enc.dflt))))))))
  fun j k =>
  mrgT
  (Nat.blt j
  (0 + List.length b + 2 +
  List.length
  (num2
  (Int.toNat
  (natD
  (Td.sc
  (Value.int IntKind.u64
  (IntKind.wrap IntKind.u64
  (In.a
  (List.getD l
  (0 + Int.toNat i)
  Enc.dflt)))))))) +
  1))
  (mrgT
  (Nat.blt (0 + j)
  (0 + List.length b + 2 +
  List.length
  (num2
  (Int.toNat
  (natD
  (Td.sc
  (Value.int IntKind.u64
  (IntKind.wrap IntKind.u64
  (In.a
  (List.getD l
  (0 + Int.toNat i)
  Enc.dflt))))))))))
  (mrgT
  (Nat.blt (0 + (0 + j))
  (0 + List.length b + 2))
  (mrgT
  (Nat.blt
  (0 + (0 + (0 + j)))
  (0 + List.length b))
  (mrgT
  (Nat.blt
  (0 +
  (0 +
  (0 + (0 + j))))
  0)
  (nthT [Td.sc (Value.int IntKind.u8 (0 : Int))]
  k)
  (encL b
  (0 +
  (0 +
  (0 +
  (0 + (0 + j))) -
  0))
  k))
  (selT 1 2
  [Td.sc
  (Value.int IntKind.u8
  (IntKind.wrap IntKind.u8
  (In.op
  (List.getD l
  (0 + Int.toNat i)
  Enc.dflt)))),
  Td.sc
  (Value.int IntKind.u8
  (IntKind.wrap IntKind.u8
  (In.kd
  (List.getD l
  (0 + Int.toNat i)
  Enc.dflt))))]
  (0 + (0 + (0 + j)) -
  (0 + List.length b))
  k))
  (encL
  (num2
  (Int.toNat
  (natD
  (Td.sc
  (Value.int IntKind.u64
  (IntKind.wrap IntKind.u64
  (In.a
  (List.getD l
  (0 + Int.toNat i)
  Enc.dflt))))))))
  (0 +
  (0 + (0 + j) -
  (0 + List.length b + 2)))
  k))
  (selT 1 1
  [Td.sc
  (Value.int IntKind.u8
  (IntKind.wrap IntKind.u8
  (In.n
  (List.getD l (0 + Int.toNat i)
  Enc.dflt))))]
  (0 + j -
  (0 + List.length b + 2 +
  List.length
  (num2
  (Int.toNat
  (natD
  (Td.sc
  (Value.int IntKind.u64
  (IntKind.wrap IntKind.u64
  (In.a
  (List.getD l
  (0 + Int.toNat i)
  Enc.dflt))))))))))
  k))
  (encL
  (vby
  (Vl.k
  (In.v
  (List.getD l (0 + Int.toNat i)
  Enc.dflt)))
  (Vl.i
  (In.v
  (List.getD l (0 + Int.toNat i)
  Enc.dflt)))
  (fltD
  (Td.sc
  (Value.float FloatKind.f64
  (Vl.f
  (In.v
  (List.getD l (0 + Int.toNat i)
  Enc.dflt)))))))
  (0 +
  (j -
  (0 + List.length b + 2 +
  List.length
  (num2
  (Int.toNat
  (natD
  (Td.sc
  (Value.int IntKind.u64
  (IntKind.wrap IntKind.u64
  (In.a
  (List.getD l
  (0 + Int.toNat i)
  Enc.dflt)))))))) +
  1)))
  k))]))))))
  (N AX.normal
  (mkF 51
  [(3,
  Value.slice (some (Addr.mk 1 0 (some 0)))
  (0 + List.length b + 2 +
  List.length
  (num2
  (Int.toNat
  (natD
  (Td.sc
  (Value.int IntKind.u64
  (IntKind.wrap IntKind.u64
  (In.a
  (List.getD l (0 + Int.toNat i)
  Enc.dflt)))))))) +
  1)
  (bif
  Nat.beq
  (Int.toNat
  (IntKind.wrap IntKind.i64
  (IntKind.wrap IntKind.i64
  (IntKind.wrap IntKind.i64
  (IntKind.wrap IntKind.i64
  (IntKind.wrap IntKind.i64
  ((0 : Int) +
  Int.ofNat (List.length b)) +
  (2 : Int)) +
  Int.ofNat
  (List.length
  (num2
  (Int.toNat
  (natD
  (Td.sc
  (Value.int IntKind.u64
  (IntKind.wrap IntKind.u64
  (In.a
  (List.getD l
  (0 +
  Int.toNat i)
  Enc.dflt)))))))))) +
  (1 : Int)) -
  (0 : Int))))
  0 then
  1
  else 0)),
  (17,
  Value.slice (some (Addr.mk 0 0 (some 0)))
  (List.length l) c),
  (18, Value.int IntKind.i64 (Int.ofNat (List.length l))),
  (19,
  Value.int IntKind.i64
  (IntKind.wrap IntKind.i64 (i + (1 : Int))))])
  (mkS
  [some (AObj.row Rk.look 7 0 (List.length l) (encL l)),
  some
  (AObj.row Rk.mine 1 0
  (0 + List.length b + 2 +
  List.length
  (num2
  (Int.toNat
  (natD
  (Td.sc
  (Value.int IntKind.u64
  (IntKind.wrap IntKind.u64
  (In.a
  (List.getD l (0 + Int.toNat i)
  Enc.dflt)))))))) +
  1)
  fun j k =>
  mrgT
  (Nat.blt j
  (0 + List.length b + 2 +
  List.length
  (num2
  (Int.toNat
  (natD
  (Td.sc
  (Value.int IntKind.u64
  (IntKind.wrap IntKind.u64
  (In.a
  (List.getD l (0 + Int.toNat i)
  Enc.dflt))))))))))
  (mrgT
  (Nat.blt (0 + j)
  (0 + List.length b + 2))
  (mrgT
  (Nat.blt (0 + (0 + j))
  (0 + List.length b))
  (mrgT
  (Nat.blt (0 + (0 + (0 + j)))
  0)
  (nthT [Td.sc (Value.int IntKind.u8 (0 : Int))] k)
  (encL b
  (0 +
  (0 + (0 + (0 + j)) -
  0))
  k))
  (selT 1 2
  [Td.sc
  (Value.int IntKind.u8
  (IntKind.wrap IntKind.u8
  (In.op
  (List.getD l (0 + Int.toNat i)
  Enc.dflt)))),
  Td.sc
  (Value.int IntKind.u8
  (IntKind.wrap IntKind.u8
  (In.kd
  (List.getD l (0 + Int.toNat i)
  Enc.dflt))))]
  (0 + (0 + j) -
  (0 + List.length b))
  k))
  (encL
  (num2
  (Int.toNat
  (natD
  (Td.sc
  (Value.int IntKind.u64
  (IntKind.wrap IntKind.u64
  (In.a
  (List.getD l (0 + Int.toNat i)
  Enc.dflt))))))))
  (0 +
  (0 + j -
  (0 + List.length b + 2)))
  k))
  (selT 1 1
  [Td.sc
  (Value.int IntKind.u8
  (IntKind.wrap IntKind.u8
  (In.n
  (List.getD l (0 + Int.toNat i)
  Enc.dflt))))]
  (j -
  (0 + List.length b + 2 +
  List.length
  (num2
  (Int.toNat
  (natD
  (Td.sc
  (Value.int IntKind.u64
  (IntKind.wrap IntKind.u64
  (In.a
  (List.getD l (0 + Int.toNat i)
  Enc.dflt))))))))))
  k))]))))))))))))))
  (need (true && Nat.ble (0 + List.length b) (List.length b))
  (need (Nat.ble (0 + List.length b) 1000000)
  (need (Nat.ble (List.length b + 2) 1000000)
  (need (true && Nat.ble (0 + List.length b) (List.length b))
  (need
  (Nat.ble
  (List.length b + 2 +
  List.length
  (num2
  (Int.toNat
  (natD
  (Td.sc
  (Value.int IntKind.u64
  (IntKind.wrap IntKind.u64
  (In.a (List.getD l (0 + Int.toNat i) Enc.dflt)))))))))
  1000000)
  (need
  (true &&
  Nat.ble (0 + (List.length b + 2)) (List.length b + 2))
  (need
  (Nat.ble
  (List.length b + 2 +
  List.length
  (num2
  (Int.toNat
  (natD
  (Td.sc
  (Value.int IntKind.u64
  (IntKind.wrap IntKind.u64
  (In.a (List.getD l (0 + Int.toNat i) Enc.dflt)))))))) +
  1)
  1000000)
  (need
  (true &&
  Nat.ble
  (0 +
  (List.length b + 2 +
  List.length
  (num2
  (Int.toNat
  (natD
  (Td.sc
  (Value.int IntKind.u64
  (IntKind.wrap IntKind.u64
  (In.a
  (List.getD l (0 + Int.toNat i) Enc.dflt))))))))))
  (List.length b + 2 +
  List.length
  (num2
  (Int.toNat
  (natD
  (Td.sc
  (Value.int IntKind.u64
  (IntKind.wrap IntKind.u64
  (In.a
  (List.getD l (0 + Int.toNat i) Enc.dflt))))))))))
  (br (In.op (List.getD l (0 + Int.toNat i) Enc.dflt) == (1 : Int))
  (need
  (okBy
  [Ta.agg
  [Td.sc
  (Value.int IntKind.i64
  (Vl.k (In.v (List.getD l (0 + Int.toNat i) Enc.dflt)))),
  Td.sc
  (Value.int IntKind.i64
  (Vl.i (In.v (List.getD l (0 + Int.toNat i) Enc.dflt)))),
  Td.sc
  (Value.float FloatKind.f64
  (Vl.f (In.v (List.getD l (0 + Int.toNat i) Enc.dflt))))]])
  (need
  (true &&
  Nat.ble
  (0 +
  List.length
  (vby (Vl.k (In.v (List.getD l (0 + Int.toNat i) Enc.dflt)))
  (Vl.i (In.v (List.getD l (0 + Int.toNat i) Enc.dflt)))
  (fltD
  (Td.sc
  (Value.float FloatKind.f64
  (Vl.f
  (In.v
  (List.getD l (0 + Int.toNat i) Enc.dflt))))))))
  (List.length
  (vby (Vl.k (In.v (List.getD l (0 + Int.toNat i) Enc.dflt)))
  (Vl.i (In.v (List.getD l (0 + Int.toNat i) Enc.dflt)))
  (fltD
  (Td.sc
  (Value.float FloatKind.f64
  (Vl.f
  (In.v
  (List.getD l (0 + Int.toNat i) Enc.dflt)))))))))
  (need
  (Nat.ble
  (List.length b + 2 +
  List.length
  (num2
  (Int.toNat
  (natD
  (Td.sc
  (Value.int IntKind.u64
  (IntKind.wrap IntKind.u64
  (In.a
  (List.getD l (0 + Int.toNat i)
  Enc.dflt)))))))) +
  1 +
  List.length
  (vby (Vl.k (In.v (List.getD l (0 + Int.toNat i) Enc.dflt)))
  (Vl.i (In.v (List.getD l (0 + Int.toNat i) Enc.dflt)))
  (fltD
  (Td.sc
  (Value.float FloatKind.f64
  (Vl.f
  (In.v
  (List.getD l (0 + Int.toNat i) Enc.dflt))))))))
  1000000)
  (need
  (true &&
  Nat.ble
  (0 +
  (List.length b + 2 +
  List.length
  (num2
  (Int.toNat
  (natD
  (Td.sc
  (Value.int IntKind.u64
  (IntKind.wrap IntKind.u64
  (In.a
  (List.getD l (0 + Int.toNat i)
  Enc.dflt)))))))) +
  1))
  (List.length b + 2 +
  List.length
  (num2
  (Int.toNat
  (natD
  (Td.sc
  (Value.int IntKind.u64
  (IntKind.wrap IntKind.u64
  (In.a
  (List.getD l (0 + Int.toNat i)
  Enc.dflt)))))))) +
  1))
  (N AX.normal
  (mkF 51
  [(3,
  Value.slice
  (some (Addr.mk 1 0 (some 0)))
  (List.length b + 2 +
  List.length
  (num2
  (Int.toNat
  (natD
  (Td.sc
  (Value.int IntKind.u64
  (IntKind.wrap IntKind.u64
  (In.a
  (List.getD l (0 + Int.toNat i)
  Enc.dflt)))))))) +
  1 +
  List.length
  (vby
  (Vl.k
  (In.v
  (List.getD l (0 + Int.toNat i) Enc.dflt)))
  (Vl.i
  (In.v
  (List.getD l (0 + Int.toNat i) Enc.dflt)))
  (fltD
  (Td.sc
  (Value.float FloatKind.f64
  (Vl.f
  (In.v
  (List.getD l (0 + Int.toNat i)
  Enc.dflt))))))))
  1),
  (17,
  Value.slice
  (some (Addr.mk 0 0 (some 0)))
  (List.length l) c),
  (18, Value.int IntKind.i64 (Int.ofNat (List.length l))),
  (19,
  Value.int IntKind.i64
  (IntKind.wrap IntKind.i64 (i + (1 : Int))))])
  (mkS
  [some
  (AObj.row Rk.look 7 0 (List.length l) (encL l)),
  some
  (AObj.row Rk.mine 1 0
  (List.length b + 2 +
  List.length
  (num2
  (Int.toNat
  (natD
  (Td.sc
  (Value.int IntKind.u64
  (IntKind.wrap IntKind.u64
  (In.a
  (List.getD l (0 + Int.toNat i)
  Enc.dflt)))))))) +
  1 +
  List.length
  (vby
  (Vl.k
  (In.v
  (List.getD l (0 + Int.toNat i) Enc.dflt)))
  (Vl.i
  (In.v
  (List.getD l (0 + Int.toNat i) Enc.dflt)))
  (fltD
  (Td.sc
  (Value.float FloatKind.f64
  (Vl.f
  (In.v
  (List.getD l (0 + Int.toNat i)
  Enc.dflt))))))))
  fun j k =>
  mrgT
  (Nat.blt j
  (List.length b + 2 +
  List.length
  (num2
  (Int.toNat
  (natD
  (Td.sc
  (Value.int IntKind.u64
  (IntKind.wrap IntKind.u64
  (In.a
  (List.getD l (0 + Int.toNat i)
  Enc.dflt)))))))) +
  1))
  (mrgT
  (Nat.blt (0 + j)
  (List.length b + 2 +
  List.length
  (num2
  (Int.toNat
  (natD
  (Td.sc
  (Value.int IntKind.u64
  (IntKind.wrap IntKind.u64
  (In.a
  (List.getD l (0 + Int.toNat i)
  Enc.dflt))))))))))
  (mrgT
  (Nat.blt (0 + (0 + j))
  (List.length b + 2))
  (mrgT
  (Nat.blt (0 + (0 + (0 + j)))
  (List.length b))
  (encL b
  (0 +
  (0 +
  (0 + (0 + (0 + j)))))
  k)
  (selT 1 2
  [Td.sc
  (Value.int IntKind.u8
  (IntKind.wrap IntKind.u8
  (In.op
  (List.getD l (0 + Int.toNat i)
  Enc.dflt)))),
  Td.sc
  (Value.int IntKind.u8
  (IntKind.wrap IntKind.u8
  (In.kd
  (List.getD l (0 + Int.toNat i)
  Enc.dflt))))]
  (0 + (0 + (0 + j)) -
  List.length b)
  k))
  (encL
  (num2
  (Int.toNat
  (natD
  (Td.sc
  (Value.int IntKind.u64
  (IntKind.wrap IntKind.u64
  (In.a
  (List.getD l (0 + Int.toNat i)
  Enc.dflt))))))))
  (0 +
  (0 + (0 + j) -
  (List.length b + 2)))
  k))
  (selT 1 1
  [Td.sc
  (Value.int IntKind.u8
  (IntKind.wrap IntKind.u8
  (In.n
  (List.getD l (0 + Int.toNat i)
  Enc.dflt))))]
  (0 + j -
  (List.length b + 2 +
  List.length
  (num2
  (Int.toNat
  (natD
  (Td.sc
  (Value.int IntKind.u64
  (IntKind.wrap IntKind.u64
  (In.a
  (List.getD l
  (0 + Int.toNat i)
  Enc.dflt))))))))))
  k))
  (encL
  (vby
  (Vl.k
  (In.v
  (List.getD l (0 + Int.toNat i) Enc.dflt)))
  (Vl.i
  (In.v
  (List.getD l (0 + Int.toNat i) Enc.dflt)))
  (fltD
  (Td.sc
  (Value.float FloatKind.f64
  (Vl.f
  (In.v
  (List.getD l (0 + Int.toNat i)
  Enc.dflt)))))))
  (0 +
  (j -
  (List.length b + 2 +
  List.length
  (num2
  (Int.toNat
  (natD
  (Td.sc
  (Value.int IntKind.u64
  (IntKind.wrap IntKind.u64
  (In.a
  (List.getD l
  (0 + Int.toNat i)
  Enc.dflt)))))))) +
  1)))
  k))]))))))
  (N AX.normal
  (mkF 51
  [(3,
  Value.slice (some (Addr.mk 1 0 (some 0)))
  (List.length b + 2 +
  List.length
  (num2
  (Int.toNat
  (natD
  (Td.sc
  (Value.int IntKind.u64
  (IntKind.wrap IntKind.u64
  (In.a
  (List.getD l (0 + Int.toNat i)
  Enc.dflt)))))))) +
  1)
  1),
  (17,
  Value.slice (some (Addr.mk 0 0 (some 0)))
  (List.length l) c),
  (18, Value.int IntKind.i64 (Int.ofNat (List.length l))),
  (19,
  Value.int IntKind.i64 (IntKind.wrap IntKind.i64 (i + (1 : Int))))])
  (mkS
  [some (AObj.row Rk.look 7 0 (List.length l) (encL l)),
  some
  (AObj.row Rk.mine 1 0
  (List.length b + 2 +
  List.length
  (num2
  (Int.toNat
  (natD
  (Td.sc
  (Value.int IntKind.u64
  (IntKind.wrap IntKind.u64
  (In.a
  (List.getD l (0 + Int.toNat i)
  Enc.dflt)))))))) +
  1)
  fun j k =>
  mrgT
  (Nat.blt j
  (List.length b + 2 +
  List.length
  (num2
  (Int.toNat
  (natD
  (Td.sc
  (Value.int IntKind.u64
  (IntKind.wrap IntKind.u64
  (In.a
  (List.getD l (0 + Int.toNat i)
  Enc.dflt))))))))))
  (mrgT (Nat.blt (0 + j) (List.length b + 2))
  (mrgT (Nat.blt (0 + (0 + j)) (List.length b))
  (encL b
  (0 + (0 + (0 + (0 + j)))) k)
  (selT 1 2
  [Td.sc
  (Value.int IntKind.u8
  (IntKind.wrap IntKind.u8
  (In.op
  (List.getD l (0 + Int.toNat i) Enc.dflt)))),
  Td.sc
  (Value.int IntKind.u8
  (IntKind.wrap IntKind.u8
  (In.kd
  (List.getD l (0 + Int.toNat i) Enc.dflt))))]
  (0 + (0 + j) - List.length b) k))
  (encL
  (num2
  (Int.toNat
  (natD
  (Td.sc
  (Value.int IntKind.u64
  (IntKind.wrap IntKind.u64
  (In.a
  (List.getD l (0 + Int.toNat i)
  Enc.dflt))))))))
  (0 + (0 + j - (List.length b + 2))) k))
  (selT 1 1
  [Td.sc
  (Value.int IntKind.u8
  (IntKind.wrap IntKind.u8
  (In.n (List.getD l (0 + Int.toNat i) Enc.dflt))))]
  (j -
  (List.length b + 2 +
  List.length
  (num2
  (Int.toNat
  (natD
  (Td.sc
  (Value.int IntKind.u64
  (IntKind.wrap IntKind.u64
  (In.a
  (List.getD l (0 + Int.toNat i)
  Enc.dflt))))))))))
  k))])))))))))))))))))))))
  (N (AX.exit 0)
  (mkF 51
  [(3, Value.slice (some (Addr.mk 1 0 (some 0))) (List.length b) cb),
  (17, Value.slice (some (Addr.mk 0 0 (some 0))) (List.length l) c),
  (18, Value.int IntKind.i64 (Int.ofNat (List.length l))), (19, Value.int IntKind.i64 i)])
  (mkS
  [some (AObj.row Rk.look 7 0 (List.length l) (encL l)),
  some (AObj.row Rk.mine 1 0 (List.length b) (encL b))]))) := by kernel_rfl
end Go.Proofs.Ytncndnlbiijdoaa.Ev

/-! inst.Put: told to the evaluator. -/
set_option linter.unusedVariables false
set_option linter.unusedSimpArgs false
set_option maxRecDepth 100000
namespace Go.Proofs.Ytncndnlbiijdoaa.Ev
open Go Go.Proofs Go.RowKit

theorem RowU.sel1 (v0 : Int) : RowU (fun i k => selT 1 1 [.sc (.int .u8 v0)] i k) 1 [⟨v0⟩] := ⟨rfl, fun i hi => match i, hi with
  | 0, _ => rfl, fun i => ⟨_, rfl⟩⟩
theorem RowU.sel2' (v0 v1 : Int) : RowU (fun i k => selT 1 2 [.sc (.int .u8 v0), .sc (.int .u8 v1)] i k) 2 [⟨v0⟩, ⟨v1⟩] := RowU.sel2 v0 v1
theorem wr8 (x : Int) : IntKind.wrap .u8 x = x % 256 := by
  unfold IntKind.wrap
  simp [IntKind.signed, IntKind.bits]
theorem w8B_ok (x : Int) : okA U8 (w8B x) = true := (okU_iff _).2 ⟨by show 0 ≤ IntKind.wrap .u8 x; rw [wr8]; omega, by show IntKind.wrap .u8 x < 256; rw [wr8]; omega⟩
theorem numW_ok (w n : Nat) : (numW w n).all (okA U8) = true := by
  unfold numW
  split
  · simp [num1, byU_ok]
  · exact num2_ok n
  · exact num4_ok n
  · simp [num8, byU_ok]
  · rfl
theorem numW_len (w n : Nat) : (numW w n).length ≤ 8 := by
  unfold numW
  split <;> simp [num1, num2, num4, num8]
theorem inBy_ok (x : In) : (inBy x).all (okA U8) = true := by
  unfold inBy vby
  rw [List.all_append, List.all_append, List.all_append, num2_ok]
  split
  · rw [numW_ok]; simp [w8B_ok]
  · simp [w8B_ok]
theorem inBy_len (x : In) : 5 ≤ (inBy x).length ∧ (inBy x).length ≤ 13 := by
  have := numW_len (vwid x.v.k) (vnum x.v.k x.v.i x.v.f)
  unfold inBy vby
  rw [List.length_append, List.length_append, List.length_append]
  split <;> simp [num2] <;> omega
theorem putN_ok (l : List In) (k : Nat) : (putN l k).all (okA U8) = true := by
  induction k with
  | zero => exact num2_ok _
  | succ k ih => simp only [putN, List.all_append]; rw [ih, inBy_ok]; rfl
theorem putN_len (l : List In) (k : Nat) : 2 ≤ (putN l k).length ∧ (putN l k).length ≤ 2 + 13 * k := by
  induction k with
  | zero => simp [putN, num2]
  | succ k ih =>
    have := inBy_len (l.getD k Enc.dflt)
    simp only [putN, List.length_append]; omega
noncomputable def ipG (l : List In) : Bool := decide (l.length ≤ 400) && l.all mayB
noncomputable def ipL (l : List In) : List U8 := cond (ipG l) (putN l l.length) []
noncomputable def ipC (l : List In) : Nat := cond (ipG l) 0 1
noncomputable def ipA (l : List In) (_ : Nat) : Ans := .ret (.cell (ownL (ipL l) (ipC l)))
theorem lIn (l : List In) (c : Nat) : listT In (Td.fr 7 l.length c (encL l)) = l := listT_tdL l c
theorem may_push {x : In} (h : mayB x = true) (h1 : x.op = 1) : 1 ≤ x.v.k ∧ x.v.k ≤ 5 := by
  have h := of_decide_eq_true h
  unfold mayP at h
  have hv : valN x.v.k x.v.i x.v.f = 1 := by
    rcases h with h | h
    · exact h.2.2.2.2
    · have := h.2.2.2; omega
  have := (valN_iff _ _ _).1 hv
  unfold valP at this
  omega
theorem okBy_of {x : Vl} (h : 1 ≤ x.k ∧ x.k ≤ 5) : okBy [Ta.agg [Td.sc (.int .i64 x.k), Td.sc (.int .i64 x.i), Td.sc (.float .f64 x.f)]] = true := by
  show (true && true && true && (decide (1 ≤ x.k) && decide (x.k ≤ 5))) = true
  rw [decide_eq_true h.1, decide_eq_true h.2]; rfl
theorem okNm_of (x : Int) : okNm [Ta.cell (Td.sc (.int .u64 (IntKind.wrap .u64 x))), Ta.cell (Td.sc (.int .i64 2))] = true := by
  show (decide (0 ≤ IntKind.wrap .u64 x) && true) = true
  rw [uN_eq, decide_eq_true (by rw [Int.ofNat_eq_natCast]; omega)]; rfl
theorem natD_of (x : Int) : Int.toNat (natD (Td.sc (.int .u64 (IntKind.wrap .u64 x)))) = uN x := rfl
theorem okX_of {l : List In} {c : Nat} (hok : l.all (okA In) = true) (hl : l.length ≤ 1000000) (hc : c ≤ 1) : okX [Ta.cell (Td.fr 7 l.length c (encL l)), Ta.cell (Td.sc (.func (.func 31) #[] #[]))] = true := by
  show (okT In (tdL l c) && Nat.beq _ _) = true
  rw [okT_tdL hok hl hc, Nat.beq_refl]; rfl
theorem pu_loop {l : List In} {c : Nat} {β : Bs} (hβ : β.X.length = 1) (hl : l.length ≤ 400) (hall : l.all mayB = true) : LoopJ Try.prog β (exPu l c) 0 (loopOf Try.prog 12 0) (FPu l (putN l 0) c 0 (0 : Nat)) (SPu l (putN l 0)) := by
  refine loop_rule (fun k : Nat => k ≤ l.length) (fun k => FPu l (putN l k) c 0 k) (fun k => SPu l (putN l k)) (fun k => l.length - k) (fun k hk K hK => ?_) 0 (Nat.zero_le _)
  have hK : K (.exit 0) (FPu l (putN l l.length) c 0 l.length) (SPu l (putN l l.length)) := hK
  show J _ β _ _ _ (Nn β (fun k : Nat => k ≤ l.length) (fun k => l.length - k) (fun k : Nat => FPu l (putN l k) c 0 k) (fun k => SPu l (putN l k)) k K)
  refine roundJ_ok (E := 1) (lvs := fun _ => slPu) (un := fun _ => 0) (fuel := 100) (n := 20) (ex := fun _ _ => False) follows toldB5_ok hβ (lv := fun _ => slPu) ?_
  rw [vc_put_r]
  by_cases hkn : k < l.length
  · have c1 : decide ((k : Int) < Int.ofNat l.length) = true := by simpa using hkn
    have c2 : decide ((0 : Int) ≤ (k : Int)) = true := by simp
    have e0 : Int.toNat (k : Int) = k := Int.toNat_natCast k
    have c3 : Nat.blt k l.length = true := by simpa using hkn
    have c5 : Nat.ble 0 k = true := by simp
    have hw : IntKind.wrap .i64 ((k : Int) + 1) = ((k + 1 : Nat) : Int) := w64 (by omega) (by omega)
    have hm : mayB (l.getD k Enc.dflt) = true := by
      rw [List.all_eq_true] at hall
      exact hall _ (by simp [List.getD, hkn])
    have hnx : putN l (k + 1) = putN l k ++ inBy (l.getD k Enc.dflt) := rfl
    have hpl := putN_len l k
    have hfin : ∀ f st, Seen β f st (FPu l (putN l (k + 1)) c 0 ((k + 1 : Nat) : Int)) (SPu l (putN l (k + 1))) → Nn β (fun k : Nat => k ≤ l.length) (fun k => l.length - k) (fun k : Nat => FPu l (putN l k) c 0 k) (fun k => SPu l (putN l k)) k K .normal f st := fun f st hs =>
      Nn.next (I := fun k : Nat => k ≤ l.length) (m := fun k => l.length - k) (F := fun k : Nat => FPu l (putN l k) c 0 k) (S := fun k => SPu l (putN l k)) (p := k) (k + 1) hkn (by omega) hs
    rw [hnx] at hfin
    have hk400 : k < 400 := by omega
    simp only [c1, c2, e0, Nat.zero_add, c3, c5, Bool.true_and, br_t, need_t, hw]
    clear hnx hK hall c1 c2 c3 c5 hw
    generalize putN l k = b at *
    generalize l.getD k Enc.dflt = x at *
    have n2 : (num2 (uN x.a)).length = 2 := rfl
    have w1 : IntKind.wrap .i64 ((0 : Int) + Int.ofNat b.length) = (b.length : Int) := by rw [Int.ofNat_eq_natCast, w64 (by omega) (by omega)]; simp
    have w2 : IntKind.wrap .i64 ((b.length : Int) + 2) = ((b.length + 2 : Nat) : Int) := by rw [w64 (by omega) (by omega)]; simp
    have w3 : IntKind.wrap .i64 (((b.length + 2 : Nat) : Int) + Int.ofNat 2) = ((b.length + 2 + 2 : Nat) : Int) := by
      have : Int.ofNat 2 = 2 := rfl
      rw [this, w64 (by omega) (by omega)]; omega
    have w4 : IntKind.wrap .i64 (((b.length + 2 + 2 : Nat) : Int) + 1) = ((b.length + 2 + 2 + 1 : Nat) : Int) := by rw [w64 (by omega) (by omega)]; omega
    have w5 : IntKind.wrap .i64 (((b.length + 2 + 2 + 1 : Nat) : Int) - 0) = ((b.length + 2 + 2 + 1 : Nat) : Int) := by rw [w64 (by omega) (by omega)]; omega
    have d0 : ∀ n : Nat, decide ((n : Int) < 0) = false := fun n => decide_eq_false (by omega)
    have d1 : decide (((b.length + 2 + 2 + 1 : Nat) : Int) > 0) = true := decide_eq_true (by omega)
    have d2 : ∀ n : Nat, decide ((0 : Int) ≤ (n : Int)) = true := fun n => decide_eq_true (by omega)
    have t1 : ∀ n : Nat, Int.toNat (n : Int) = n := fun n => Int.toNat_natCast n
    have b1 : ∀ n : Nat, n ≤ b.length + 13 → Nat.ble n 1000000 = true := fun n h => Nat.ble_eq_true_of_le (by omega)
    have z1 : Nat.beq (b.length + 2 + 2 + 1) 0 = false := beq_false (by omega)
    have fD : fltD (Td.sc (.float .f64 x.v.f)) = x.v.f := rfl
    simp only [okNm_of, natD_of, n2, w1, w2, w3, w4, w5, d0, d1, d2, t1, z1, br_t, br_f, need_t, cond_false, Nat.zero_add, Nat.sub_zero, bleS, Bool.true_and, b1 b.length (by omega), b1 (b.length + 2) (by omega), b1 (b.length + 2 + 2) (by omega), b1 (b.length + 2 + 2 + 1) (by omega), fD]
    have hH := ((((((RowU.zero (b.length + 2 + 2 + 1)).sub (k := 0) (m := 0) (by omega)).app (RowU.enc b)).app (RowU.sel2' (IntKind.wrap .u8 x.op) (IntKind.wrap .u8 x.kd))).app (RowU.enc (num2 (uN x.a)))).app (RowU.sel1 (IntKind.wrap .u8 x.n)))
    refine br_of (fun q => ?_) (fun q => ?_)
    · have q : x.op = 1 := by simpa using q
      have hv := may_push hm q
      have hvl := numW_len (vwid x.v.k) (vnum x.v.k x.v.i x.v.f)
      have hvl : (vby x.v.k x.v.i x.v.f).length ≤ 8 := hvl
      simp only [okBy_of hv, need_t, b1 (b.length + 2 + 2 + 1 + (vby x.v.k x.v.i x.v.f).length) (by omega)]
      refine hfin _ _ ?_
      have hin : inBy x = ([w8B x.op, w8B x.kd] ++ num2 (uN x.a) ++ [w8B x.n]) ++ vby x.v.k x.v.i x.v.f := by unfold inBy; rw [if_pos q]
      have hG := (hH.app (RowU.enc (vby x.v.k x.v.i x.v.f))).to (m := b.length + 2 + 2 + 1 + (vby x.v.k x.v.i x.v.f).length) (M := b ++ inBy x) (by rw [n2]; omega) (by rw [hin]; simp [w8B])
      simp only [n2, Nat.zero_add, Nat.sub_zero] at hG
      have hl2 := hG.len
      unfold FPu SPu
      rw [← hl2]
      refine Seen.two rfl rfl (fun _ _ _ h => h) fun ρ s w h => ?_
      exact hG.obj ρ s w h
    · have q : ¬ x.op = 1 := by simpa using q
      refine hfin _ _ ?_
      have hin : inBy x = [w8B x.op, w8B x.kd] ++ num2 (uN x.a) ++ [w8B x.n] := by unfold inBy; rw [if_neg q]; simp
      have hG := hH.to (m := b.length + 2 + 2 + 1) (M := b ++ inBy x) (by rw [n2]; omega) (by rw [hin]; simp [w8B])
      simp only [n2, Nat.zero_add, Nat.sub_zero] at hG
      have hl2 := hG.len
      unfold FPu SPu
      rw [← hl2]
      refine Seen.two rfl rfl (fun _ _ _ h => h) fun ρ s w h => ?_
      exact hG.obj ρ s w h
  · have c1 : decide ((k : Int) < Int.ofNat l.length) = false := by simpa using hkn
    have hkn' : k = l.length := by omega
    simp only [c1, br_f]
    subst hkn'
    exact Nn.exit (Seen.refl _ _ _) hK
theorem iput_told : ToldW Try.prog 12 (ok1 In fun l _ => l.all (okA In)) (ans1 In ipA) := by
  refine told1 follows fun l c hl hc hok => ⟨toldB5, 100, 20, fun _ => 0, fun _ => slPu, exPu l c, toldB5_ok, fun β hβ => ?_⟩
  show lawE _ _ _ _ _ _ (cnOf 1 fun _ => slPu) _ _ [.slice (some ⟨0, 0, some 0⟩) l.length c] (mkS [some (rowO .look l)]) (ansE (.ret (.cell (ownL (ipL l) (ipC l)))))
  rw [vc_put]
  have hnil : ∀ st : ASt, ipG l = false → ansE (.ret (.cell (ownL (ipL l) (ipC l)))) (.returned (.slice none 0 0)) st := fun st h => by
    have e1 : ipL l = [] := by unfold ipL; rw [h]; rfl
    have e2 : ipC l = 1 := by unfold ipC; rw [h]; rfl
    rw [e1, e2]
    exact ⟨[], .inl ⟨rfl, rfl, rfl, rfl⟩, List.nodup_nil⟩
  refine br_of (fun q => hnil _ ?_) (fun q => ?_)
  · have : ¬ l.length ≤ 400 := by simp at q; omega
    unfold ipG; rw [decide_eq_false this]; rfl
  · have h4 : l.length ≤ 400 := by simp at q; omega
    simp only [encZ, Nat.zero_add, bleS, Bool.true_and, need_t, okX_of hok hl hc, lIn, idxV_iff]
    refine br_of (fun q => hnil _ ?_) (fun q => ?_)
    · rw [Bool.not_eq_true'] at q
      unfold ipG; rw [q, Bool.and_false]
    · rw [Bool.not_eq_false'] at q
      have hg : ipG l = true := by unfold ipG; rw [q, decide_eq_true h4]; rfl
      have e1 : ipL l = putN l l.length := by unfold ipL; rw [hg]; rfl
      have e2 : ipC l = 0 := by unfold ipC; rw [hg]; rfl
      have hn : Int.toNat (natD (Td.sc (.int .u64 (IntKind.wrap .u64 (Int.ofNat l.length))))) = l.length := by
        have : IntKind.wrap .u64 (Int.ofNat l.length) = (l.length : Int) := wrap64u (by omega)
        rw [this]; exact Int.toNat_natCast _
      rw [e1, e2, hn]
      refine ⟨pu_loop hβ h4 q, ?_⟩
      exact ⟨[1], .inr (.inl ⟨1, 0, 0, (putN l l.length).length, encL (putN l l.length), 0, rfl, rfl, fun _ => rfl, rfl, Nat.le_refl _, by omega, fun i hi j hj => by rw [Nat.zero_add]⟩), by simp⟩
noncomputable def toldB6 : Told := toldB5.tree 12 (ok1 In fun l _ => l.all (okA In)) (ans1 In ipA)
theorem toldB6_ok : ToldS Try.prog toldB6 := Told.tree_ok toldB5_ok iput_told
end Go.Proofs.Ytncndnlbiijdoaa.Ev

/-! ref7.size: told to the evaluator by its table. -/
set_option linter.unusedVariables false
set_option linter.unusedSimpArgs false
set_option maxRecDepth 100000
namespace Go.Proofs.Ytncndnlbiijdoaa.Ev
open Go Go.Proofs Go.RowKit

def sizeT : List (Nat × Nat) := [(0, 0), (1, 1), (2, 2), (3, 4), (4, 8), (5, 8)]
theorem size_0 (K : AE → Prop) : funK Try.prog noTold 100 20 28 [.int .i64 (Int.ofNat 0)] st0 (fun r _ => K r) = K (.returned (.int .i64 (Int.ofNat 0))) := by kernel_rfl
theorem size_1 (K : AE → Prop) : funK Try.prog noTold 100 20 28 [.int .i64 (Int.ofNat 1)] st0 (fun r _ => K r) = K (.returned (.int .i64 (Int.ofNat 1))) := by kernel_rfl
theorem size_2 (K : AE → Prop) : funK Try.prog noTold 100 20 28 [.int .i64 (Int.ofNat 2)] st0 (fun r _ => K r) = K (.returned (.int .i64 (Int.ofNat 2))) := by kernel_rfl
theorem size_3 (K : AE → Prop) : funK Try.prog noTold 100 20 28 [.int .i64 (Int.ofNat 3)] st0 (fun r _ => K r) = K (.returned (.int .i64 (Int.ofNat 4))) := by kernel_rfl
theorem size_4 (K : AE → Prop) : funK Try.prog noTold 100 20 28 [.int .i64 (Int.ofNat 4)] st0 (fun r _ => K r) = K (.returned (.int .i64 (Int.ofNat 8))) := by kernel_rfl
theorem size_5 (K : AE → Prop) : funK Try.prog noTold 100 20 28 [.int .i64 (Int.ofNat 5)] st0 (fun r _ => K r) = K (.returned (.int .i64 (Int.ofNat 8))) := by kernel_rfl
theorem size_main (n b : Nat) (h : tabF sizeT n = some b) : funK Try.prog noTold 100 20 28 [.int .i64 (Int.ofNat n)] st0 (fun r _ => r = .returned (.int .i64 (Int.ofNat b))) := by
  match n, h with
  | 0, h => cases h; rw [size_0 fun r => r = .returned (.int .i64 (Int.ofNat 0))]
  | 1, h => cases h; rw [size_1 fun r => r = .returned (.int .i64 (Int.ofNat 1))]
  | 2, h => cases h; rw [size_2 fun r => r = .returned (.int .i64 (Int.ofNat 2))]
  | 3, h => cases h; rw [size_3 fun r => r = .returned (.int .i64 (Int.ofNat 4))]
  | 4, h => cases h; rw [size_4 fun r => r = .returned (.int .i64 (Int.ofNat 8))]
  | 5, h => cases h; rw [size_5 fun r => r = .returned (.int .i64 (Int.ofNat 8))]
  | n + 6, h => cases h
noncomputable def toldB7 : Told := toldB6.tab 28 .i64 .i64 sizeT
theorem toldB7_ok : ToldS Try.prog toldB7 := Told.tab_ok toldB6_ok fun n b h w args' ha => sym_is (fuel := 100) (n := 20) follows (noTold_ok _) (size_main n b h) w args' ha
end Go.Proofs.Ytncndnlbiijdoaa.Ev

/-! What has to hold: printed by the evaluator. -/
set_option linter.unusedVariables false
set_option maxRecDepth 1000000
namespace Go.Proofs.Ytncndnlbiijdoaa.Ev
open Go Go.Proofs
def slPr : List Nat := [0, 3, 4]
def lvPr : AX → List Nat := fun x => match x with
  | .ret => [2]
  | _ => slPr
def FPr7 (l : List In) (b : List U8) (c cb : Nat) (i : Int) : AFr := mkF 69 [(0, .slice (some ⟨0, 0, some 0⟩) l.length c), (3, .slice (some ⟨1, 0, some 0⟩) b.length cb), (4, .int .i64 i)]
def FPr7n : AFr := mkF 69 [(2, .slice none 0 0)]
def exPr (l : List In) (c : Nat) : Nat → Kt → Prop := fun b K => (l.all mayB = true → ∀ cb, K (.exit b) (FPr7 l (putN l l.length) c cb l.length) (SPu l (putN l l.length))) ∧ (l.all mayB = false → K .ret FPr7n (mkS [some (rowO .look l)]))
theorem vc_putr (l : List In) (c : Nat) (β : Bs) (K : AE → ASt → Prop) : lawE Try.prog toldB7 100 20 β (fun _ => 0) (cnOf 1 fun _ => slPr) (exPr l c) 13 [.slice (some ⟨0, 0, some 0⟩) l.length c] (mkS [some (rowO .look l)]) K =
(  br (decide (Int.ofNat (List.length l) > (400 : Int)))
  (K (AE.returned (Value.slice none 0 0))
  (mkS [some (AObj.row Rk.look 7 0 (List.length l) (encL l))]))
  (LoopJ Try.prog β (exPr l c) 0 (loopOf Try.prog 13 0)
  (mkF 69
  [(0, Value.slice (some (Addr.mk 0 0 (some 0))) (List.length l) c),
  (3, Value.slice (some (Addr.mk 1 0 (some 0))) 2 1),
  (4, Value.int IntKind.i64 (0 : Int))])
  (mkS
  [some (AObj.row Rk.look 7 0 (List.length l) (encL l)),
  some
  (AObj.row Rk.mine 1 0 2 fun j =>
  putT 0 0
  [Td.sc
  (Value.int IntKind.u8
  (IntKind.wrap IntKind.u8
  (Int.tmod
  (IntKind.wrap IntKind.u64
  (Int.tdiv (IntKind.wrap IntKind.u64 (Int.ofNat (List.length l))) (256 : Int)))
  (256 : Int))))]
  (putT 1 0
  [Td.sc
  (Value.int IntKind.u8
  (IntKind.wrap IntKind.u8
  (Int.tmod (IntKind.wrap IntKind.u64 (Int.ofNat (List.length l))) (256 : Int))))]
  fun x => nthT [Td.sc (Value.int IntKind.u8 (0 : Int))])
  (0 + j))]) ∧
  (List.all l mayB = true →
  ∀ (cb : Nat),
  K
  (AE.returned
  (Value.slice (some (Addr.mk 1 0 (some 0))) (List.length (putN l (List.length l)))
  cb))
  (SPu l (putN l (List.length l)))) ∧
  (List.all l mayB = false →
  K (AE.returned (Value.slice none 0 0))
  (mkS [some (AObj.row Rk.look 7 0 (List.length l) (encL l))])))) := by kernel_rfl
theorem vc_putr_r (l : List In) (b : List U8) (c cb : Nat) (i : Int) (β : Bs) (N : Kt) (ex : Nat → Kt → Prop) : roundJ Try.prog toldB7 100 20 β (fun _ => 0) (cnOf 1 fun _ => slPr) ex 13 0 1 lvPr (FPr7 l b c cb i) (SPu l b) N =
(  br (decide (i < Int.ofNat (List.length l)))
  (need (decide ((0 : Int) ≤ i))
  (need (Nat.blt (Int.toNat i) (List.length l))
  (need (Nat.ble 0 (0 + Int.toNat i) && Nat.blt (0 + Int.toNat i) (List.length l))
  (br
  (!mayB
  (In.mk (In.op (List.getD l (0 + Int.toNat i) Enc.dflt))
  (In.kd (List.getD l (0 + Int.toNat i) Enc.dflt))
  (In.a (List.getD l (0 + Int.toNat i) Enc.dflt))
  (In.n (List.getD l (0 + Int.toNat i) Enc.dflt))
  (Vl.mk (Vl.k (In.v (List.getD l (0 + Int.toNat i) Enc.dflt)))
  (Vl.i (In.v (List.getD l (0 + Int.toNat i) Enc.dflt)))
  (Vl.f (In.v (List.getD l (0 + Int.toNat i) Enc.dflt))))))
  (N AX.ret (mkF 69 [(2, Value.slice none 0 0)])
  (mkS [some (AObj.row Rk.look 7 0 (List.length l) (encL l))]))
  (need (decide ((0 : Int) ≤ i))
  (need (Nat.blt (Int.toNat i) (List.length l))
  (need (Nat.ble 0 (0 + Int.toNat i) && Nat.blt (0 + Int.toNat i) (List.length l))
  (need (decide ((0 : Int) ≤ i))
  (need (Nat.blt (Int.toNat i) (List.length l))
  (need
  (Nat.ble 0 (0 + Int.toNat i) && Nat.blt (0 + Int.toNat i) (List.length l))
  (need (Nat.ble (List.length b + 2) 1000000)
  (need (true && Nat.ble (0 + List.length b) (List.length b))
  (need (decide ((0 : Int) ≤ i))
  (need (Nat.blt (Int.toNat i) (List.length l))
  (need
  (Nat.ble 0 (0 + Int.toNat i) &&
  Nat.blt (0 + Int.toNat i) (List.length l))
  (need (Nat.ble (List.length b + 2 + 2) 1000000)
  (need
  (true &&
  Nat.ble (0 + (List.length b + 2)) (List.length b + 2))
  (need (Nat.ble (List.length b + 2 + 2) 1000000)
  (need
  (true &&
  Nat.ble (0 + (List.length b + 2)) (List.length b + 2))
  (need (decide ((0 : Int) ≤ i))
  (need (Nat.blt (Int.toNat i) (List.length l))
  (need
  (Nat.ble 0 (0 + Int.toNat i) &&
  Nat.blt (0 + Int.toNat i) (List.length l))
  (need
  (Nat.ble (List.length b + 2 + 2 + 1)
  1000000)
  (need
  (true &&
  Nat.ble (0 + (List.length b + 2 + 2))
  (List.length b + 2 + 2))
  (need (decide ((0 : Int) ≤ i))
  (need (Nat.blt (Int.toNat i) (List.length l))
  (need
  (Nat.ble 0 (0 + Int.toNat i) &&
  Nat.blt (0 + Int.toNat i) (List.length l))
  (br
  (In.op (List.getD l (0 + Int.toNat i) Enc.dflt) ==
  (1 : Int))
  (need (decide ((0 : Int) ≤ i))
  (need (Nat.blt (Int.toNat i) (List.length l))
  (need
  (Nat.ble 0 (0 + Int.toNat i) &&
  Nat.blt (0 + Int.toNat i) (List.length l))
  (br
  (Vl.k
  (In.v
  (List.getD l (0 + Int.toNat i)
  Enc.dflt)) ==
  (5 : Int))
  (need
  (Nat.ble
  (List.length b + 2 + 2 +
  1 +
  8)
  1000000)
  (need
  (true &&
  Nat.ble
  (0 +
  (List.length b + 2 + 2 +
  1))
  (List.length b + 2 + 2 +
  1))
  (N AX.normal
  (mkF 69
  [(0,
  Value.slice
  (some
  (Addr.mk 0 0
  (some 0)))
  (List.length l) c),
  (3,
  Value.slice
  (some
  (Addr.mk 1 0
  (some 0)))
  (List.length b + 2 + 2 +
  1 +
  8)
  cb),
  (4,
  Value.int IntKind.i64
  (IntKind.wrap IntKind.i64
  (i + (1 : Int))))])
  (mkS
  [some
  (AObj.row Rk.look 7 0
  (List.length l) (encL l)),
  some
  (AObj.row Rk.mine 1 0
  (List.length b + 2 + 2 +
  1 +
  8)
  fun j k =>
  mrgT
  (Nat.blt j
  (List.length b + 2 +
  2 +
  1))
  (mrgT
  (Nat.blt (0 + j)
  (List.length b + 2 +
  2))
  (mrgT
  (Nat.blt
  (0 + (0 + j))
  (List.length b + 2))
  (mrgT
  (Nat.blt
  (0 +
  (0 +
  (0 + j)))
  (List.length b))
  (encL b
  (0 +
  (0 +
  (0 +
  (0 + j))))
  k)
  (selT 1 2
  [Td.sc
  (Value.int IntKind.u8
  (IntKind.wrap IntKind.u8
  (In.op
  (List.getD l
  (0 +
  Int.toNat i)
  Enc.dflt)))),
  Td.sc
  (Value.int IntKind.u8
  (IntKind.wrap IntKind.u8
  (In.kd
  (List.getD l
  (0 +
  Int.toNat i)
  Enc.dflt))))]
  (0 +
  (0 +
  (0 + j)) -
  List.length b)
  k))
  (putT 0 0
  [Td.sc
  (Value.int IntKind.u8
  (IntKind.wrap IntKind.u8
  (Int.tmod
  (IntKind.wrap
  IntKind.u64
  (Int.tdiv
  (IntKind.wrap
  IntKind.u64
  (In.a
  (List.getD l
  (0 +
  Int.toNat
  i)
  Enc.dflt)))
  (256 : Int)))
  (256 : Int))))]
  (putT 1 0
  [Td.sc
  (Value.int IntKind.u8
  (IntKind.wrap IntKind.u8
  (Int.tmod
  (IntKind.wrap
  IntKind.u64
  (In.a
  (List.getD l
  (0 +
  Int.toNat i)
  Enc.dflt)))
  (256 : Int))))]
  fun x =>
  nthT
  [Td.sc
  (Value.int IntKind.u8
  (0 : Int))])
  (0 +
  (0 + (0 + j) -
  (List.length b +
  2)))
  k))
  (selT 1 1
  [Td.sc
  (Value.int IntKind.u8
  (IntKind.wrap IntKind.u8
  (In.n
  (List.getD l
  (0 +
  Int.toNat i)
  Enc.dflt))))]
  (0 + j -
  (List.length b + 2 +
  2))
  k))
  (putT 0 0
  [Td.sc
  (Value.int IntKind.u8
  (IntKind.wrap IntKind.u8
  (Int.tmod
  (IntKind.wrap IntKind.u64
  (Int.tdiv
  (IntKind.wrap
  IntKind.u64
  (Int.tdiv
  (IntKind.wrap
  IntKind.u64
  (Int.tdiv
  (IntKind.wrap
  IntKind.u64
  (Int.tdiv
  (IntKind.wrap
  IntKind.u64
  (Int.tdiv
  (IntKind.wrap
  IntKind.u64
  (Int.tdiv
  (IntKind.wrap
  IntKind.u64
  (Int.tdiv
  (Int.ofNat
  (bitsN
  (Vl.f
  (In.v
  (List.getD
  l
  ((0 :
  Nat) +
  Int.toNat
  i)
  Enc.dflt)))))
  (256 :
  Int)))
  (256 :
  Int)))
  (256 :
  Int)))
  (256 :
  Int)))
  (256 : Int)))
  (256 : Int)))
  (256 : Int)))
  (256 : Int))))]
  (putT 1 0
  [Td.sc
  (Value.int IntKind.u8
  (IntKind.wrap IntKind.u8
  (Int.tmod
  (IntKind.wrap
  IntKind.u64
  (Int.tdiv
  (IntKind.wrap
  IntKind.u64
  (Int.tdiv
  (IntKind.wrap
  IntKind.u64
  (Int.tdiv
  (IntKind.wrap
  IntKind.u64
  (Int.tdiv
  (IntKind.wrap
  IntKind.u64
  (Int.tdiv
  (IntKind.wrap
  IntKind.u64
  (Int.tdiv
  (Int.ofNat
  (bitsN
  (Vl.f
  (In.v
  (List.getD
  l
  ((0 :
  Nat) +
  Int.toNat
  i)
  Enc.dflt)))))
  (256 :
  Int)))
  (256 :
  Int)))
  (256 :
  Int)))
  (256 :
  Int)))
  (256 : Int)))
  (256 : Int)))
  (256 : Int))))]
  (putT 2 0
  [Td.sc
  (Value.int IntKind.u8
  (IntKind.wrap IntKind.u8
  (Int.tmod
  (IntKind.wrap
  IntKind.u64
  (Int.tdiv
  (IntKind.wrap
  IntKind.u64
  (Int.tdiv
  (IntKind.wrap
  IntKind.u64
  (Int.tdiv
  (IntKind.wrap
  IntKind.u64
  (Int.tdiv
  (IntKind.wrap
  IntKind.u64
  (Int.tdiv
  (Int.ofNat
  (bitsN
  (Vl.f
  (In.v
  (List.getD
  l
  ((0 :
  Nat) +
  Int.toNat
  i)
  Enc.dflt)))))
  (256 :
  Int)))
  (256 :
  Int)))
  (256 :
  Int)))
  (256 : Int)))
  (256 : Int)))
  (256 : Int))))]
  (putT 3 0
  [Td.sc
  (Value.int IntKind.u8
  (IntKind.wrap IntKind.u8
  (Int.tmod
  (IntKind.wrap
  IntKind.u64
  (Int.tdiv
  (IntKind.wrap
  IntKind.u64
  (Int.tdiv
  (IntKind.wrap
  IntKind.u64
  (Int.tdiv
  (IntKind.wrap
  IntKind.u64
  (Int.tdiv
  (Int.ofNat
  (bitsN
  (Vl.f
  (In.v
  (List.getD
  l
  ((0 :
  Nat) +
  Int.toNat
  i)
  Enc.dflt)))))
  (256 :
  Int)))
  (256 :
  Int)))
  (256 :
  Int)))
  (256 : Int)))
  (256 : Int))))]
  (putT 4 0
  [Td.sc
  (Value.int IntKind.u8
  (IntKind.wrap
  IntKind.u8
  (Int.tmod
  (IntKind.wrap
  IntKind.u64
  (Int.tdiv
  (IntKind.wrap
  IntKind.u64
  (Int.tdiv
  (IntKind.wrap
  IntKind.u64
  (Int.tdiv
  (Int.ofNat
  (bitsN
  (Vl.f
  (In.v
  (List.getD
  l
  ((0 :
  Nat) +
  Int.toNat
  i)
  Enc.dflt)))))
  (256 :
  Int)))
  (256 :
  Int)))
  (256 : Int)))
  (256 : Int))))]
  (putT 5 0
  [Td.sc
  (Value.int IntKind.u8
  (IntKind.wrap
  IntKind.u8
  (Int.tmod
  (IntKind.wrap
  IntKind.u64
  (Int.tdiv
  (IntKind.wrap
  IntKind.u64
  (Int.tdiv
  (Int.ofNat
  (bitsN
  (Vl.f
  (In.v
  (List.getD
  l
  ((0 :
  Nat) +
  Int.toNat
  i)
  Enc.dflt)))))
  (256 :
  Int)))
  (256 :
  Int)))
  (256 : Int))))]
  (putT 6 0
  [Td.sc
  (Value.int
  IntKind.u8
  (IntKind.wrap
  IntKind.u8
  (Int.tmod
  (IntKind.wrap
  IntKind.u64
  (Int.tdiv
  (Int.ofNat
  (bitsN
  (Vl.f
  (In.v
  (List.getD
  l
  ((0 :
  Nat) +
  Int.toNat
  i)
  Enc.dflt)))))
  (256 :
  Int)))
  (256 :
  Int))))]
  (putT 7
  0
  [Td.sc
  (Value.int
  IntKind.u8
  (IntKind.wrap
  IntKind.u8
  (Int.tmod
  (Int.ofNat
  (bitsN
  (Vl.f
  (In.v
  (List.getD
  l
  ((0 :
  Nat) +
  Int.toNat
  i)
  Enc.dflt)))))
  (256 :
  Int))))]
  fun x =>
  nthT
  [Td.sc
  (Value.int
  IntKind.u8
  (0 :
  Int))])))))))
  (0 +
  (j -
  (List.length b + 2 +
  2 +
  1)))
  k))]))))
  (need
  (true &&
  decide
  ((0 : Int) ≤
  Vl.k
  (In.v
  (List.getD l (0 + Int.toNat i)
  Enc.dflt))))
  (br
  (Nat.beq
  (Int.toNat
  (Vl.k
  (In.v
  (List.getD l (0 + Int.toNat i)
  Enc.dflt))))
  0)
  (need
  (Nat.ble
  (List.length b + 2 + 2 +
  1 +
  0)
  1000000)
  (need
  (true &&
  Nat.ble
  (0 +
  (List.length b + 2 + 2 +
  1))
  (List.length b + 2 + 2 +
  1))
  (need
  (Nat.ble
  (List.length b + 2 + 2 +
  1 +
  0)
  1000000)
  (need
  (true &&
  Nat.ble
  (0 +
  (List.length b + 2 +
  2 +
  1))
  (List.length b + 2 +
  2 +
  1))
  (N AX.normal
  (mkF 69
  [(0,
  Value.slice
  (some
  (Addr.mk 0 0
  (some 0)))
  (List.length l) c),
  (3,
  Value.slice
  (some
  (Addr.mk 1 0
  (some 0)))
  (List.length b + 2 +
  2 +
  1 +
  0)
  cb),
  (4,
  Value.int IntKind.i64
  (IntKind.wrap IntKind.i64
  (i + (1 : Int))))])
  (mkS
  [some
  (AObj.row Rk.look 7
  0 (List.length l)
  (encL l)),
  some
  (AObj.row Rk.mine 1
  0
  (List.length b + 2 +
  2 +
  1 +
  0)
  fun j k =>
  mrgT
  (Nat.blt j
  (List.length b + 2 +
  2 +
  1))
  (mrgT
  (Nat.blt (0 + j)
  (List.length b +
  2 +
  2))
  (mrgT
  (Nat.blt
  (0 +
  (0 + j))
  (List.length b +
  2))
  (mrgT
  (Nat.blt
  (0 +
  (0 +
  (0 + j)))
  (List.length b))
  (encL b
  (0 +
  (0 +
  (0 +
  (0 +
  j))))
  k)
  (selT 1
  2
  [Td.sc
  (Value.int
  IntKind.u8
  (IntKind.wrap
  IntKind.u8
  (In.op
  (List.getD l
  ((0 :
  Nat) +
  Int.toNat
  i)
  Enc.dflt)))),
  Td.sc
  (Value.int
  IntKind.u8
  (IntKind.wrap
  IntKind.u8
  (In.kd
  (List.getD l
  ((0 :
  Nat) +
  Int.toNat
  i)
  Enc.dflt))))]
  (0 +
  (0 +
  (0 +
  j)) -
  List.length b)
  k))
  (putT 0 0
  [Td.sc
  (Value.int
  IntKind.u8
  (IntKind.wrap
  IntKind.u8
  (Int.tmod
  (IntKind.wrap
  IntKind.u64
  (Int.tdiv
  (IntKind.wrap
  IntKind.u64
  (In.a
  (List.getD
  l
  ((0 :
  Nat) +
  Int.toNat
  i)
  Enc.dflt)))
  (256 :
  Int)))
  (256 :
  Int))))]
  (putT 1
  0
  [Td.sc
  (Value.int
  IntKind.u8
  (IntKind.wrap
  IntKind.u8
  (Int.tmod
  (IntKind.wrap
  IntKind.u64
  (In.a
  (List.getD
  l
  ((0 :
  Nat) +
  Int.toNat
  i)
  Enc.dflt)))
  (256 :
  Int))))]
  fun x =>
  nthT
  [Td.sc
  (Value.int
  IntKind.u8
  (0 : Int))])
  (0 +
  (0 +
  (0 + j) -
  (List.length b +
  2)))
  k))
  (selT 1 1
  [Td.sc
  (Value.int IntKind.u8
  (IntKind.wrap
  IntKind.u8
  (In.n
  (List.getD l
  (0 +
  Int.toNat i)
  Enc.dflt))))]
  (0 + j -
  (List.length b +
  2 +
  2))
  k))
  (nthT
  [Td.sc
  (Value.int IntKind.u8
  (0 : Int))]
  k))]))))))
  (br
  (Nat.beq
  (Int.toNat
  (Vl.k
  (In.v
  (List.getD l (0 + Int.toNat i)
  Enc.dflt))))
  1)
  (need
  (Nat.ble
  (List.length b + 2 + 2 +
  1 +
  1)
  1000000)
  (need
  (true &&
  Nat.ble
  (0 +
  (List.length b + 2 +
  2 +
  1))
  (List.length b + 2 + 2 +
  1))
  (need
  (Nat.ble
  (List.length b + 2 + 2 +
  1 +
  1)
  1000000)
  (need
  (true &&
  Nat.ble
  (0 +
  (List.length b + 2 +
  2 +
  1))
  (List.length b + 2 +
  2 +
  1))
  (N AX.normal
  (mkF 69
  [(0,
  Value.slice
  (some
  (Addr.mk 0 0
  (some 0)))
  (List.length l) c),
  (3,
  Value.slice
  (some
  (Addr.mk 1 0
  (some 0)))
  (List.length b + 2 +
  2 +
  1 +
  1)
  cb),
  (4,
  Value.int IntKind.i64
  (IntKind.wrap IntKind.i64
  (i + (1 : Int))))])
  (mkS
  [some
  (AObj.row Rk.look 7
  0 (List.length l)
  (encL l)),
  some
  (AObj.row Rk.mine 1
  0
  (List.length b + 2 +
  2 +
  1 +
  1)
  fun j k =>
  mrgT
  (Nat.blt j
  (List.length b +
  2 +
  2 +
  1))
  (mrgT
  (Nat.blt (0 + j)
  (List.length b +
  2 +
  2))
  (mrgT
  (Nat.blt
  (0 +
  (0 + j))
  (List.length b +
  2))
  (mrgT
  (Nat.blt
  (0 +
  (0 +
  (0 +
  j)))
  (List.length b))
  (encL b
  (0 +
  (0 +
  (0 +
  (0 +
  j))))
  k)
  (selT 1
  2
  [Td.sc
  (Value.int
  IntKind.u8
  (IntKind.wrap
  IntKind.u8
  (In.op
  (List.getD
  l
  ((0 :
  Nat) +
  Int.toNat
  i)
  Enc.dflt)))),
  Td.sc
  (Value.int
  IntKind.u8
  (IntKind.wrap
  IntKind.u8
  (In.kd
  (List.getD
  l
  ((0 :
  Nat) +
  Int.toNat
  i)
  Enc.dflt))))]
  (0 +
  (0 +
  (0 +
  j)) -
  List.length b)
  k))
  (putT 0
  0
  [Td.sc
  (Value.int
  IntKind.u8
  (IntKind.wrap
  IntKind.u8
  (Int.tmod
  (IntKind.wrap
  IntKind.u64
  (Int.tdiv
  (IntKind.wrap
  IntKind.u64
  (In.a
  (List.getD
  l
  ((0 :
  Nat) +
  Int.toNat
  i)
  Enc.dflt)))
  (256 :
  Int)))
  (256 :
  Int))))]
  (putT 1
  0
  [Td.sc
  (Value.int
  IntKind.u8
  (IntKind.wrap
  IntKind.u8
  (Int.tmod
  (IntKind.wrap
  IntKind.u64
  (In.a
  (List.getD
  l
  ((0 :
  Nat) +
  Int.toNat
  i)
  Enc.dflt)))
  (256 :
  Int))))]
  fun x =>
  nthT
  [Td.sc
  (Value.int
  IntKind.u8
  (0 : Int))])
  (0 +
  (0 +
  (0 +
  j) -
  (List.length b +
  2)))
  k))
  (selT 1 1
  [Td.sc
  (Value.int
  IntKind.u8
  (IntKind.wrap
  IntKind.u8
  (In.n
  (List.getD l
  (0 +
  Int.toNat
  i)
  Enc.dflt))))]
  (0 + j -
  (List.length b +
  2 +
  2))
  k))
  (putT 0 0
  [Td.sc
  (Value.int IntKind.u8
  (IntKind.wrap
  IntKind.u8
  (Int.tmod
  (IntKind.wrap
  IntKind.u64
  (Vl.i
  (In.v
  (List.getD
  l
  ((0 :
  Nat) +
  Int.toNat
  i)
  Enc.dflt))))
  (256 : Int))))]
  (fun x =>
  nthT
  [Td.sc
  (Value.int
  IntKind.u8
  (0 : Int))])
  (0 +
  (j -
  (List.length b +
  2 +
  2 +
  1)))
  k))]))))))
  (br
  (Nat.beq
  (Int.toNat
  (Vl.k
  (In.v
  (List.getD l (0 + Int.toNat i)
  Enc.dflt))))
  2)
  (need
  (Nat.ble
  (List.length b + 2 + 2 +
  1 +
  2)
  1000000)
  (need
  (true &&
  Nat.ble
  (0 +
  (List.length b + 2 +
  2 +
  1))
  (List.length b + 2 +
  2 +
  1))
  (need
  (Nat.ble
  (List.length b + 2 +
  2 +
  1 +
  2)
  1000000)
  (need
  (true &&
  Nat.ble
  (0 +
  (List.length b + 2 +
  2 +
  1))
  (List.length b + 2 +
  2 +
  1))
  (N AX.normal
  (mkF 69
  [(0,
  Value.slice
  (some
  (Addr.mk 0
  0
  (some 0)))
  (List.length l) c),
  (3,
  Value.slice
  (some
  (Addr.mk 1
  0
  (some 0)))
  (List.length b + 2 +
  2 +
  1 +
  2)
  cb),
  (4,
  Value.int IntKind.i64
  (IntKind.wrap IntKind.i64
  (i + (1 : Int))))])
  (mkS
  [some
  (AObj.row Rk.look 7
  0 (List.length l)
  (encL l)),
  some
  (AObj.row Rk.mine 1
  0
  (List.length b + 2 +
  2 +
  1 +
  2)
  fun j k =>
  mrgT
  (Nat.blt j
  (List.length b +
  2 +
  2 +
  1))
  (mrgT
  (Nat.blt (0 + j)
  (List.length b +
  2 +
  2))
  (mrgT
  (Nat.blt
  (0 +
  (0 + j))
  (List.length b +
  2))
  (mrgT
  (Nat.blt
  (0 +
  (0 +
  (0 +
  j)))
  (List.length b))
  (encL b
  (0 +
  (0 +
  (0 +
  (0 +
  j))))
  k)
  (selT 1
  2
  [Td.sc
  (Value.int
  IntKind.u8
  (IntKind.wrap
  IntKind.u8
  (In.op
  (List.getD
  l
  ((0 :
  Nat) +
  Int.toNat
  i)
  Enc.dflt)))),
  Td.sc
  (Value.int
  IntKind.u8
  (IntKind.wrap
  IntKind.u8
  (In.kd
  (List.getD
  l
  ((0 :
  Nat) +
  Int.toNat
  i)
  Enc.dflt))))]
  (0 +
  (0 +
  (0 +
  j)) -
  List.length b)
  k))
  (putT 0
  0
  [Td.sc
  (Value.int
  IntKind.u8
  (IntKind.wrap
  IntKind.u8
  (Int.tmod
  (IntKind.wrap
  IntKind.u64
  (Int.tdiv
  (IntKind.wrap
  IntKind.u64
  (In.a
  (List.getD
  l
  ((0 :
  Nat) +
  Int.toNat
  i)
  Enc.dflt)))
  (256 :
  Int)))
  (256 :
  Int))))]
  (putT 1
  0
  [Td.sc
  (Value.int
  IntKind.u8
  (IntKind.wrap
  IntKind.u8
  (Int.tmod
  (IntKind.wrap
  IntKind.u64
  (In.a
  (List.getD
  l
  ((0 :
  Nat) +
  Int.toNat
  i)
  Enc.dflt)))
  (256 :
  Int))))]
  fun x =>
  nthT
  [Td.sc
  (Value.int
  IntKind.u8
  (0 :
  Int))])
  (0 +
  (0 +
  (0 +
  j) -
  (List.length b +
  2)))
  k))
  (selT 1
  1
  [Td.sc
  (Value.int
  IntKind.u8
  (IntKind.wrap
  IntKind.u8
  (In.n
  (List.getD l
  ((0 :
  Nat) +
  Int.toNat
  i)
  Enc.dflt))))]
  (0 + j -
  (List.length b +
  2 +
  2))
  k))
  (putT 0 0
  [Td.sc
  (Value.int
  IntKind.u8
  (IntKind.wrap
  IntKind.u8
  (Int.tmod
  (IntKind.wrap
  IntKind.u64
  (Int.tdiv
  (IntKind.wrap
  IntKind.u64
  (Vl.i
  (In.v
  (List.getD
  l
  ((0 :
  Nat) +
  Int.toNat
  i)
  Enc.dflt))))
  (256 :
  Int)))
  (256 :
  Int))))]
  (putT 1
  0
  [Td.sc
  (Value.int
  IntKind.u8
  (IntKind.wrap
  IntKind.u8
  (Int.tmod
  (IntKind.wrap
  IntKind.u64
  (Vl.i
  (In.v
  (List.getD
  l
  ((0 :
  Nat) +
  Int.toNat
  i)
  Enc.dflt))))
  (256 :
  Int))))]
  fun x =>
  nthT
  [Td.sc
  (Value.int
  IntKind.u8
  (0 : Int))])
  (0 +
  (j -
  (List.length b +
  2 +
  2 +
  1)))
  k))]))))))
  (br
  (Nat.beq
  (Int.toNat
  (Vl.k
  (In.v
  (List.getD l
  (0 + Int.toNat i)
  Enc.dflt))))
  3)
  (need
  (Nat.ble
  (List.length b + 2 + 2 +
  1 +
  4)
  1000000)
  (need
  (true &&
  Nat.ble
  (0 +
  (List.length b + 2 +
  2 +
  1))
  (List.length b + 2 +
  2 +
  1))
  (need
  (Nat.ble
  (List.length b + 2 +
  2 +
  1 +
  4)
  1000000)
  (need
  (true &&
  Nat.ble
  (0 +
  (List.length b + 2 +
  2 +
  1))
  (List.length b + 2 +
  2 +
  1))
  (N AX.normal
  (mkF 69
  [(0,
  Value.slice
  (some
  (Addr.mk 0
  0
  (some 0)))
  (List.length l) c),
  (3,
  Value.slice
  (some
  (Addr.mk 1
  0
  (some 0)))
  (List.length b +
  2 +
  2 +
  1 +
  4)
  cb),
  (4,
  Value.int IntKind.i64
  (IntKind.wrap IntKind.i64
  (i + (1 : Int))))])
  (mkS
  [some
  (AObj.row Rk.look 7
  0 (List.length l)
  (encL l)),
  some
  (AObj.row Rk.mine 1
  0
  (List.length b +
  2 +
  2 +
  1 +
  4)
  fun j k =>
  mrgT
  (Nat.blt j
  (List.length b +
  2 +
  2 +
  1))
  (mrgT
  (Nat.blt
  (0 + j)
  (List.length b +
  2 +
  2))
  (mrgT
  (Nat.blt
  (0 +
  (0 + j))
  (List.length b +
  2))
  (mrgT
  (Nat.blt
  (0 +
  (0 +
  (0 +
  j)))
  (List.length b))
  (encL b
  (0 +
  (0 +
  (0 +
  ((0 :
  Nat) +
  j))))
  k)
  (selT 1
  2
  [Td.sc
  (Value.int
  IntKind.u8
  (IntKind.wrap
  IntKind.u8
  (In.op
  (List.getD
  l
  ((0 :
  Nat) +
  Int.toNat
  i)
  Enc.dflt)))),
  Td.sc
  (Value.int
  IntKind.u8
  (IntKind.wrap
  IntKind.u8
  (In.kd
  (List.getD
  l
  ((0 :
  Nat) +
  Int.toNat
  i)
  Enc.dflt))))]
  (0 +
  (0 +
  ((0 :
  Nat) +
  j)) -
  List.length b)
  k))
  (putT 0
  0
  [Td.sc
  (Value.int
  IntKind.u8
  (IntKind.wrap
  IntKind.u8
  (Int.tmod
  (IntKind.wrap
  IntKind.u64
  (Int.tdiv
  (IntKind.wrap
  IntKind.u64
  (In.a
  (List.getD
  l
  ((0 :
  Nat) +
  Int.toNat
  i)
  Enc.dflt)))
  (256 :
  Int)))
  (256 :
  Int))))]
  (putT 1
  0
  [Td.sc
  (Value.int
  IntKind.u8
  (IntKind.wrap
  IntKind.u8
  (Int.tmod
  (IntKind.wrap
  IntKind.u64
  (In.a
  (List.getD
  l
  ((0 :
  Nat) +
  Int.toNat
  i)
  Enc.dflt)))
  (256 :
  Int))))]
  fun x =>
  nthT
  [Td.sc
  (Value.int
  IntKind.u8
  (0 :
  Int))])
  (0 +
  (0 +
  (0 +
  j) -
  (List.length
  b +
  2)))
  k))
  (selT 1
  1
  [Td.sc
  (Value.int
  IntKind.u8
  (IntKind.wrap
  IntKind.u8
  (In.n
  (List.getD
  l
  ((0 :
  Nat) +
  Int.toNat
  i)
  Enc.dflt))))]
  (0 + j -
  (List.length b +
  2 +
  2))
  k))
  (putT 0
  0
  [Td.sc
  (Value.int
  IntKind.u8
  (IntKind.wrap
  IntKind.u8
  (Int.tmod
  (IntKind.wrap
  IntKind.u64
  (Int.tdiv
  (IntKind.wrap
  IntKind.u64
  (Int.tdiv
  (IntKind.wrap
  IntKind.u64
  (Int.tdiv
  (IntKind.wrap
  IntKind.u64
  (Vl.i
  (In.v
  (List.getD
  l
  ((0 :
  Nat) +
  Int.toNat
  i)
  Enc.dflt))))
  (256 :
  Int)))
  (256 :
  Int)))
  (256 :
  Int)))
  (256 :
  Int))))]
  (putT 1
  0
  [Td.sc
  (Value.int
  IntKind.u8
  (IntKind.wrap
  IntKind.u8
  (Int.tmod
  (IntKind.wrap
  IntKind.u64
  (Int.tdiv
  (IntKind.wrap
  IntKind.u64
  (Int.tdiv
  (IntKind.wrap
  IntKind.u64
  (Vl.i
  (In.v
  (List.getD
  l
  ((0 :
  Nat) +
  Int.toNat
  i)
  Enc.dflt))))
  (256 :
  Int)))
  (256 :
  Int)))
  (256 :
  Int))))]
  (putT 2
  0
  [Td.sc
  (Value.int
  IntKind.u8
  (IntKind.wrap
  IntKind.u8
  (Int.tmod
  (IntKind.wrap
  IntKind.u64
  (Int.tdiv
  (IntKind.wrap
  IntKind.u64
  (Vl.i
  (In.v
  (List.getD
  l
  ((0 :
  Nat) +
  Int.toNat
  i)
  Enc.dflt))))
  (256 :
  Int)))
  (256 :
  Int))))]
  (putT 3
  0
  [Td.sc
  (Value.int
  IntKind.u8
  (IntKind.wrap
  IntKind.u8
  (Int.tmod
  (IntKind.wrap
  IntKind.u64
  (Vl.i
  (In.v
  (List.getD
  l
  ((0 :
  Nat) +
  Int.toNat
  i)
  Enc.dflt))))
  (256 :
  Int))))]
  fun x =>
  nthT
  [Td.sc
  (Value.int
  IntKind.u8
  (0 :
  Int))])))
  (0 +
  (j -
  (List.length b +
  2 +
  2 +
  1)))
  k))]))))))
  (br
  (Nat.beq
  (Int.toNat
  (Vl.k
  (In.v
  (List.getD l
  (0 + Int.toNat i)
  Enc.dflt))))
  4)
  (need
  (Nat.ble
  (List.length b + 2 +
  2 +
  1 +
  8)
  1000000)
  (need
  (true &&
  Nat.ble
  (0 +
  (List.length b + 2 +
  2 +
  1))
  (List.length b + 2 +
  2 +
  1))
  (need
  (Nat.ble
  (List.length b + 2 +
  2 +
  1 +
  8)
  1000000)
  (need
  (true &&
  Nat.ble
  (0 +
  (List.length b + 2 +
  2 +
  1))
  (List.length b + 2 +
  2 +
  1))
  (N AX.normal
  (mkF 69
  [(0,
  Value.slice
  (some
  (Addr.mk 0
  0
  (some 0)))
  (List.length l) c),
  (3,
  Value.slice
  (some
  (Addr.mk 1
  0
  (some 0)))
  (List.length b +
  2 +
  2 +
  1 +
  8)
  cb),
  (4,
  Value.int IntKind.i64
  (IntKind.wrap
  IntKind.i64
  (i + (1 : Int))))])
  (mkS
  [some
  (AObj.row Rk.look
  7 0
  (List.length l)
  (encL l)),
  some
  (AObj.row Rk.mine
  1 0
  (List.length b +
  2 +
  2 +
  1 +
  8)
  fun j k =>
  mrgT
  (Nat.blt j
  (List.length b +
  2 +
  2 +
  1))
  (mrgT
  (Nat.blt
  (0 + j)
  (List.length b +
  2 +
  2))
  (mrgT
  (Nat.blt
  (0 +
  (0 +
  j))
  (List.length b +
  2))
  (mrgT
  (Nat.blt
  (0 +
  (0 +
  ((0 :
  Nat) +
  j)))
  (List.length
  b))
  (encL b
  (0 +
  (0 +
  ((0 :
  Nat) +
  ((0 :
  Nat) +
  j))))
  k)
  (selT 1
  2
  [Td.sc
  (Value.int
  IntKind.u8
  (IntKind.wrap
  IntKind.u8
  (In.op
  (List.getD
  l
  ((0 :
  Nat) +
  Int.toNat
  i)
  Enc.dflt)))),
  Td.sc
  (Value.int
  IntKind.u8
  (IntKind.wrap
  IntKind.u8
  (In.kd
  (List.getD
  l
  ((0 :
  Nat) +
  Int.toNat
  i)
  Enc.dflt))))]
  (0 +
  ((0 :
  Nat) +
  ((0 :
  Nat) +
  j)) -
  List.length
  b)
  k))
  (putT 0
  0
  [Td.sc
  (Value.int
  IntKind.u8
  (IntKind.wrap
  IntKind.u8
  (Int.tmod
  (IntKind.wrap
  IntKind.u64
  (Int.tdiv
  (IntKind.wrap
  IntKind.u64
  (In.a
  (List.getD
  l
  ((0 :
  Nat) +
  Int.toNat
  i)
  Enc.dflt)))
  (256 :
  Int)))
  (256 :
  Int))))]
  (putT 1
  0
  [Td.sc
  (Value.int
  IntKind.u8
  (IntKind.wrap
  IntKind.u8
  (Int.tmod
  (IntKind.wrap
  IntKind.u64
  (In.a
  (List.getD
  l
  ((0 :
  Nat) +
  Int.toNat
  i)
  Enc.dflt)))
  (256 :
  Int))))]
  fun x =>
  nthT
  [Td.sc
  (Value.int
  IntKind.u8
  (0 :
  Int))])
  (0 +
  (0 +
  ((0 :
  Nat) +
  j) -
  (List.length
  b +
  (2 :
  Nat))))
  k))
  (selT 1
  1
  [Td.sc
  (Value.int
  IntKind.u8
  (IntKind.wrap
  IntKind.u8
  (In.n
  (List.getD
  l
  ((0 :
  Nat) +
  Int.toNat
  i)
  Enc.dflt))))]
  (0 + j -
  (List.length b +
  2 +
  2))
  k))
  (putT 0
  0
  [Td.sc
  (Value.int
  IntKind.u8
  (IntKind.wrap
  IntKind.u8
  (Int.tmod
  (IntKind.wrap
  IntKind.u64
  (Int.tdiv
  (IntKind.wrap
  IntKind.u64
  (Int.tdiv
  (IntKind.wrap
  IntKind.u64
  (Int.tdiv
  (IntKind.wrap
  IntKind.u64
  (Int.tdiv
  (IntKind.wrap
  IntKind.u64
  (Int.tdiv
  (IntKind.wrap
  IntKind.u64
  (Int.tdiv
  (IntKind.wrap
  IntKind.u64
  (Int.tdiv
  (IntKind.wrap
  IntKind.u64
  (Vl.i
  (In.v
  (List.getD
  l
  ((0 :
  Nat) +
  Int.toNat
  i)
  Enc.dflt))))
  (256 :
  Int)))
  (256 :
  Int)))
  (256 :
  Int)))
  (256 :
  Int)))
  (256 :
  Int)))
  (256 :
  Int)))
  (256 :
  Int)))
  (256 :
  Int))))]
  (putT 1
  0
  [Td.sc
  (Value.int
  IntKind.u8
  (IntKind.wrap
  IntKind.u8
  (Int.tmod
  (IntKind.wrap
  IntKind.u64
  (Int.tdiv
  (IntKind.wrap
  IntKind.u64
  (Int.tdiv
  (IntKind.wrap
  IntKind.u64
  (Int.tdiv
  (IntKind.wrap
  IntKind.u64
  (Int.tdiv
  (IntKind.wrap
  IntKind.u64
  (Int.tdiv
  (IntKind.wrap
  IntKind.u64
  (Int.tdiv
  (IntKind.wrap
  IntKind.u64
  (Vl.i
  (In.v
  (List.getD
  l
  ((0 :
  Nat) +
  Int.toNat
  i)
  Enc.dflt))))
  (256 :
  Int)))
  (256 :
  Int)))
  (256 :
  Int)))
  (256 :
  Int)))
  (256 :
  Int)))
  (256 :
  Int)))
  (256 :
  Int))))]
  (putT 2
  0
  [Td.sc
  (Value.int
  IntKind.u8
  (IntKind.wrap
  IntKind.u8
  (Int.tmod
  (IntKind.wrap
  IntKind.u64
  (Int.tdiv
  (IntKind.wrap
  IntKind.u64
  (Int.tdiv
  (IntKind.wrap
  IntKind.u64
  (Int.tdiv
  (IntKind.wrap
  IntKind.u64
  (Int.tdiv
  (IntKind.wrap
  IntKind.u64
  (Int.tdiv
  (IntKind.wrap
  IntKind.u64
  (Vl.i
  (In.v
  (List.getD
  l
  ((0 :
  Nat) +
  Int.toNat
  i)
  Enc.dflt))))
  (256 :
  Int)))
  (256 :
  Int)))
  (256 :
  Int)))
  (256 :
  Int)))
  (256 :
  Int)))
  (256 :
  Int))))]
  (putT 3
  0
  [Td.sc
  (Value.int
  IntKind.u8
  (IntKind.wrap
  IntKind.u8
  (Int.tmod
  (IntKind.wrap
  IntKind.u64
  (Int.tdiv
  (IntKind.wrap
  IntKind.u64
  (Int.tdiv
  (IntKind.wrap
  IntKind.u64
  (Int.tdiv
  (IntKind.wrap
  IntKind.u64
  (Int.tdiv
  (IntKind.wrap
  IntKind.u64
  (Vl.i
  (In.v
  (List.getD
  l
  ((0 :
  Nat) +
  Int.toNat
  i)
  Enc.dflt))))
  (256 :
  Int)))
  (256 :
  Int)))
  (256 :
  Int)))
  (256 :
  Int)))
  (256 :
  Int))))]
  (putT
  4
  0
  [Td.sc
  (Value.int
  IntKind.u8
  (IntKind.wrap
  IntKind.u8
  (Int.tmod
  (IntKind.wrap
  IntKind.u64
  (Int.tdiv
  (IntKind.wrap
  IntKind.u64
  (Int.tdiv
  (IntKind.wrap
  IntKind.u64
  (Int.tdiv
  (IntKind.wrap
  IntKind.u64
  (Vl.i
  (In.v
  (List.getD
  l
  ((0 :
  Nat) +
  Int.toNat
  i)
  Enc.dflt))))
  (256 :
  Int)))
  (256 :
  Int)))
  (256 :
  Int)))
  (256 :
  Int))))]
  (putT
  5
  0
  [Td.sc
  (Value.int
  IntKind.u8
  (IntKind.wrap
  IntKind.u8
  (Int.tmod
  (IntKind.wrap
  IntKind.u64
  (Int.tdiv
  (IntKind.wrap
  IntKind.u64
  (Int.tdiv
  (IntKind.wrap
  IntKind.u64
  (Vl.i
  (In.v
  (List.getD
  l
  ((0 :
  Nat) +
  Int.toNat
  i)
  Enc.dflt))))
  (256 :
  Int)))
  (256 :
  Int)))
  (256 :
  Int))))]
  (putT
  (6 :
  Nat)
  (0 :
  Nat)
  [Td.sc
  (Value.int
  IntKind.u8
  (IntKind.wrap
  IntKind.u8
  (Int.tmod
  (IntKind.wrap
  IntKind.u64
  (Int.tdiv
  (IntKind.wrap
  IntKind.u64
  (Vl.i
  (In.v
  (List.getD
  l
  ((0 :
  Nat) +
  Int.toNat
  i)
  Enc.dflt))))
  (256 :
  Int)))
  (256 :
  Int))))]
  (putT
  (7 :
  Nat)
  (0 :
  Nat)
  [Td.sc
  (Value.int
  IntKind.u8
  (IntKind.wrap
  IntKind.u8
  (Int.tmod
  (IntKind.wrap
  IntKind.u64
  (Vl.i
  (In.v
  (List.getD
  l
  ((0 :
  Nat) +
  Int.toNat
  i)
  Enc.dflt))))
  (256 :
  Int))))]
  fun
  x =>
  nthT
  [Td.sc
  (Value.int
  IntKind.u8
  (0 :
  Int))])))))))
  (0 +
  (j -
  (List.length b +
  (2 :
  Nat) +
  2 +
  1)))
  k))]))))))
  (need
  (Nat.beq
  (Int.toNat
  (Vl.k
  (In.v
  (List.getD l
  (0 + Int.toNat i)
  Enc.dflt))))
  5)
  (need
  (Nat.ble
  (List.length b + 2 +
  2 +
  1 +
  8)
  1000000)
  (need
  (true &&
  Nat.ble
  (0 +
  (List.length b + 2 +
  2 +
  1))
  (List.length b + 2 +
  2 +
  1))
  (need
  (Nat.ble
  (List.length b + 2 +
  2 +
  1 +
  8)
  1000000)
  (need
  (true &&
  Nat.ble
  (0 +
  (List.length b +
  2 +
  2 +
  1))
  (List.length b + 2 +
  2 +
  1))
  (N AX.normal
  (mkF 69
  [(0,
  Value.slice
  (some
  (Addr.mk 0
  0
  (some 0)))
  (List.length l) c),
  (3,
  Value.slice
  (some
  (Addr.mk 1
  0
  (some 0)))
  (List.length b +
  2 +
  2 +
  1 +
  8)
  cb),
  (4,
  Value.int IntKind.i64
  (IntKind.wrap
  IntKind.i64
  (i + (1 : Int))))])
  (mkS
  [some
  (AObj.row Rk.look
  7 0
  (List.length l)
  (encL l)),
  some
  (AObj.row Rk.mine
  1 0
  (List.length b +
  2 +
  2 +
  1 +
  8)
  fun j k =>
  mrgT
  (Nat.blt j
  (List.length b +
  2 +
  2 +
  1))
  (mrgT
  (Nat.blt
  (0 + j)
  (List.length b +
  2 +
  2))
  (mrgT
  (Nat.blt
  (0 +
  (0 +
  j))
  (List.length
  b +
  2))
  (mrgT
  (Nat.blt
  (0 +
  ((0 :
  Nat) +
  ((0 :
  Nat) +
  j)))
  (List.length
  b))
  (encL b
  (0 +
  ((0 :
  Nat) +
  ((0 :
  Nat) +
  ((0 :
  Nat) +
  j))))
  k)
  (selT
  1
  2
  [Td.sc
  (Value.int
  IntKind.u8
  (IntKind.wrap
  IntKind.u8
  (In.op
  (List.getD
  l
  ((0 :
  Nat) +
  Int.toNat
  i)
  Enc.dflt)))),
  Td.sc
  (Value.int
  IntKind.u8
  (IntKind.wrap
  IntKind.u8
  (In.kd
  (List.getD
  l
  ((0 :
  Nat) +
  Int.toNat
  i)
  Enc.dflt))))]
  (0 +
  ((0 :
  Nat) +
  ((0 :
  Nat) +
  j)) -
  List.length
  b)
  k))
  (putT 0
  0
  [Td.sc
  (Value.int
  IntKind.u8
  (IntKind.wrap
  IntKind.u8
  (Int.tmod
  (IntKind.wrap
  IntKind.u64
  (Int.tdiv
  (IntKind.wrap
  IntKind.u64
  (In.a
  (List.getD
  l
  ((0 :
  Nat) +
  Int.toNat
  i)
  Enc.dflt)))
  (256 :
  Int)))
  (256 :
  Int))))]
  (putT
  1
  0
  [Td.sc
  (Value.int
  IntKind.u8
  (IntKind.wrap
  IntKind.u8
  (Int.tmod
  (IntKind.wrap
  IntKind.u64
  (In.a
  (List.getD
  l
  ((0 :
  Nat) +
  Int.toNat
  i)
  Enc.dflt)))
  (256 :
  Int))))]
  fun x =>
  nthT
  [Td.sc
  (Value.int
  IntKind.u8
  (0 :
  Int))])
  (0 +
  (0 +
  ((0 :
  Nat) +
  j) -
  (List.length
  b +
  (2 :
  Nat))))
  k))
  (selT 1
  1
  [Td.sc
  (Value.int
  IntKind.u8
  (IntKind.wrap
  IntKind.u8
  (In.n
  (List.getD
  l
  ((0 :
  Nat) +
  Int.toNat
  i)
  Enc.dflt))))]
  (0 + j -
  (List.length
  b +
  (2 :
  Nat) +
  2))
  k))
  (putT 0
  0
  [Td.sc
  (Value.int
  IntKind.u8
  (IntKind.wrap
  IntKind.u8
  (Int.tmod
  (IntKind.wrap
  IntKind.u64
  (Int.tdiv
  (IntKind.wrap
  IntKind.u64
  (Int.tdiv
  (IntKind.wrap
  IntKind.u64
  (Int.tdiv
  (IntKind.wrap
  IntKind.u64
  (Int.tdiv
  (IntKind.wrap
  IntKind.u64
  (Int.tdiv
  (IntKind.wrap
  IntKind.u64
  (Int.tdiv
  (IntKind.wrap
  IntKind.u64
  (Int.tdiv
  (IntKind.wrap
  IntKind.u64
  (Vl.i
  (In.v
  (List.getD
  l
  ((0 :
  Nat) +
  Int.toNat
  i)
  Enc.dflt))))
  (256 :
  Int)))
  (256 :
  Int)))
  (256 :
  Int)))
  (256 :
  Int)))
  (256 :
  Int)))
  (256 :
  Int)))
  (256 :
  Int)))
  (256 :
  Int))))]
  (putT 1
  0
  [Td.sc
  (Value.int
  IntKind.u8
  (IntKind.wrap
  IntKind.u8
  (Int.tmod
  (IntKind.wrap
  IntKind.u64
  (Int.tdiv
  (IntKind.wrap
  IntKind.u64
  (Int.tdiv
  (IntKind.wrap
  IntKind.u64
  (Int.tdiv
  (IntKind.wrap
  IntKind.u64
  (Int.tdiv
  (IntKind.wrap
  IntKind.u64
  (Int.tdiv
  (IntKind.wrap
  IntKind.u64
  (Int.tdiv
  (IntKind.wrap
  IntKind.u64
  (Vl.i
  (In.v
  (List.getD
  l
  ((0 :
  Nat) +
  Int.toNat
  i)
  Enc.dflt))))
  (256 :
  Int)))
  (256 :
  Int)))
  (256 :
  Int)))
  (256 :
  Int)))
  (256 :
  Int)))
  (256 :
  Int)))
  (256 :
  Int))))]
  (putT 2
  0
  [Td.sc
  (Value.int
  IntKind.u8
  (IntKind.wrap
  IntKind.u8
  (Int.tmod
  (IntKind.wrap
  IntKind.u64
  (Int.tdiv
  (IntKind.wrap
  IntKind.u64
  (Int.tdiv
  (IntKind.wrap
  IntKind.u64
  (Int.tdiv
  (IntKind.wrap
  IntKind.u64
  (Int.tdiv
  (IntKind.wrap
  IntKind.u64
  (Int.tdiv
  (IntKind.wrap
  IntKind.u64
  (Vl.i
  (In.v
  (List.getD
  l
  ((0 :
  Nat) +
  Int.toNat
  i)
  Enc.dflt))))
  (256 :
  Int)))
  (256 :
  Int)))
  (256 :
  Int)))
  (256 :
  Int)))
  (256 :
  Int)))
  (256 :
  Int))))]
  (putT
  3
  0
  [Td.sc
  (Value.int
  IntKind.u8
  (IntKind.wrap
  IntKind.u8
  (Int.tmod
  (IntKind.wrap
  IntKind.u64
  (Int.tdiv
  (IntKind.wrap
  IntKind.u64
  (Int.tdiv
  (IntKind.wrap
  IntKind.u64
  (Int.tdiv
  (IntKind.wrap
  IntKind.u64
  (Int.tdiv
  (IntKind.wrap
  IntKind.u64
  (Vl.i
  (In.v
  (List.getD
  l
  ((0 :
  Nat) +
  Int.toNat
  i)
  Enc.dflt))))
  (256 :
  Int)))
  (256 :
  Int)))
  (256 :
  Int)))
  (256 :
  Int)))
  (256 :
  Int))))]
  (putT
  4
  0
  [Td.sc
  (Value.int
  IntKind.u8
  (IntKind.wrap
  IntKind.u8
  (Int.tmod
  (IntKind.wrap
  IntKind.u64
  (Int.tdiv
  (IntKind.wrap
  IntKind.u64
  (Int.tdiv
  (IntKind.wrap
  IntKind.u64
  (Int.tdiv
  (IntKind.wrap
  IntKind.u64
  (Vl.i
  (In.v
  (List.getD
  l
  ((0 :
  Nat) +
  Int.toNat
  i)
  Enc.dflt))))
  (256 :
  Int)))
  (256 :
  Int)))
  (256 :
  Int)))
  (256 :
  Int))))]
  (putT
  (5 :
  Nat)
  (0 :
  Nat)
  [Td.sc
  (Value.int
  IntKind.u8
  (IntKind.wrap
  IntKind.u8
  (Int.tmod
  (IntKind.wrap
  IntKind.u64
  (Int.tdiv
  (IntKind.wrap
  IntKind.u64
  (Int.tdiv
  (IntKind.wrap
  IntKind.u64
  (Vl.i
  (In.v
  (List.getD
  l
  ((0 :
  Nat) +
  Int.toNat
  i)
  Enc.dflt))))
  (256 :
  Int)))
  (256 :
  Int)))
  (256 :
  Int))))]
  (putT
  (6 :
  Nat)
  (0 :
  Nat)
  [Td.sc
  (Value.int
  IntKind.u8
  (IntKind.wrap
  IntKind.u8
  (Int.tmod
  (IntKind.wrap
  IntKind.u64
  (Int.tdiv
  (IntKind.wrap
  IntKind.u64
  (Vl.i
  (In.v
  (List.getD
  l
  ((0 :
  Nat) +
  Int.toNat
  i)
  Enc.dflt))))
  (256 :
  Int)))
  (256 :
  Int))))]
  (putT
  (7 :
  Nat)
  (0 :
  Nat)
  [Td.sc
  (Value.int
  IntKind.u8
  (IntKind.wrap
  IntKind.u8
  (Int.tmod
  (IntKind.wrap
  IntKind.u64
  (Vl.i
  (In.v
  (List.getD
  l
  ((0 :
  Nat) +
  Int.toNat
  i)
  Enc.dflt))))
  (256 :
  Int))))]
  fun
  x =>
  nthT
  [Td.sc
  (Value.int
  IntKind.u8
  (0 :
  Int))])))))))
  (0 +
  (j -
  (List.length
  b +
  (2 :
  Nat) +
  (2 :
  Nat) +
  1)))
  k))])))))))))))))))))
  (N AX.normal
  (mkF 69
  [(0,
  Value.slice
  (some
  (Addr.mk 0 0 (some 0)))
  (List.length l) c),
  (3,
  Value.slice
  (some
  (Addr.mk 1 0 (some 0)))
  (List.length b + 2 + 2 + 1)
  cb),
  (4,
  Value.int IntKind.i64
  (IntKind.wrap IntKind.i64 (i + (1 : Int))))])
  (mkS
  [some
  (AObj.row Rk.look 7 0 (List.length l)
  (encL l)),
  some
  (AObj.row Rk.mine 1 0
  (List.length b + 2 + 2 + 1)
  fun j k =>
  mrgT
  (Nat.blt j
  (List.length b + 2 + 2))
  (mrgT
  (Nat.blt (0 + j)
  (List.length b + 2))
  (mrgT
  (Nat.blt (0 + (0 + j))
  (List.length b))
  (encL b
  (0 + (0 + (0 + j)))
  k)
  (selT 1 2
  [Td.sc
  (Value.int IntKind.u8
  (IntKind.wrap IntKind.u8
  (In.op
  (List.getD l
  (0 + Int.toNat i)
  Enc.dflt)))),
  Td.sc
  (Value.int IntKind.u8
  (IntKind.wrap IntKind.u8
  (In.kd
  (List.getD l
  (0 + Int.toNat i)
  Enc.dflt))))]
  (0 + (0 + j) -
  List.length b)
  k))
  (putT 0 0
  [Td.sc
  (Value.int IntKind.u8
  (IntKind.wrap IntKind.u8
  (Int.tmod
  (IntKind.wrap IntKind.u64
  (Int.tdiv
  (IntKind.wrap IntKind.u64
  (In.a
  (List.getD l
  (0 + Int.toNat i)
  Enc.dflt)))
  (256 : Int)))
  (256 : Int))))]
  (putT 1 0
  [Td.sc
  (Value.int IntKind.u8
  (IntKind.wrap IntKind.u8
  (Int.tmod
  (IntKind.wrap IntKind.u64
  (In.a
  (List.getD l
  (0 + Int.toNat i)
  Enc.dflt)))
  (256 : Int))))]
  fun x =>
  nthT
  [Td.sc (Value.int IntKind.u8 (0 : Int))])
  (0 +
  (0 + j -
  (List.length b + 2)))
  k))
  (selT 1 1
  [Td.sc
  (Value.int IntKind.u8
  (IntKind.wrap IntKind.u8
  (In.n
  (List.getD l (0 + Int.toNat i)
  Enc.dflt))))]
  (j - (List.length b + 2 + 2))
  k))]))))))))))))))))))))))))))))))
  (N (AX.exit 0)
  (mkF 69
  [(0, Value.slice (some (Addr.mk 0 0 (some 0))) (List.length l) c),
  (3, Value.slice (some (Addr.mk 1 0 (some 0))) (List.length b) cb),
  (4, Value.int IntKind.i64 i)])
  (mkS
  [some (AObj.row Rk.look 7 0 (List.length l) (encL l)),
  some (AObj.row Rk.mine 1 0 (List.length b) (encL b))]))) := by kernel_rfl
end Go.Proofs.Ytncndnlbiijdoaa.Ev

/-! ref7.PutInsts: told to the evaluator. -/
set_option linter.unusedVariables false
set_option linter.unusedSimpArgs false
set_option maxRecDepth 100000
namespace Go.Proofs.Ytncndnlbiijdoaa.Ev
open Go Go.Proofs Go.RowKit

theorem dvU {n : Nat} (h : n < 18446744073709551616) : IntKind.wrap .u64 (Int.tdiv (n : Int) 256) = ((n / 256 : Nat) : Int) := by
  have : Int.tdiv (n : Int) 256 = ((n / 256 : Nat) : Int) := (Int.ofNat_tdiv n 256).symm
  rw [this]; exact wrap64u (by omega)
theorem uN_lt (i : Int) : uN i < 18446744073709551616 := by
  have h : IntKind.wrap .u64 i < 18446744073709551616 := by
    unfold IntKind.wrap
    simp only [IntKind.signed, IntKind.bits]
    have := Int.emod_lt_of_pos i (show (0 : Int) < 2 ^ 64 by decide)
    simpa using this
  unfold uN; omega
theorem uN_cast (i : Int) : IntKind.wrap .u64 i = ((uN i : Nat) : Int) := uN_eq i
theorem rowH1 (u : Nat) : RowU (putT 0 0 [Td.sc (.int .u8 (byU u).v)] fun _ => nthT [Td.sc (.int .u8 0)]) 1 (num1 u) := ((RowU.zero 1).put (v := (byU u).v) (i0 := 0) (by omega)).to rfl rfl
theorem rowH2 (u : Nat) : RowU (putT 0 0 [Td.sc (.int .u8 (byU (u / 256)).v)] (putT 1 0 [Td.sc (.int .u8 (byU u).v)] fun _ => nthT [Td.sc (.int .u8 0)])) 2 (num2 u) := (((RowU.zero 2).put (v := (byU u).v) (i0 := 1) (by omega)).put (v := (byU (u / 256)).v) (i0 := 0) (by omega)).to rfl rfl
theorem rowH4 (u : Nat) : RowU (putT 0 0 [Td.sc (.int .u8 (byU (u / 256 / 256 / 256)).v)] (putT 1 0 [Td.sc (.int .u8 (byU (u / 256 / 256)).v)] (putT 2 0 [Td.sc (.int .u8 (byU (u / 256)).v)] (putT 3 0 [Td.sc (.int .u8 (byU u).v)] fun _ => nthT [Td.sc (.int .u8 0)])))) 4 (num4 u) :=
  (((((RowU.zero 4).put (v := (byU u).v) (i0 := 3) (by omega)).put (v := (byU (u / 256)).v) (i0 := 2) (by omega)).put (v := (byU (u / 256 / 256)).v) (i0 := 1) (by omega)).put (v := (byU (u / 256 / 256 / 256)).v) (i0 := 0) (by omega)).to rfl (by rw [dv3, dv2]; rfl)
theorem rowH8 (u : Nat) : RowU (putT 0 0 [Td.sc (.int .u8 (byU (u / 256 / 256 / 256 / 256 / 256 / 256 / 256)).v)] (putT 1 0 [Td.sc (.int .u8 (byU (u / 256 / 256 / 256 / 256 / 256 / 256)).v)] (putT 2 0 [Td.sc (.int .u8 (byU (u / 256 / 256 / 256 / 256 / 256)).v)] (putT 3 0 [Td.sc (.int .u8 (byU (u / 256 / 256 / 256 / 256)).v)] (putT 4 0 [Td.sc (.int .u8 (byU (u / 256 / 256 / 256)).v)] (putT 5 0 [Td.sc (.int .u8 (byU (u / 256 / 256)).v)] (putT 6 0 [Td.sc (.int .u8 (byU (u / 256)).v)] (putT 7 0 [Td.sc (.int .u8 (byU u).v)] fun _ => nthT [Td.sc (.int .u8 0)])))))))) 8 (num8 u) :=
  (((((((((RowU.zero 8).put (v := (byU u).v) (i0 := 7) (by omega)).put (v := (byU (u / 256)).v) (i0 := 6) (by omega)).put (v := (byU (u / 256 / 256)).v) (i0 := 5) (by omega)).put (v := (byU (u / 256 / 256 / 256)).v) (i0 := 4) (by omega)).put (v := (byU (u / 256 / 256 / 256 / 256)).v) (i0 := 3) (by omega)).put (v := (byU (u / 256 / 256 / 256 / 256 / 256)).v) (i0 := 2) (by omega)).put (v := (byU (u / 256 / 256 / 256 / 256 / 256 / 256)).v) (i0 := 1) (by omega)).put (v := (byU (u / 256 / 256 / 256 / 256 / 256 / 256 / 256)).v) (i0 := 0) (by omega)).to rfl (by
    have e2 : u / 256 / 256 = u / 65536 := by omega
    have e3 : u / 256 / 256 / 256 = u / 16777216 := by omega
    have e4 : u / 256 / 256 / 256 / 256 = u / 4294967296 := by omega
    have e5 : u / 256 / 256 / 256 / 256 / 256 = u / 1099511627776 := by omega
    have e6 : u / 256 / 256 / 256 / 256 / 256 / 256 = u / 281474976710656 := by omega
    have e7 : u / 256 / 256 / 256 / 256 / 256 / 256 / 256 = u / 72057594037927936 := by omega
    rw [e7, e6, e5, e4, e3, e2]; rfl)
theorem bits_lt {f : Nat} (h : f < 18446744073709551616) : bitsN f < 18446744073709551616 := by
  unfold bitsN
  cases nanB .f64 f
  · exact h
  · show 9221120237041090561 < _; omega
theorem pr_loop {l : List In} {c : Nat} {β : Bs} (hβ : β.X.length = 1) (hl : l.length ≤ 400) (hok : l.all (okA In) = true) : LoopJ Try.prog β (exPr l c) 0 (loopOf Try.prog 13 0) (FPr7 l (putN l 0) c 1 (0 : Nat)) (SPu l (putN l 0)) := by
  refine loop_rule (fun k : Nat => k ≤ l.length ∧ ∀ j, j < k → mayB (l.getD j Enc.dflt) = true) (fun k => FPr7 l (putN l k) c 1 k) (fun k => SPu l (putN l k)) (fun k => l.length - k) (fun k hk K hK => ?_) 0 ⟨Nat.zero_le _, fun j hj => by omega⟩
  obtain ⟨hk, hfit⟩ := hk
  have hK : (l.all mayB = true → ∀ cb, K (.exit 0) (FPr7 l (putN l l.length) c cb l.length) (SPu l (putN l l.length))) ∧ (l.all mayB = false → K .ret FPr7n (mkS [some (rowO .look l)])) := hK
  show J _ β _ _ _ (Nn β (fun k : Nat => k ≤ l.length ∧ ∀ j, j < k → mayB (l.getD j Enc.dflt) = true) (fun k => l.length - k) (fun k : Nat => FPr7 l (putN l k) c 1 k) (fun k => SPu l (putN l k)) k K)
  refine roundJ_ok (E := 1) (lvs := fun _ => slPr) (un := fun _ => 0) (fuel := 100) (n := 20) (ex := fun _ _ => False) follows toldB7_ok hβ (lv := lvPr) ?_
  rw [vc_putr_r]
  by_cases hkn : k < l.length
  · have c1 : decide ((k : Int) < Int.ofNat l.length) = true := by simpa using hkn
    have c2 : decide ((0 : Int) ≤ (k : Int)) = true := by simp
    have e0 : Int.toNat (k : Int) = k := Int.toNat_natCast k
    have c3 : Nat.blt k l.length = true := by simpa using hkn
    have c5 : Nat.ble 0 k = true := by simp
    have hw : IntKind.wrap .i64 ((k : Int) + 1) = ((k + 1 : Nat) : Int) := w64 (by omega) (by omega)
    have hx : ∀ x : In, (⟨x.op, x.kd, x.a, x.n, ⟨x.v.k, x.v.i, x.v.f⟩⟩ : In) = x := fun x => rfl
    have hof : (l.getD k Enc.dflt).v.f < 18446744073709551616 := by
      rw [List.all_eq_true] at hok
      have := hok (l.getD k Enc.dflt) (by simp [List.getD, hkn])
      rw [okA_in] at this
      exact ((inFit_iff _).1 this).1
    have hbad : mayB (l.getD k Enc.dflt) = false → l.all mayB = false := fun h => by
      cases hq : l.all mayB with
      | false => rfl
      | true =>
        rw [List.all_eq_true] at hq
        have := hq (l.getD k Enc.dflt) (by simp [List.getD, hkn])
        rw [h] at this; cases this
    have hnx : putN l (k + 1) = putN l k ++ inBy (l.getD k Enc.dflt) := rfl
    have hpl := putN_len l k
    have hfin : mayB (l.getD k Enc.dflt) = true → ∀ f st, Seen β f st (FPr7 l (putN l (k + 1)) c 1 ((k + 1 : Nat) : Int)) (SPu l (putN l (k + 1))) → Nn β (fun k : Nat => k ≤ l.length ∧ ∀ j, j < k → mayB (l.getD j Enc.dflt) = true) (fun k => l.length - k) (fun k : Nat => FPr7 l (putN l k) c 1 k) (fun k => SPu l (putN l k)) k K .normal f st := fun hm f st hs =>
      Nn.next (I := fun k : Nat => k ≤ l.length ∧ ∀ j, j < k → mayB (l.getD j Enc.dflt) = true) (m := fun k => l.length - k) (F := fun k : Nat => FPr7 l (putN l k) c 1 k) (S := fun k => SPu l (putN l k)) (p := k) (k + 1) ⟨hkn, fun j hj => by
        by_cases hjk : j < k
        · exact hfit j hjk
        · have : j = k := by omega
          subst this; exact hm⟩ (by omega) hs
    rw [hnx] at hfin
    have hK2 := hK.2
    simp only [c1, c2, e0, Nat.zero_add, c3, c5, Bool.true_and, br_t, need_t, hw, hx]
    clear hnx hK hok c1 c2 c3 c5 hw hfit
    have hk400 : k < 400 := by omega
    generalize putN l k = b at *
    generalize l.getD k Enc.dflt = x at *
    refine br_of (fun q => Nn.ret (Seen.refl _ _ _) (hK2 (hbad (by simpa using q)))) (fun q => ?_)
    have hm : mayB x = true := by simpa using q
    have hfin := hfin hm
    have hu := uN_lt x.a
    have hu2 := uN_lt x.v.i
    have hu3 := bits_lt hof
    have n2 : (num2 (uN x.a)).length = 2 := rfl
    have b1 : ∀ n : Nat, n ≤ b.length + 13 → Nat.ble n 1000000 = true := fun n h => Nat.ble_eq_true_of_le (by omega)
    have A1 := dvU hu
    have hcast : ∀ n : Nat, Int.ofNat n = (n : Int) := fun _ => rfl
    have hua := uN_cast x.a
    have hui := uN_cast x.v.i
    simp only [hua, hui, hcast, md, A1, need_t, Nat.zero_add, Nat.sub_zero, bleS, Bool.true_and, b1 (b.length + 2) (by omega), b1 (b.length + 2 + 2) (by omega), b1 (b.length + 2 + 2 + 1) (by omega)]
    have hH := (((RowU.enc b).app (RowU.sel2' (IntKind.wrap .u8 x.op) (IntKind.wrap .u8 x.kd))).app (rowH2 (uN x.a))).app (RowU.sel1 (IntKind.wrap .u8 x.n))
    refine br_of (fun q => ?_) (fun q => ?_)
    · have q : x.op = 1 := by simpa using q
      have hv := may_push hm q
      have hin : inBy x = ([w8B x.op, w8B x.kd] ++ num2 (uN x.a) ++ [w8B x.n]) ++ vby x.v.k x.v.i x.v.f := by unfold inBy; rw [if_pos q]
      have fin2 : ∀ (w : Nat) (e : Nat → Nat → Td) (L : List U8), RowU e w L → L.length ≤ 8 → vby x.v.k x.v.i x.v.f = L → ∀ f : AFr, f = mkF 69 [(0, .slice (some ⟨0, 0, some 0⟩) l.length c), (3, .slice (some ⟨1, 0, some 0⟩) (b.length + 2 + 2 + 1 + w) 1), (4, .int .i64 ((k + 1 : Nat) : Int))] → Nn β (fun k : Nat => k ≤ l.length ∧ ∀ j, j < k → mayB (l.getD j Enc.dflt) = true) (fun k => l.length - k) (fun k : Nat => FPr7 l (putN l k) c 1 k) (fun k => SPu l (putN l k)) k K .normal f (mkS [some (.row .look 7 0 l.length (encL l)), some (.row .mine 1 0 (b.length + 2 + 2 + 1 + w) fun j k => mrgT (Nat.blt j (b.length + 2 + 2 + 1)) (mrgT (Nat.blt j (b.length + 2 + 2)) (mrgT (Nat.blt j (b.length + 2)) (mrgT (Nat.blt j b.length) (encL b j k) (selT 1 2 [Td.sc (.int .u8 (IntKind.wrap .u8 x.op)), Td.sc (.int .u8 (IntKind.wrap .u8 x.kd))] (j - b.length) k)) (putT 0 0 [Td.sc (.int .u8 (byU (uN x.a / 256)).v)] (putT 1 0 [Td.sc (.int .u8 (byU (uN x.a)).v)] fun _ => nthT [Td.sc (.int .u8 0)]) (j - (b.length + 2)) k)) (selT 1 1 [Td.sc (.int .u8 (IntKind.wrap .u8 x.n))] (j - (b.length + 2 + 2)) k)) (e (j - (b.length + 2 + 2 + 1)) k))]) := fun w e L hR hL hvb f hf => by
        subst hf
        refine hfin _ _ ?_
        have hG := (hH.app hR).to (m := b.length + 2 + 2 + 1 + w) (M := b ++ inBy x) rfl (by rw [hin, hvb]; simp [w8B])
        have hl2 := hG.len
        unfold FPr7 SPu
        rw [← hl2]
        exact Seen.two rfl rfl (fun _ _ _ h => h) fun ρ s w h => hG.obj ρ s w h
      clear hfin
      generalize x.v.k = vk at *
      have hk5 : vk = 1 ∨ vk = 2 ∨ vk = 3 ∨ vk = 4 ∨ vk = 5 := by omega
      rcases hk5 with rfl | rfl | rfl | rfl | rfl
      · show need (Nat.ble (b.length + 2 + 2 + 1 + 1) 1000000) _
        rw [b1 (b.length + 2 + 2 + 1 + 1) (by omega)]
        exact fin2 1 _ (num1 (uN x.v.i)) (rowH1 _) (by simp [num1]) rfl _ rfl
      · show need (Nat.ble (b.length + 2 + 2 + 1 + 2) 1000000) _
        have B1 := dvU hu2
        simp only [B1, md, b1 (b.length + 2 + 2 + 1 + 2) (by omega), need_t]
        exact fin2 2 _ (num2 (uN x.v.i)) (rowH2 _) (by simp [num2]) rfl _ rfl
      · show need (Nat.ble (b.length + 2 + 2 + 1 + 4) 1000000) _
        have B1 := dvU hu2
        have B2 := dvU (n := uN x.v.i / 256) (by omega)
        have B3 := dvU (n := uN x.v.i / 256 / 256) (by omega)
        simp only [B1, B2, B3, md, b1 (b.length + 2 + 2 + 1 + 4) (by omega), need_t]
        exact fin2 4 _ (num4 (uN x.v.i)) (rowH4 _) (by simp [num4]) rfl _ rfl
      · show need (Nat.ble (b.length + 2 + 2 + 1 + 8) 1000000) _
        have B1 := dvU hu2
        have B2 := dvU (n := uN x.v.i / 256) (by omega)
        have B3 := dvU (n := uN x.v.i / 256 / 256) (by omega)
        have B4 := dvU (n := uN x.v.i / 256 / 256 / 256) (by omega)
        have B5 := dvU (n := uN x.v.i / 256 / 256 / 256 / 256) (by omega)
        have B6 := dvU (n := uN x.v.i / 256 / 256 / 256 / 256 / 256) (by omega)
        have B7 := dvU (n := uN x.v.i / 256 / 256 / 256 / 256 / 256 / 256) (by omega)
        simp only [B1, B2, B3, B4, B5, B6, B7, md, b1 (b.length + 2 + 2 + 1 + 8) (by omega), need_t]
        exact fin2 8 _ (num8 (uN x.v.i)) (rowH8 _) (by simp [num8]) rfl _ rfl
      · show need (Nat.ble (b.length + 2 + 2 + 1 + 8) 1000000) _
        have B1 := dvU hu3
        have B2 := dvU (n := bitsN x.v.f / 256) (by omega)
        have B3 := dvU (n := bitsN x.v.f / 256 / 256) (by omega)
        have B4 := dvU (n := bitsN x.v.f / 256 / 256 / 256) (by omega)
        have B5 := dvU (n := bitsN x.v.f / 256 / 256 / 256 / 256) (by omega)
        have B6 := dvU (n := bitsN x.v.f / 256 / 256 / 256 / 256 / 256) (by omega)
        have B7 := dvU (n := bitsN x.v.f / 256 / 256 / 256 / 256 / 256 / 256) (by omega)
        simp only [B1, B2, B3, B4, B5, B6, B7, md, b1 (b.length + 2 + 2 + 1 + 8) (by omega), need_t]
        exact fin2 8 _ (num8 (bitsN x.v.f)) (rowH8 _) (by simp [num8]) rfl _ rfl
    · have q : ¬ x.op = 1 := by simpa using q
      refine hfin _ _ ?_
      have hin : inBy x = [w8B x.op, w8B x.kd] ++ num2 (uN x.a) ++ [w8B x.n] := by unfold inBy; rw [if_neg q]; simp
      have hG := hH.to (m := b.length + 2 + 2 + 1) (M := b ++ inBy x) rfl (by rw [hin]; simp [w8B])
      have hl2 := hG.len
      unfold FPr7 SPu
      rw [← hl2]
      exact Seen.two rfl rfl (fun _ _ _ h => h) fun ρ s w h => hG.obj ρ s w h
  · have c1 : decide ((k : Int) < Int.ofNat l.length) = false := by simpa using hkn
    have hkn' : k = l.length := by omega
    simp only [c1, br_f]
    subst hkn'
    exact Nn.exit (Seen.refl _ _ _) (hK.1 (by
      rw [List.all_eq_true]
      intro x hx
      obtain ⟨i, hi, rfl⟩ := List.mem_iff_getElem.1 hx
      have := hfit i hi
      simpa [List.getD, hi] using this) 1)
theorem iputr_told : ToldW Try.prog 13 (ok1 In fun l _ => l.all (okA In)) (ans1 In ipA) := by
  refine told1 follows fun l c hl hc hok => ⟨toldB7, 100, 20, fun _ => 0, fun _ => slPr, exPr l c, toldB7_ok, fun β hβ => ?_⟩
  show lawE _ _ _ _ _ _ (cnOf 1 fun _ => slPr) _ _ [.slice (some ⟨0, 0, some 0⟩) l.length c] (mkS [some (rowO .look l)]) (ansE (.ret (.cell (ownL (ipL l) (ipC l)))))
  rw [vc_putr]
  have hnil : ∀ st : ASt, ipG l = false → ansE (.ret (.cell (ownL (ipL l) (ipC l)))) (.returned (.slice none 0 0)) st := fun st h => by
    have e1 : ipL l = [] := by unfold ipL; rw [h]; rfl
    have e2 : ipC l = 1 := by unfold ipC; rw [h]; rfl
    rw [e1, e2]
    exact ⟨[], .inl ⟨rfl, rfl, rfl, rfl⟩, List.nodup_nil⟩
  refine br_of (fun q => hnil _ ?_) (fun q => ?_)
  · have : ¬ l.length ≤ 400 := by simp at q; omega
    unfold ipG; rw [decide_eq_false this]; rfl
  · have h4 : l.length ≤ 400 := by simp at q; omega
    have h0 : IntKind.wrap .u64 (Int.ofNat l.length) = (l.length : Int) := wrap64u (by omega)
    have A1 := dvU (n := l.length) (by omega)
    simp only [h0, A1, md, Nat.zero_add]
    refine ⟨LoopJ.seen ?_ (pr_loop hβ h4 hok), fun hall cb => ?_, fun hall => hnil _ (by unfold ipG; rw [hall, Bool.and_false])⟩
    · refine Seen.two rfl rfl (fun _ _ _ h => h) fun ρ s w h => (rowH2 l.length).obj ρ s w h
    · have hg : ipG l = true := by unfold ipG; rw [hall, decide_eq_true h4]; rfl
      have e1 : ipL l = putN l l.length := by unfold ipL; rw [hg]; rfl
      have hp := (putN_len l l.length).1
      rw [e1]
      exact ⟨[1], .inr (.inl ⟨1, 0, 0, (putN l l.length).length, encL (putN l l.length), cb, rfl, rfl, fun h => by omega, rfl, Nat.le_refl _, by omega, fun i hi j hj => by rw [Nat.zero_add]⟩), by simp⟩
noncomputable def toldB8 : Told := toldB7.tree 13 (ok1 In fun l _ => l.all (okA In)) (ans1 In ipA)
theorem toldB8_ok : ToldS Try.prog toldB8 := Told.tree_ok toldB7_ok iputr_told
end Go.Proofs.Ytncndnlbiijdoaa.Ev

/-! What has to hold: printed by the evaluator. -/
set_option linter.unusedVariables false
set_option maxRecDepth 1000000
namespace Go.Proofs.Ytncndnlbiijdoaa.Ev
open Go Go.Proofs
def slSi : List Nat := [0, 1, 5]
def lvSi : AX → List Nat := fun x => match x with
  | .ret => [4]
  | _ => slSi
def FSi (l m : List In) (c d : Nat) (i : Int) : AFr := mkF 27 [(0, .slice (some ⟨0, 0, some 0⟩) l.length c), (1, .slice (some ⟨1, 0, some 0⟩) m.length d), (5, .int .i64 i)]
def SSi (l m : List In) : ASt := mkS [some (rowO .look l), some (rowO .look m)]
def FSir (q : Bool) : AFr := mkF 27 [(4, .bool q)]
def sameIn (a b : In) : Bool := decide (a.op = b.op) && decide (a.kd = b.kd) && decide (a.a = b.a) && decide (a.n = b.n) && decide (a.v.k = b.v.k) && decide (a.v.i = b.v.i) && sameN a.v.f b.v.f
def sameIs (l m : List In) : Bool := decide (l.length = m.length) && (List.range l.length).all fun i => sameIn (l.getD i Enc.dflt) (m.getD i Enc.dflt)
def exSi (l m : List In) (c d : Nat) : Nat → Kt → Prop := fun b K => (sameIs l m = true → K (.exit b) (FSi l m c d l.length) (SSi l m)) ∧ (sameIs l m = false → K .ret (FSir false) (SSi l m))
def shpSi (l m : List In) (c d : Nat) (i' : Int) : AFr × ASt := (FSi l m c d i', SSi l m)
def shpSir (l m : List In) (q' : Bool) : AFr × ASt := (FSir q', SSi l m)
theorem vc_si (l m : List In) (c d : Nat) (β : Bs) (K : AE → Prop) : lawE Try.prog toldB8 100 20 β (fun _ => 0) (cnOf 2 fun _ => slSi) (exSi l m c d) 14 [.slice (some ⟨0, 0, some 0⟩) l.length c, .slice (some ⟨1, 0, some 0⟩) m.length d] (mkS [some (rowO .look l), some (rowO .look m)]) (fun r _ => K r) =
(  br (Int.ofNat (List.length l) != Int.ofNat (List.length m)) (K (AE.returned (Value.bool false)))
  (LoopJ Try.prog β (exSi l m c d) 0 (loopOf Try.prog 14 0) (FSi l m c d (0 : Int))
  (SSi l m) ∧
  (sameIs l m = true → K (AE.returned (Value.bool true))) ∧ (sameIs l m = false → K (AE.returned (Value.bool false))))) := by kernel_rfl
theorem vc_si_r (l m : List In) (c d : Nat) (i : Int) (β : Bs) (N : Kt) (ex : Nat → Kt → Prop) : roundJ Try.prog toldB8 100 20 β (fun _ => 0) (cnOf 2 fun _ => slSi) ex 14 0 2 lvSi (FSi l m c d i) (SSi l m) N =
(  br (decide (i < Int.ofNat (List.length l)))
  (need (decide ((0 : Int) ≤ i))
  (need (Nat.blt (Int.toNat i) (List.length l))
  (need (Nat.ble 0 (0 + Int.toNat i) && Nat.blt (0 + Int.toNat i) (List.length l))
  (need (decide ((0 : Int) ≤ i))
  (need (Nat.blt (Int.toNat i) (List.length m))
  (need (Nat.ble 0 (0 + Int.toNat i) && Nat.blt (0 + Int.toNat i) (List.length m))
  (br
  (In.op (List.getD l (0 + Int.toNat i) Enc.dflt) ==
  In.op (List.getD m (0 + Int.toNat i) Enc.dflt))
  (br
  (In.kd (List.getD l (0 + Int.toNat i) Enc.dflt) ==
  In.kd (List.getD m (0 + Int.toNat i) Enc.dflt))
  (br
  (In.a (List.getD l (0 + Int.toNat i) Enc.dflt) ==
  In.a (List.getD m (0 + Int.toNat i) Enc.dflt))
  (br
  (In.n (List.getD l (0 + Int.toNat i) Enc.dflt) ==
  In.n (List.getD m (0 + Int.toNat i) Enc.dflt))
  (br
  (Vl.k (In.v (List.getD l (0 + Int.toNat i) Enc.dflt)) ==
  Vl.k (In.v (List.getD m (0 + Int.toNat i) Enc.dflt)))
  (br
  (Vl.i (In.v (List.getD l (0 + Int.toNat i) Enc.dflt)) ==
  Vl.i (In.v (List.getD m (0 + Int.toNat i) Enc.dflt)))
  (br
  (!sameN (Vl.f (In.v (List.getD l (0 + Int.toNat i) Enc.dflt)))
  (Vl.f (In.v (List.getD m (0 + Int.toNat i) Enc.dflt))))
  (onP N AX.ret (shpSir l m false))
  (onP N AX.normal (shpSi l m c d (IntKind.wrap IntKind.i64 (i + (1 : Int))))))
  (onP N AX.ret (shpSir l m false)))
  (onP N AX.ret (shpSir l m false)))
  (onP N AX.ret (shpSir l m false)))
  (onP N AX.ret (shpSir l m false)))
  (onP N AX.ret (shpSir l m false)))
  (onP N AX.ret (shpSir l m false)))))))))
  (onP N (AX.exit 0) (shpSi l m c d i))) := by kernel_rfl
end Go.Proofs.Ytncndnlbiijdoaa.Ev

/-! ref7.SameInsts: told to the evaluator; what bytes tell of instructions. -/
set_option linter.unusedVariables false
set_option linter.unusedSimpArgs false
set_option maxRecDepth 100000
namespace Go.Proofs.Ytncndnlbiijdoaa.Ev
open Go Go.Proofs Go.RowKit

theorem sameIs_iff (l m : List In) (h : l.length = m.length) : sameIs l m = true ↔ ∀ i, i < l.length → sameIn (l.getD i Enc.dflt) (m.getD i Enc.dflt) = true := by
  unfold sameIs
  rw [decide_eq_true h, Bool.true_and, List.all_eq_true]
  exact ⟨fun h j hj => h j (List.mem_range.2 hj), fun h j hj => h j (List.mem_range.1 hj)⟩
theorem sameN_iff (a b : Nat) : sameN a b = true ↔ bitsN a = bitsN b := by simp [sameN]
theorem sameIn_iff (a b : In) : sameIn a b = true ↔ a.op = b.op ∧ a.kd = b.kd ∧ a.a = b.a ∧ a.n = b.n ∧ a.v.k = b.v.k ∧ a.v.i = b.v.i ∧ bitsN a.v.f = bitsN b.v.f := by
  unfold sameIn
  simp only [Bool.and_eq_true, decide_eq_true_eq, sameN_iff]
  constructor
  · rintro ⟨⟨⟨⟨⟨⟨h1, h2⟩, h3⟩, h4⟩, h5⟩, h6⟩, h7⟩; exact ⟨h1, h2, h3, h4, h5, h6, h7⟩
  · rintro ⟨h1, h2, h3, h4, h5, h6, h7⟩; exact ⟨⟨⟨⟨⟨⟨h1, h2⟩, h3⟩, h4⟩, h5⟩, h6⟩, h7⟩
/-- element by element -/
def sameP : List In → List In → Prop
  | [], [] => True
  | x :: l, y :: m => sameIn x y = true ∧ sameP l m
  | _, _ => False
theorem sameP_iff : ∀ (l m : List In), sameIs l m = true ↔ sameP l m := by
  intro l
  induction l with
  | nil =>
    intro m
    cases m with
    | nil => exact ⟨fun _ => trivial, fun _ => rfl⟩
    | cons => exact ⟨fun h => by simp [sameIs] at h, fun h => h.elim⟩
  | cons x l ih =>
    intro m
    cases m with
    | nil => exact ⟨fun h => by simp [sameIs] at h, fun h => h.elim⟩
    | cons y m =>
      show _ ↔ sameIn x y = true ∧ sameP l m
      rw [← ih m]
      constructor
      · intro h
        have hl : (x :: l).length = (y :: m).length := by unfold sameIs at h; rw [Bool.and_eq_true] at h; exact of_decide_eq_true h.1
        have h2 := (sameIs_iff _ _ hl).1 h
        have hl' : l.length = m.length := by simpa using hl
        refine ⟨h2 0 (by simp), (sameIs_iff _ _ hl').2 fun i hi => ?_⟩
        have := h2 (i + 1) (by simp; omega)
        simpa [List.getD] using this
      · rintro ⟨h1, h2⟩
        have hl' : l.length = m.length := by unfold sameIs at h2; rw [Bool.and_eq_true] at h2; exact of_decide_eq_true h2.1
        have h3 := (sameIs_iff _ _ hl').1 h2
        refine (sameIs_iff _ _ (by simp [hl'])).2 fun i hi => ?_
        cases i with
        | zero => simpa [List.getD] using h1
        | succ i =>
          have := h3 i (by simpa using hi)
          simpa [List.getD] using this
theorem sameP_refl : ∀ (l : List In), sameP l l := by
  intro l
  induction l with
  | nil => trivial
  | cons x l ih => exact ⟨(sameIn_iff _ _).2 ⟨rfl, rfl, rfl, rfl, rfl, rfl, rfl⟩, ih⟩
theorem sameP_len : ∀ {l m : List In}, sameP l m → l.length = m.length := by
  intro l
  induction l with
  | nil => intro m h; cases m with
    | nil => rfl
    | cons => exact h.elim
  | cons x l ih => intro m h; cases m with
    | nil => exact h.elim
    | cons y m => simp [ih h.2]
theorem si_round {l m : List In} {c d : Nat} {β : Bs} (hβ : β.X.length = 2) (hn : l.length = m.length) (hn6 : l.length ≤ 1000000) (K : Kt) (h1 : sameIs l m = true → K (.exit 0) (FSi l m c d l.length) (SSi l m)) (h2 : sameIs l m = false → K .ret (FSir false) (SSi l m)) (k : Nat) (hk : k ≤ l.length ∧ ∀ j, j < k → sameIn (l.getD j Enc.dflt) (m.getD j Enc.dflt) = true) :
    J Try.prog β (loopOf Try.prog 14 0) (FSi l m c d k) (SSi l m) (Nn β (fun k : Nat => k ≤ l.length ∧ ∀ j, j < k → sameIn (l.getD j Enc.dflt) (m.getD j Enc.dflt) = true) (fun k => l.length - k) (fun k => FSi l m c d k) (fun _ => SSi l m) k K) := by
  refine roundJ_ok (E := 2) (lvs := fun _ => slSi) (un := fun _ => 0) (fuel := 100) (n := 20) (ex := fun _ _ => False) follows toldB8_ok hβ (lv := lvSi) ?_
  rw [vc_si_r]
  by_cases hkn : k < l.length
  · have c1 : decide ((k : Int) < Int.ofNat l.length) = true := by simpa using hkn
    have c2 : decide ((0 : Int) ≤ (k : Int)) = true := by simp
    have e0 : Int.toNat (k : Int) = k := Int.toNat_natCast k
    have c3 : Nat.blt k l.length = true := by simpa using hkn
    have c4 : Nat.blt k m.length = true := by rw [← hn]; exact c3
    have c5 : Nat.ble 0 k = true := by simp
    have hw : IntKind.wrap .i64 ((k : Int) + 1) = ((k + 1 : Nat) : Int) := w64 (by omega) (by omega)
    have hbad : sameIn (l.getD k Enc.dflt) (m.getD k Enc.dflt) = false → onP (Nn β (fun k : Nat => k ≤ l.length ∧ ∀ j, j < k → sameIn (l.getD j Enc.dflt) (m.getD j Enc.dflt) = true) (fun k => l.length - k) (fun k => FSi l m c d k) (fun _ => SSi l m) k K) .ret (shpSir l m false) := fun h =>
      Nn.ret (Seen.refl _ _ _) (h2 (by
        cases hq : sameIs l m with
        | false => rfl
        | true => have := (sameIs_iff l m hn).1 hq k hkn; rw [h] at this; cases this))
    have hgood : sameIn (l.getD k Enc.dflt) (m.getD k Enc.dflt) = true → onP (Nn β (fun k : Nat => k ≤ l.length ∧ ∀ j, j < k → sameIn (l.getD j Enc.dflt) (m.getD j Enc.dflt) = true) (fun k => l.length - k) (fun k => FSi l m c d k) (fun _ => SSi l m) k K) .normal (shpSi l m c d ((k + 1 : Nat) : Int)) := fun h =>
      Nn.next (k + 1) ⟨hkn, fun j hj => by
        by_cases hjk : j < k
        · exact hk.2 j hjk
        · have : j = k := by omega
          subst this; exact h⟩ (by omega) (Seen.refl _ _ _)
    simp only [c1, c2, e0, Nat.zero_add, c3, c4, c5, Bool.true_and, br_t, need_t, hw]
    generalize l.getD k Enc.dflt = a at hbad hgood ⊢
    generalize m.getD k Enc.dflt = b at hbad hgood ⊢
    have hs : sameIn a b = (decide (a.op = b.op) && decide (a.kd = b.kd) && decide (a.a = b.a) && decide (a.n = b.n) && decide (a.v.k = b.v.k) && decide (a.v.i = b.v.i) && sameN a.v.f b.v.f) := rfl
    have hd : ∀ x y : Int, (x == y) = decide (x = y) := fun x y => by rw [Bool.eq_iff_iff]; simp
    simp only [hd]
    refine br_of (fun q1 => ?_) (fun q1 => hbad (by rw [hs, q1]; simp))
    refine br_of (fun q2 => ?_) (fun q2 => hbad (by rw [hs, q2]; simp))
    refine br_of (fun q3 => ?_) (fun q3 => hbad (by rw [hs, q3]; simp))
    refine br_of (fun q4 => ?_) (fun q4 => hbad (by rw [hs, q4]; simp))
    refine br_of (fun q5 => ?_) (fun q5 => hbad (by rw [hs, q5]; simp))
    refine br_of (fun q6 => ?_) (fun q6 => hbad (by rw [hs, q6]; simp))
    refine br_of (fun q7 => hbad ?_) (fun q7 => hgood ?_)
    · rw [Bool.not_eq_true'] at q7
      rw [hs, q7, Bool.and_false]
    · rw [Bool.not_eq_false'] at q7
      rw [hs, q1, q2, q3, q4, q5, q6, q7]; rfl
  · have c1 : decide ((k : Int) < Int.ofNat l.length) = false := by simpa using hkn
    have hkn' : k = l.length := by omega
    simp only [c1, br_f]
    subst hkn'
    exact Nn.exit (Seen.refl _ _ _) (h1 ((sameIs_iff l m hn).2 hk.2))
theorem si_told : ToldW Try.prog 14 (ok2 In In fun _ _ _ _ => true) (ans2 In In fun l _ m _ => bAns (sameIs l m)) := by
  refine told2 follows fun l c m d hl hc hm hd _ => ⟨toldB8, 100, 20, fun _ => 0, fun _ => slSi, exSi l m c d, toldB8_ok, fun β hβ => ?_⟩
  show lawE _ _ _ _ _ _ (cnOf 2 fun _ => slSi) _ _ _ _ _
  have hK : ∀ b, sameIs l m = b → ansE (bAns (sameIs l m)) (.returned (.bool b)) st0 := fun b hb => by subst hb; exact bAns_ok _ _
  rw [bAns_any, vc_si l m c d β fun r => ansE (bAns (sameIs l m)) r st0]
  refine br_of (fun h => ?_) (fun h => ⟨?_, fun h1 => hK true h1, fun h1 => hK false h1⟩)
  · have : ¬ l.length = m.length := by simp at h; omega
    exact hK false (by simp only [sameIs]; rw [decide_eq_false this, Bool.false_and])
  · have hn : l.length = m.length := by simp at h; omega
    exact loop_rule (fun k : Nat => k ≤ l.length ∧ ∀ j, j < k → sameIn (l.getD j Enc.dflt) (m.getD j Enc.dflt) = true) (fun k => FSi l m c d k) (fun _ => SSi l m) (fun k => l.length - k) (fun k hk K hK => si_round hβ hn hl K hK.1 hK.2 k hk) 0 ⟨Nat.zero_le _, fun j hj => by omega⟩
noncomputable def toldB9 : Told := toldB8.tree 14 (ok2 In In fun _ _ _ _ => true) (ans2 In In fun l _ m _ => bAns (sameIs l m))
theorem toldB9_ok : ToldS Try.prog toldB9 := Told.tree_ok toldB8_ok si_told
end Go.Proofs.Ytncndnlbiijdoaa.Ev

/-! What bytes tell of instructions. -/
set_option linter.unusedVariables false
set_option linter.unusedSimpArgs false
set_option maxRecDepth 100000
namespace Go.Proofs.Ytncndnlbiijdoaa.Ev
open Go Go.Proofs Go.RowKit

theorem byU_inj {a b : Nat} : byU a = byU b ↔ a % 256 = b % 256 := by
  unfold byU
  constructor
  · intro h; injection h with h; omega
  · intro h; rw [h]
theorem num2_inj {a b : Nat} (h : num2 a = num2 b) : a % 65536 = b % 65536 := by
  simp only [num2, List.cons.injEq, byU_inj, and_true] at h
  omega
theorem num4_inj {a b : Nat} (h : num4 a = num4 b) : a % 4294967296 = b % 4294967296 := by
  simp only [num4, List.cons.injEq, byU_inj, and_true] at h
  omega
theorem num8_inj {a b : Nat} (h : num8 a = num8 b) : a % 18446744073709551616 = b % 18446744073709551616 := by
  simp only [num8, List.cons.injEq, byU_inj, and_true] at h
  omega
theorem w8B_inj {a b : Int} (h : w8B a = w8B b) : a % 256 = b % 256 := by
  have := congrArg U8.v h
  rw [← wr8, ← wr8]; exact this
theorem uN_int (i : Int) : ((uN i : Nat) : Int) = i % 18446744073709551616 := by
  rw [← uN_cast]
  unfold IntKind.wrap
  simp [IntKind.signed, IntKind.bits]
theorem may_inv {x : In} (h : mayB x = true) : 1 ≤ x.op ∧ x.op ≤ 23 ∧ 0 ≤ x.kd ∧ x.kd ≤ 12 ∧ 0 ≤ x.a ∧ x.a ≤ 399 ∧ 0 ≤ x.n ∧ x.n ≤ 8 ∧ (x.op = 1 → x.kd = x.v.k ∧ valP x.v.k x.v.i x.v.f) ∧ (x.op ≠ 1 → x.v.k = 0 ∧ x.v.i = 0 ∧ bitsN x.v.f = 0) := by
  have h := of_decide_eq_true h
  unfold mayP at h
  rcases h with ⟨h1, h2, h3, h4, h5⟩ | ⟨h1, h2, h3, h4⟩
  · have hv := (valN_iff _ _ _).1 h5
    have hk : 1 ≤ x.v.k ∧ x.v.k ≤ 5 := by unfold valP at hv; omega
    exact ⟨by omega, by omega, by omega, by omega, by omega, by omega, by omega, by omega, fun _ => ⟨h4, hv⟩, fun h => absurd h1 h⟩
  · have hb : x.op ≠ 1 ∧ 1 ≤ x.op ∧ x.op ≤ 23 ∧ 0 ≤ x.kd ∧ x.kd ≤ 12 ∧ 0 ≤ x.a ∧ x.a ≤ 399 ∧ 0 ≤ x.n ∧ x.n ≤ 8 := by
      rcases h4 with h | h | h | h | h | h | h <;> omega
    exact ⟨hb.2.1, hb.2.2.1, hb.2.2.2.1, hb.2.2.2.2.1, hb.2.2.2.2.2.1, hb.2.2.2.2.2.2.1, hb.2.2.2.2.2.2.2.1, hb.2.2.2.2.2.2.2.2, fun h => absurd h hb.1, fun _ => ⟨h1, h2, h3⟩⟩
theorem vby_len (k i i' : Int) (f f' : Nat) : (vby k i f).length = (vby k i' f').length := by
  unfold vby numW
  split <;> rfl
theorem vby_inj {k i i' : Int} {f f' : Nat} (hv : valP k i f) (hv' : valP k i' f') (h1 : f < 18446744073709551616) (h2 : f' < 18446744073709551616) (hi : -9223372036854775808 ≤ i ∧ i < 9223372036854775808) (hi' : -9223372036854775808 ≤ i' ∧ i' < 9223372036854775808) (h : vby k i f = vby k i' f') : i = i' ∧ bitsN f = bitsN f' := by
  have u1 := uN_int i
  have u2 := uN_int i'
  have b1 := bits_lt h1
  have b2 := bits_lt h2
  unfold valP at hv hv'
  have hk : k = 1 ∨ k = 2 ∨ k = 3 ∨ k = 4 ∨ k = 5 := by omega
  rcases hk with rfl | rfl | rfl | rfl | rfl
  · have h : num1 (uN i) = num1 (uN i') := h
    simp only [num1, List.cons.injEq, byU_inj, and_true] at h
    omega
  · have h := num2_inj (show num2 (uN i) = num2 (uN i') from h)
    omega
  · have h := num4_inj (show num4 (uN i) = num4 (uN i') from h)
    omega
  · have h := num8_inj (show num8 (uN i) = num8 (uN i') from h)
    omega
  · have h := num8_inj (show num8 (bitsN f) = num8 (bitsN f') from h)
    omega
theorem inBy_inj {x y : In} {r s : List U8} (hx : mayB x = true) (hy : mayB y = true) (fx : inFit x = true) (fy : inFit y = true) (h : inBy x ++ r = inBy y ++ s) : sameIn x y = true ∧ r = s := by
  obtain ⟨x1, x2, x3, x4, x5, x6, x7, x8, x9, x10⟩ := may_inv hx
  obtain ⟨y1, y2, y3, y4, y5, y6, y7, y8, y9, y10⟩ := may_inv hy
  obtain ⟨f1, f2, f3⟩ := (inFit_iff _).1 fx
  obtain ⟨g1, g2, g3⟩ := (inFit_iff _).1 fy
  have u1 := uN_int x.a
  have u2 := uN_int y.a
  unfold inBy num2 at h
  simp only [List.cons_append, List.nil_append, List.append_assoc, List.cons.injEq] at h
  obtain ⟨h0, h1, h2, h3, h4, ht⟩ := h
  have h0 := w8B_inj h0
  have h1 := w8B_inj h1
  have h4 := w8B_inj h4
  rw [byU_inj] at h2 h3
  have e0 : x.op = y.op := by omega
  have e1 : x.kd = y.kd := by omega
  have e2 : x.a = y.a := by omega
  have e4 : x.n = y.n := by omega
  by_cases ho : x.op = 1
  · have ho' : y.op = 1 := by omega
    rw [if_pos ho, if_pos ho'] at ht
    obtain ⟨k1, v1⟩ := x9 ho
    obtain ⟨k2, v2⟩ := y9 ho'
    have ek : x.v.k = y.v.k := by omega
    rw [ek] at ht v1
    obtain ⟨ha, hb⟩ := List.append_inj ht (vby_len _ _ _ _ _)
    obtain ⟨ei, ef⟩ := vby_inj v1 v2 f1 g1 ⟨f2, f3⟩ ⟨g2, g3⟩ ha
    exact ⟨(sameIn_iff _ _).2 ⟨e0, e1, e2, e4, ek, ei, ef⟩, hb⟩
  · have ho' : ¬ y.op = 1 := by omega
    rw [if_neg ho, if_neg ho'] at ht
    obtain ⟨k1, k2, k3⟩ := x10 ho
    obtain ⟨l1, l2, l3⟩ := y10 ho'
    exact ⟨(sameIn_iff _ _).2 ⟨e0, e1, e2, e4, by omega, by omega, by omega⟩, by simpa using ht⟩
theorem inBy_same {x y : In} (h : sameIn x y = true) : inBy x = inBy y := by
  obtain ⟨h1, h2, h3, h4, h5, h6, h7⟩ := (sameIn_iff _ _).1 h
  unfold inBy vby vnum
  rw [h1, h2, h3, h4, h5, h6, h7]
theorem flat_inj : ∀ {l m : List In} {r s : List U8}, l.length = m.length → l.all mayB = true → m.all mayB = true → l.all inFit = true → m.all inFit = true → l.flatMap inBy ++ r = m.flatMap inBy ++ s → sameP l m ∧ r = s := by
  intro l
  induction l with
  | nil =>
    intro m r s hl _ _ _ _ h
    cases m with
    | nil => exact ⟨trivial, h⟩
    | cons => simp at hl
  | cons x l ih =>
    intro m r s hl h1 h2 h3 h4 h
    cases m with
    | nil => simp at hl
    | cons y m =>
      simp only [List.all_cons, Bool.and_eq_true] at h1 h2 h3 h4
      simp only [List.flatMap_cons, List.append_assoc] at h
      obtain ⟨e1, e2⟩ := inBy_inj h1.1 h2.1 h3.1 h4.1 h
      obtain ⟨e3, e4⟩ := ih (by simpa using hl) h1.2 h2.2 h3.2 h4.2 e2
      exact ⟨⟨e1, e3⟩, e4⟩
theorem flat_same : ∀ {l m : List In}, sameP l m → l.flatMap inBy = m.flatMap inBy := by
  intro l
  induction l with
  | nil => intro m h; cases m with
    | nil => rfl
    | cons => exact h.elim
  | cons x l ih => intro m h; cases m with
    | nil => exact h.elim
    | cons y m => rw [List.flatMap_cons, List.flatMap_cons, inBy_same h.1, ih h.2]
theorem putN_flat (l : List In) : ∀ k, k ≤ l.length → putN l k = num2 l.length ++ (l.take k).flatMap inBy := by
  intro k
  induction k with
  | zero => intro _; simp [putN]
  | succ k ih =>
    intro hk
    rw [take_succ (show k < l.length by omega) (Enc.dflt : In)]
    simp only [putN, ih (by omega), List.flatMap_append, List.append_assoc]
    simp
theorem put_flat (l : List In) : putN l l.length = num2 l.length ++ l.flatMap inBy := by
  have := putN_flat l l.length (Nat.le_refl _)
  rw [List.take_length] at this
  exact this
/-- bytes of what may be tell what it is, whatever stands behind them -/
theorem put_inj {l m : List In} {r s : List U8} (hl : l.length ≤ 400) (hm : m.length ≤ 400) (h1 : l.all mayB = true) (h2 : m.all mayB = true) (h3 : l.all inFit = true) (h4 : m.all inFit = true) (h : putN l l.length ++ r = putN m m.length ++ s) : sameP l m ∧ r = s := by
  rw [put_flat, put_flat, List.append_assoc, List.append_assoc] at h
  obtain ⟨ha, hb⟩ := List.append_inj h rfl
  have := num2_inj ha
  exact flat_inj (by omega) h1 h2 h3 h4 hb
theorem put_same {l m : List In} (h : sameP l m) : putN l l.length = putN m m.length := by
  rw [put_flat, put_flat, sameP_len h, flat_same h]
end Go.Proofs.Ytncndnlbiijdoaa.Ev
