/-
  RealAll: what has to hold, printed by the evaluator.
-/
import Derived.Test.YtokpobfimphhgaaRealT
set_option linter.unusedVariables false
set_option maxRecDepth 1000000
namespace Go.Proofs.Ytokpobfimphhgaa.Ev
open Go Go.Proofs
def onP (N : Kt) (x : AX) (p : AFr × ASt) : Prop := N x p.1 p.2
structure RA where
  op : Int
  u : Int
  a : Nat
  b : Nat
  c : Nat
def slR1 : List Nat := [0, 1, 9, 10, 11, 12]
def slR2 : List Nat := [1, 9, 10, 11, 20]
def slRX : List Nat := [1, 9, 10, 11]
def lvR : Nat → List Nat := fun b => cond (Nat.beq b 0) slR1 slR2
def F1 (p : RA) (n : Int) : AFr := mkF 126 [(0, .int .i64 p.op), (1, .int .u64 p.u), (9, .float .f64 p.a), (10, .float .f64 p.b), (11, .float .f64 p.c), (12, .int .i64 n)]
def F2 (p : RA) (n : Int) : AFr := mkF 126 [(1, .int .u64 p.u), (9, .float .f64 p.a), (10, .float .f64 p.b), (11, .float .f64 p.c), (20, .int .i64 n)]
def FX (p : RA) : AFr := mkF 126 [(1, .int .u64 p.u), (9, .float .f64 p.a), (10, .float .f64 p.b), (11, .float .f64 p.c)]
def lv1 : AX → List Nat := fun x => match x with
  | .normal => slR1
  | _ => slRX
def lv2 : AX → List Nat := fun x => match x with
  | .normal => slR2
  | _ => slRX
def exRA (p : RA) : Nat → Kt → Prop := fun b K => K (.exit b) (FX p) (mkS [])
def shpX (p : RA) : AFr × ASt := (FX p, mkS [])
def shp1 (p : RA) (i' : Int) : AFr × ASt := (F1 p i', mkS [])
def shp2 (p : RA) (i' : Int) : AFr × ASt := (F2 p i', mkS [])
theorem vc_ra (op u v w : Int) (p : RA) (β : Bs) : lawJ Try.prog toldF 100 20 β (fun _ => 0) (cnOf 0 lvR) (exRA p) 3 [.int .i64 op, .int .u64 u, .int .u64 v, .int .u64 w] st0 trueV =
(  LoopJ Try.prog β (exRA p) 0 (loopOf Try.prog 3 0)
  (mkF 126
  [(0, Value.int IntKind.i64 op), (1, Value.int IntKind.u64 u),
  (9, Value.float FloatKind.f64 (Int.toNat u)), (10, Value.float FloatKind.f64 (Int.toNat v)),
  (11, Value.float FloatKind.f64 (Int.toNat w)), (12, Value.int IntKind.i64 (0 : Int))])
  (mkS []) ∧
  LoopJ Try.prog β (exRA p) 2 (loopOf Try.prog 3 2) (F2 p (0 : Int)) (mkS []) ∧
  need (Int.ofNat (bitsN (RA.a p)) == Int.ofNat (bitsN (RA.a p)))
  (need (sameN (Int.toNat (RA.u p)) (RA.a p))
  (need (sameN (RA.a p) (RA.b p) == sameN (RA.a p) (RA.b p))
  (need (beN (RA.a p) (RA.b p) (RA.c p) == beN (RA.a p) (RA.b p) (RA.c p)) True)))) := by kernel_rfl
theorem vc_ra1 (p : RA) (n : Int) (β : Bs) (N : Kt) (ex : Nat → Kt → Prop) : roundJ Try.prog toldF 100 20 β (fun _ => 0) (cnOf 0 lvR) ex 3 0 0 lv1 (F1 p n) (mkS []) N =
(  br (decide (n < (20 : Int)))
  (br (n == (0 : Int))
  (br (!sameN (doF (RA.op p) (RA.a p) (RA.b p)) (doF (RA.op p) (RA.a p) (RA.b p))) (onP N AX.ret (shpX p))
  (br (!doT (RA.op p) (RA.a p) (RA.b p) == doT (RA.op p) (RA.a p) (RA.b p)) (onP N AX.ret (shpX p))
  (br (!doO (RA.op p) == doO (RA.op p)) (onP N AX.ret (shpX p))
  (onP N AX.normal (shp1 p (IntKind.wrap IntKind.i64 (n + (1 : Int))))))))
  (br (!sameN (doF n (RA.a p) (RA.b p)) (doF n (RA.a p) (RA.b p))) (onP N AX.ret (shpX p))
  (br (!doT n (RA.a p) (RA.b p) == doT n (RA.a p) (RA.b p)) (onP N AX.ret (shpX p))
  (br (!doO n == doO n) (onP N AX.ret (shpX p))
  (onP N AX.normal (shp1 p (IntKind.wrap IntKind.i64 (n + (1 : Int)))))))))
  (onP N (AX.exit 0) (shpX p))) := by kernel_rfl
theorem vc_ra2 (p : RA) (n : Int) (β : Bs) (N : Kt) (ex : Nat → Kt → Prop) : roundJ Try.prog toldF 100 20 β (fun _ => 0) (cnOf 0 lvR) ex 3 2 0 lv2 (F2 p n) (mkS []) N =
(  br (decide (n < (7 : Int)))
  (br (whI n (RA.a p) != whI n (RA.a p)) (onP N AX.ret (shpX p))
  (br (whE n (RA.a p) != whE n (RA.a p)) (onP N AX.ret (shpX p))
  (onP N AX.normal (shp2 p (IntKind.wrap IntKind.i64 (n + (1 : Int)))))))
  (onP N (AX.exit 2) (shpX p))) := by kernel_rfl
end Go.Proofs.Ytokpobfimphhgaa.Ev
