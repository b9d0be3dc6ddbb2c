/-
  What has to hold: printed by the evaluator.
-/
import Derived.Test.YtokpobfimphhgaaRealT
set_option linter.unusedVariables false
set_option maxRecDepth 1000000
namespace Go.Proofs.Ytokpobfimphhgaa.Ev
open Go Go.Proofs
def lvW : Nat → List Nat := fun _ => []
theorem vc_rw (u v : Int) (β : Bs) : lawJ Try.prog toldF 100 20 β (fun _ => 0) (cnOf 0 lvW) (fun _ _ => False) 5 [.int .u64 u, .int .i32 v] st0 trueV =
(  br (Ieee.Format.order (FloatKind.format FloatKind.f64) (Int.toNat u) (Int.toNat u) != some Ordering.eq)
  (br (whE (4 : Int) (Int.toNat u) != (7 : Int)) False
  (br (whI (4 : Int) (Int.toNat u) != (0 : Int)) False
  (need (whE (3 : Int) (FloatKind.nearest FloatKind.f64 v) == (0 : Int))
  (need (whI (3 : Int) (FloatKind.nearest FloatKind.f64 v) == IntKind.wrap IntKind.i64 v)
  (br (decide (v ≥ (-32768 : Int)))
  (need ((whE (2 : Int) (FloatKind.nearest FloatKind.f64 v) == (0 : Int)) == decide (v ≤ (32767 : Int))) True)
  (need ((whE (2 : Int) (FloatKind.nearest FloatKind.f64 v) == (0 : Int)) == false) True))))))
  (br
  (Ieee.Format.order (FloatKind.format FloatKind.f64) (Int.toNat u) 4890909195324358656 == some Ordering.gt ||
  Ieee.Format.order (FloatKind.format FloatKind.f64) (Int.toNat u) 4890909195324358656 == some Ordering.eq)
  (br (whE (4 : Int) (Int.toNat u) != (7 : Int)) False
  (br (whI (4 : Int) (Int.toNat u) != (0 : Int)) False
  (need (whE (3 : Int) (FloatKind.nearest FloatKind.f64 v) == (0 : Int))
  (need (whI (3 : Int) (FloatKind.nearest FloatKind.f64 v) == IntKind.wrap IntKind.i64 v)
  (br (decide (v ≥ (-32768 : Int)))
  (need ((whE (2 : Int) (FloatKind.nearest FloatKind.f64 v) == (0 : Int)) == decide (v ≤ (32767 : Int)))
  True)
  (need ((whE (2 : Int) (FloatKind.nearest FloatKind.f64 v) == (0 : Int)) == false) True))))))
  (br
  (Ieee.Format.order (FloatKind.format FloatKind.f64) (Int.toNat u) 14114281232179134464 ==
  some Ordering.lt)
  (br (whE (4 : Int) (Int.toNat u) != (7 : Int)) False
  (br (whI (4 : Int) (Int.toNat u) != (0 : Int)) False
  (need (whE (3 : Int) (FloatKind.nearest FloatKind.f64 v) == (0 : Int))
  (need (whI (3 : Int) (FloatKind.nearest FloatKind.f64 v) == IntKind.wrap IntKind.i64 v)
  (br (decide (v ≥ (-32768 : Int)))
  (need ((whE (2 : Int) (FloatKind.nearest FloatKind.f64 v) == (0 : Int)) == decide (v ≤ (32767 : Int)))
  True)
  (need ((whE (2 : Int) (FloatKind.nearest FloatKind.f64 v) == (0 : Int)) == false) True))))))
  (br (whE (4 : Int) (Int.toNat u) != (0 : Int)) False
  (br
  (Ieee.Format.order (FloatKind.format FloatKind.f64)
  (FloatKind.nearest FloatKind.f64 (whI (4 : Int) (Int.toNat u))) (Int.toNat u) ==
  some Ordering.gt)
  (br
  (Ieee.Format.order (FloatKind.format FloatKind.f64) (Int.toNat u) 0 == some Ordering.gt ||
  Ieee.Format.order (FloatKind.format FloatKind.f64) (Int.toNat u) 0 == some Ordering.eq)
  False
  (br
  (Ieee.Format.order (FloatKind.format FloatKind.f64)
  (FloatKind.nearest FloatKind.f64 (whI (4 : Int) (Int.toNat u))) (Int.toNat u) ==
  some Ordering.lt)
  (br (Ieee.Format.order (FloatKind.format FloatKind.f64) (Int.toNat u) 0 == some Ordering.lt) False
  (br
  (Ieee.Format.order (FloatKind.format FloatKind.f64)
  (ariR FloatKind.f64 BinOp.sub (Int.toNat u)
  (FloatKind.nearest FloatKind.f64 (whI (4 : Int) (Int.toNat u))))
  4607182418800017408 ==
  some Ordering.gt ||
  Ieee.Format.order (FloatKind.format FloatKind.f64)
  (ariR FloatKind.f64 BinOp.sub (Int.toNat u)
  (FloatKind.nearest FloatKind.f64 (whI (4 : Int) (Int.toNat u))))
  4607182418800017408 ==
  some Ordering.eq)
  False
  (br
  (Ieee.Format.order (FloatKind.format FloatKind.f64)
  (ariR FloatKind.f64 BinOp.sub (FloatKind.nearest FloatKind.f64 (whI (4 : Int) (Int.toNat u)))
  (Int.toNat u))
  4607182418800017408 ==
  some Ordering.gt ||
  Ieee.Format.order (FloatKind.format FloatKind.f64)
  (ariR FloatKind.f64 BinOp.sub (FloatKind.nearest FloatKind.f64 (whI (4 : Int) (Int.toNat u)))
  (Int.toNat u))
  4607182418800017408 ==
  some Ordering.eq)
  False
  (need (whE (3 : Int) (FloatKind.nearest FloatKind.f64 v) == (0 : Int))
  (need (whI (3 : Int) (FloatKind.nearest FloatKind.f64 v) == IntKind.wrap IntKind.i64 v)
  (br (decide (v ≥ (-32768 : Int)))
  (need
  ((whE (2 : Int) (FloatKind.nearest FloatKind.f64 v) == (0 : Int)) ==
  decide (v ≤ (32767 : Int)))
  True)
  (need ((whE (2 : Int) (FloatKind.nearest FloatKind.f64 v) == (0 : Int)) == false) True)))))))
  (br
  (Ieee.Format.order (FloatKind.format FloatKind.f64)
  (ariR FloatKind.f64 BinOp.sub (Int.toNat u)
  (FloatKind.nearest FloatKind.f64 (whI (4 : Int) (Int.toNat u))))
  4607182418800017408 ==
  some Ordering.gt ||
  Ieee.Format.order (FloatKind.format FloatKind.f64)
  (ariR FloatKind.f64 BinOp.sub (Int.toNat u)
  (FloatKind.nearest FloatKind.f64 (whI (4 : Int) (Int.toNat u))))
  4607182418800017408 ==
  some Ordering.eq)
  False
  (br
  (Ieee.Format.order (FloatKind.format FloatKind.f64)
  (ariR FloatKind.f64 BinOp.sub (FloatKind.nearest FloatKind.f64 (whI (4 : Int) (Int.toNat u)))
  (Int.toNat u))
  4607182418800017408 ==
  some Ordering.gt ||
  Ieee.Format.order (FloatKind.format FloatKind.f64)
  (ariR FloatKind.f64 BinOp.sub (FloatKind.nearest FloatKind.f64 (whI (4 : Int) (Int.toNat u)))
  (Int.toNat u))
  4607182418800017408 ==
  some Ordering.eq)
  False
  (need (whE (3 : Int) (FloatKind.nearest FloatKind.f64 v) == (0 : Int))
  (need (whI (3 : Int) (FloatKind.nearest FloatKind.f64 v) == IntKind.wrap IntKind.i64 v)
  (br (decide (v ≥ (-32768 : Int)))
  (need
  ((whE (2 : Int) (FloatKind.nearest FloatKind.f64 v) == (0 : Int)) ==
  decide (v ≤ (32767 : Int)))
  True)
  (need ((whE (2 : Int) (FloatKind.nearest FloatKind.f64 v) == (0 : Int)) == false) True))))))))
  (br
  (Ieee.Format.order (FloatKind.format FloatKind.f64)
  (FloatKind.nearest FloatKind.f64 (whI (4 : Int) (Int.toNat u))) (Int.toNat u) ==
  some Ordering.lt)
  (br (Ieee.Format.order (FloatKind.format FloatKind.f64) (Int.toNat u) 0 == some Ordering.lt) False
  (br
  (Ieee.Format.order (FloatKind.format FloatKind.f64)
  (ariR FloatKind.f64 BinOp.sub (Int.toNat u)
  (FloatKind.nearest FloatKind.f64 (whI (4 : Int) (Int.toNat u))))
  4607182418800017408 ==
  some Ordering.gt ||
  Ieee.Format.order (FloatKind.format FloatKind.f64)
  (ariR FloatKind.f64 BinOp.sub (Int.toNat u)
  (FloatKind.nearest FloatKind.f64 (whI (4 : Int) (Int.toNat u))))
  4607182418800017408 ==
  some Ordering.eq)
  False
  (br
  (Ieee.Format.order (FloatKind.format FloatKind.f64)
  (ariR FloatKind.f64 BinOp.sub (FloatKind.nearest FloatKind.f64 (whI (4 : Int) (Int.toNat u)))
  (Int.toNat u))
  4607182418800017408 ==
  some Ordering.gt ||
  Ieee.Format.order (FloatKind.format FloatKind.f64)
  (ariR FloatKind.f64 BinOp.sub (FloatKind.nearest FloatKind.f64 (whI (4 : Int) (Int.toNat u)))
  (Int.toNat u))
  4607182418800017408 ==
  some Ordering.eq)
  False
  (need (whE (3 : Int) (FloatKind.nearest FloatKind.f64 v) == (0 : Int))
  (need (whI (3 : Int) (FloatKind.nearest FloatKind.f64 v) == IntKind.wrap IntKind.i64 v)
  (br (decide (v ≥ (-32768 : Int)))
  (need
  ((whE (2 : Int) (FloatKind.nearest FloatKind.f64 v) == (0 : Int)) ==
  decide (v ≤ (32767 : Int)))
  True)
  (need ((whE (2 : Int) (FloatKind.nearest FloatKind.f64 v) == (0 : Int)) == false) True)))))))
  (br
  (Ieee.Format.order (FloatKind.format FloatKind.f64)
  (ariR FloatKind.f64 BinOp.sub (Int.toNat u)
  (FloatKind.nearest FloatKind.f64 (whI (4 : Int) (Int.toNat u))))
  4607182418800017408 ==
  some Ordering.gt ||
  Ieee.Format.order (FloatKind.format FloatKind.f64)
  (ariR FloatKind.f64 BinOp.sub (Int.toNat u)
  (FloatKind.nearest FloatKind.f64 (whI (4 : Int) (Int.toNat u))))
  4607182418800017408 ==
  some Ordering.eq)
  False
  (br
  (Ieee.Format.order (FloatKind.format FloatKind.f64)
  (ariR FloatKind.f64 BinOp.sub (FloatKind.nearest FloatKind.f64 (whI (4 : Int) (Int.toNat u)))
  (Int.toNat u))
  4607182418800017408 ==
  some Ordering.gt ||
  Ieee.Format.order (FloatKind.format FloatKind.f64)
  (ariR FloatKind.f64 BinOp.sub (FloatKind.nearest FloatKind.f64 (whI (4 : Int) (Int.toNat u)))
  (Int.toNat u))
  4607182418800017408 ==
  some Ordering.eq)
  False
  (need (whE (3 : Int) (FloatKind.nearest FloatKind.f64 v) == (0 : Int))
  (need (whI (3 : Int) (FloatKind.nearest FloatKind.f64 v) == IntKind.wrap IntKind.i64 v)
  (br (decide (v ≥ (-32768 : Int)))
  (need
  ((whE (2 : Int) (FloatKind.nearest FloatKind.f64 v) == (0 : Int)) == decide (v ≤ (32767 : Int)))
  True)
  (need ((whE (2 : Int) (FloatKind.nearest FloatKind.f64 v) == (0 : Int)) == false) True)))))))))))) := by kernel_rfl
end Go.Proofs.Ytokpobfimphhgaa.Ev
