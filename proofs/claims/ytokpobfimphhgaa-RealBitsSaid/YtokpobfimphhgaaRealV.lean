/-
  What has to hold: printed by the evaluator.
-/
import Derived.Test.YtokpobfimphhgaaRealP
set_option linter.unusedVariables false
set_option maxRecDepth 1000000
namespace Go.Proofs.Ytokpobfimphhgaa.Ev
open Go Go.Proofs
theorem vc_turn (u v : Int) (B : Nat) (w0 : World) : lawJ Try.prog toldSame 100 20 B w0 (fun _ => 100) (cnOf fun _ => []) (fun _ _ => False) 7 [.int .u64 u, .int .u64 v] st0 trueV =
  need
    (sameN (ariR FloatKind.f64 BinOp.add (Int.toNat u) (Int.toNat v))
      (ariR FloatKind.f64 BinOp.add (Int.toNat v) (Int.toNat u)))
    (need
      (sameN (ariR FloatKind.f64 BinOp.sub (Int.toNat u) (Int.toNat v))
        (ariR FloatKind.f64 BinOp.add (Int.toNat u) (negR (Int.toNat v))))
      (need (sameN (negR (negR (Int.toNat v))) (Int.toNat v))
        (need
          (sameN (ariR FloatKind.f64 BinOp.mul (Int.toNat u) (Int.toNat v))
            (ariR FloatKind.f64 BinOp.mul (Int.toNat v) (Int.toNat u)))
          True))) := by kernel_rfl
theorem vc_order (u v : Int) (B : Nat) (w0 : World)  : lawJ Try.prog toldSame 100 20 B w0 (fun _ => 100) (cnOf fun _ => []) (fun _ _ => False) 8 [.int .u64 u, .int .u64 v] st0 trueV =
  br (Ieee.Format.order (FloatKind.format FloatKind.f64) (Int.toNat u) (Int.toNat v) == some Ordering.lt)
    (br (Ieee.Format.order (FloatKind.format FloatKind.f64) (Int.toNat v) (Int.toNat u) == some Ordering.lt)
      (br (Ieee.Format.order (FloatKind.format FloatKind.f64) (Int.toNat u) (Int.toNat v) == some Ordering.eq)
        (br (Ieee.Format.order (FloatKind.format FloatKind.f64) (Int.toNat u) (Int.toNat u) != some Ordering.eq) False
          (need
            ((IntKind.wrap IntKind.i64 (IntKind.wrap IntKind.i64 (IntKind.wrap IntKind.i64 (0 + 1) + 1) + 1) == 0) ==
              (Ieee.Format.order (FloatKind.format FloatKind.f64) (Int.toNat v) (Int.toNat v) != some Ordering.eq))
            False))
        (br (Ieee.Format.order (FloatKind.format FloatKind.f64) (Int.toNat u) (Int.toNat u) != some Ordering.eq) False
          (need
            ((IntKind.wrap IntKind.i64 (IntKind.wrap IntKind.i64 (0 + 1) + 1) == 0) ==
              (Ieee.Format.order (FloatKind.format FloatKind.f64) (Int.toNat v) (Int.toNat v) != some Ordering.eq))
            False)))
      (br (Ieee.Format.order (FloatKind.format FloatKind.f64) (Int.toNat u) (Int.toNat v) == some Ordering.eq)
        (br (Ieee.Format.order (FloatKind.format FloatKind.f64) (Int.toNat u) (Int.toNat u) != some Ordering.eq) False
          (need
            ((IntKind.wrap IntKind.i64 (IntKind.wrap IntKind.i64 (0 + 1) + 1) == 0) ==
              (Ieee.Format.order (FloatKind.format FloatKind.f64) (Int.toNat v) (Int.toNat v) != some Ordering.eq))
            False))
        (br (Ieee.Format.order (FloatKind.format FloatKind.f64) (Int.toNat u) (Int.toNat u) != some Ordering.eq) False
          (need
            ((IntKind.wrap IntKind.i64 (0 + 1) == 0) ==
              (Ieee.Format.order (FloatKind.format FloatKind.f64) (Int.toNat v) (Int.toNat v) != some Ordering.eq))
            (need
              (!(Ieee.Format.order (FloatKind.format FloatKind.f64) (Int.toNat u) (Int.toNat v) != some Ordering.eq) ==
                  (Ieee.Format.order (FloatKind.format FloatKind.f64) (Int.toNat u) (Int.toNat v) == some Ordering.eq))
              (br (Ieee.Format.order (FloatKind.format FloatKind.f64) (Int.toNat u) (Int.toNat v) == some Ordering.lt)
                (need
                  ((Ieee.Format.order (FloatKind.format FloatKind.f64) (Int.toNat u) (Int.toNat v) == some Ordering.lt ||
                      Ieee.Format.order (FloatKind.format FloatKind.f64) (Int.toNat u) (Int.toNat v) ==
                        some Ordering.eq) ==
                    true)
                  True)
                (need
                  ((Ieee.Format.order (FloatKind.format FloatKind.f64) (Int.toNat u) (Int.toNat v) == some Ordering.lt ||
                      Ieee.Format.order (FloatKind.format FloatKind.f64) (Int.toNat u) (Int.toNat v) ==
                        some Ordering.eq) ==
                    (Ieee.Format.order (FloatKind.format FloatKind.f64) (Int.toNat u) (Int.toNat v) == some Ordering.eq))
                  True)))))))
    (br (Ieee.Format.order (FloatKind.format FloatKind.f64) (Int.toNat v) (Int.toNat u) == some Ordering.lt)
      (br (Ieee.Format.order (FloatKind.format FloatKind.f64) (Int.toNat u) (Int.toNat v) == some Ordering.eq)
        (br (Ieee.Format.order (FloatKind.format FloatKind.f64) (Int.toNat u) (Int.toNat u) != some Ordering.eq) False
          (need
            ((IntKind.wrap IntKind.i64 (IntKind.wrap IntKind.i64 (0 + 1) + 1) == 0) ==
              (Ieee.Format.order (FloatKind.format FloatKind.f64) (Int.toNat v) (Int.toNat v) != some Ordering.eq))
            False))
        (br (Ieee.Format.order (FloatKind.format FloatKind.f64) (Int.toNat u) (Int.toNat u) != some Ordering.eq) False
          (need
            ((IntKind.wrap IntKind.i64 (0 + 1) == 0) ==
              (Ieee.Format.order (FloatKind.format FloatKind.f64) (Int.toNat v) (Int.toNat v) != some Ordering.eq))
            (need
              (!(Ieee.Format.order (FloatKind.format FloatKind.f64) (Int.toNat u) (Int.toNat v) != some Ordering.eq) ==
                  (Ieee.Format.order (FloatKind.format FloatKind.f64) (Int.toNat u) (Int.toNat v) == some Ordering.eq))
              (br (Ieee.Format.order (FloatKind.format FloatKind.f64) (Int.toNat u) (Int.toNat v) == some Ordering.lt)
                (need
                  ((Ieee.Format.order (FloatKind.format FloatKind.f64) (Int.toNat u) (Int.toNat v) == some Ordering.lt ||
                      Ieee.Format.order (FloatKind.format FloatKind.f64) (Int.toNat u) (Int.toNat v) ==
                        some Ordering.eq) ==
                    true)
                  True)
                (need
                  ((Ieee.Format.order (FloatKind.format FloatKind.f64) (Int.toNat u) (Int.toNat v) == some Ordering.lt ||
                      Ieee.Format.order (FloatKind.format FloatKind.f64) (Int.toNat u) (Int.toNat v) ==
                        some Ordering.eq) ==
                    (Ieee.Format.order (FloatKind.format FloatKind.f64) (Int.toNat u) (Int.toNat v) == some Ordering.eq))
                  True))))))
      (br (Ieee.Format.order (FloatKind.format FloatKind.f64) (Int.toNat u) (Int.toNat v) == some Ordering.eq)
        (br (Ieee.Format.order (FloatKind.format FloatKind.f64) (Int.toNat u) (Int.toNat u) != some Ordering.eq) False
          (need
            ((IntKind.wrap IntKind.i64 (0 + 1) == 0) ==
              (Ieee.Format.order (FloatKind.format FloatKind.f64) (Int.toNat v) (Int.toNat v) != some Ordering.eq))
            (need
              (!(Ieee.Format.order (FloatKind.format FloatKind.f64) (Int.toNat u) (Int.toNat v) != some Ordering.eq) ==
                  (Ieee.Format.order (FloatKind.format FloatKind.f64) (Int.toNat u) (Int.toNat v) == some Ordering.eq))
              (br (Ieee.Format.order (FloatKind.format FloatKind.f64) (Int.toNat u) (Int.toNat v) == some Ordering.lt)
                (need
                  ((Ieee.Format.order (FloatKind.format FloatKind.f64) (Int.toNat u) (Int.toNat v) == some Ordering.lt ||
                      Ieee.Format.order (FloatKind.format FloatKind.f64) (Int.toNat u) (Int.toNat v) ==
                        some Ordering.eq) ==
                    true)
                  True)
                (need
                  ((Ieee.Format.order (FloatKind.format FloatKind.f64) (Int.toNat u) (Int.toNat v) == some Ordering.lt ||
                      Ieee.Format.order (FloatKind.format FloatKind.f64) (Int.toNat u) (Int.toNat v) ==
                        some Ordering.eq) ==
                    (Ieee.Format.order (FloatKind.format FloatKind.f64) (Int.toNat u) (Int.toNat v) == some Ordering.eq))
                  True)))))
        (br (Ieee.Format.order (FloatKind.format FloatKind.f64) (Int.toNat u) (Int.toNat u) != some Ordering.eq)
          (need
            (!(Ieee.Format.order (FloatKind.format FloatKind.f64) (Int.toNat u) (Int.toNat v) != some Ordering.eq) ==
                (Ieee.Format.order (FloatKind.format FloatKind.f64) (Int.toNat u) (Int.toNat v) == some Ordering.eq))
            (br (Ieee.Format.order (FloatKind.format FloatKind.f64) (Int.toNat u) (Int.toNat v) == some Ordering.lt)
              (need
                ((Ieee.Format.order (FloatKind.format FloatKind.f64) (Int.toNat u) (Int.toNat v) == some Ordering.lt ||
                    Ieee.Format.order (FloatKind.format FloatKind.f64) (Int.toNat u) (Int.toNat v) == some Ordering.eq) ==
                  true)
                True)
              (need
                ((Ieee.Format.order (FloatKind.format FloatKind.f64) (Int.toNat u) (Int.toNat v) == some Ordering.lt ||
                    Ieee.Format.order (FloatKind.format FloatKind.f64) (Int.toNat u) (Int.toNat v) == some Ordering.eq) ==
                  (Ieee.Format.order (FloatKind.format FloatKind.f64) (Int.toNat u) (Int.toNat v) == some Ordering.eq))
                True)))
          (need
            ((0 == 0) ==
              (Ieee.Format.order (FloatKind.format FloatKind.f64) (Int.toNat v) (Int.toNat v) != some Ordering.eq))
            (need
              (!(Ieee.Format.order (FloatKind.format FloatKind.f64) (Int.toNat u) (Int.toNat v) != some Ordering.eq) ==
                  (Ieee.Format.order (FloatKind.format FloatKind.f64) (Int.toNat u) (Int.toNat v) == some Ordering.eq))
              (br (Ieee.Format.order (FloatKind.format FloatKind.f64) (Int.toNat u) (Int.toNat v) == some Ordering.lt)
                (need
                  ((Ieee.Format.order (FloatKind.format FloatKind.f64) (Int.toNat u) (Int.toNat v) == some Ordering.lt ||
                      Ieee.Format.order (FloatKind.format FloatKind.f64) (Int.toNat u) (Int.toNat v) ==
                        some Ordering.eq) ==
                    true)
                  True)
                (need
                  ((Ieee.Format.order (FloatKind.format FloatKind.f64) (Int.toNat u) (Int.toNat v) == some Ordering.lt ||
                      Ieee.Format.order (FloatKind.format FloatKind.f64) (Int.toNat u) (Int.toNat v) ==
                        some Ordering.eq) ==
                    (Ieee.Format.order (FloatKind.format FloatKind.f64) (Int.toNat u) (Int.toNat v) == some Ordering.eq))
                  True))))))) := by kernel_rfl
theorem vc_bits_law (u : Int) (B : Nat) (w0 : World)  : lawJ Try.prog toldSame 100 20 B w0 (fun _ => 100) (cnOf fun _ => []) (fun _ _ => False) 4 [.int .u64 u] st0 trueV =
  br (Ieee.Format.order (FloatKind.format FloatKind.f64) (Int.toNat u) (Int.toNat u) != some Ordering.eq)
    (need (Int.ofNat (bitsN (Int.toNat u)) == 9221120237041090561)
      (need (sameN (Int.toNat u) (ariR FloatKind.f64 BinOp.quo 0 0))
        (need
          (IntKind.wrap IntKind.u64
              ↑(BitVec.toNat
                  (BitVec.ofInt (IntKind.bits IntKind.u64) u &&&
                    BitVec.ofInt (IntKind.bits IntKind.u64) 9218868437227405312)) ==
            9218868437227405312)
          (need
            (IntKind.wrap IntKind.u64
                ↑(BitVec.toNat
                    (BitVec.ofInt (IntKind.bits IntKind.u64) u &&&
                      BitVec.ofInt (IntKind.bits IntKind.u64) 4503599627370495)) !=
              0)
            True))))
    (need (Int.ofNat (bitsN (Int.toNat u)) == u)
      (need (sameN (Int.toNat u) (Int.toNat u))
        (need (Ieee.Format.order (FloatKind.format FloatKind.f64) (Int.toNat u) (Int.toNat u) == some Ordering.eq) True))) := by kernel_rfl
end Go.Proofs.Ytokpobfimphhgaa.Ev
