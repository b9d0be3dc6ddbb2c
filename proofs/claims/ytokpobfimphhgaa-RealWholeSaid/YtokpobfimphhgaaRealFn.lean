/-
  The functions of reals: what they answer, printed by the evaluator.
-/
import Derived.Test.YtokpobfimphhgaaRealS
set_option linter.unusedVariables false
set_option maxRecDepth 1000000
namespace Go.Proofs.Ytokpobfimphhgaa.Ev
open Go Go.Proofs
theorem vc_do (o : Int) (a b : Nat) (K : AE → Prop) : funK Try.prog toldSame 100 20 11 [.int .i64 o, .float .f64 a, .float .f64 b] st0 (fun r _ => K r) =
(  br (o == (4 : Int))
  (K
  (AE.returned
  (Value.tuple
  (Array.mk [Value.float FloatKind.f64 (ariR FloatKind.f64 BinOp.add a b), Value.bool false, Value.bool true]))))
  (br (o == (5 : Int))
  (K
  (AE.returned
  (Value.tuple
  (Array.mk
  [Value.float FloatKind.f64 (ariR FloatKind.f64 BinOp.sub a b), Value.bool false, Value.bool true]))))
  (br (o == (6 : Int))
  (K
  (AE.returned
  (Value.tuple
  (Array.mk
  [Value.float FloatKind.f64 (ariR FloatKind.f64 BinOp.mul a b), Value.bool false, Value.bool true]))))
  (br (o == (7 : Int))
  (K
  (AE.returned
  (Value.tuple
  (Array.mk
  [Value.float FloatKind.f64 (ariR FloatKind.f64 BinOp.quo a b), Value.bool false, Value.bool true]))))
  (br (o == (16 : Int))
  (K
  (AE.returned
  (Value.tuple (Array.mk [Value.float FloatKind.f64 (negR a), Value.bool false, Value.bool true]))))
  (br (o == (9 : Int))
  (K
  (AE.returned
  (Value.tuple
  (Array.mk
  [Value.float FloatKind.f64 0,
  Value.bool (Ieee.Format.order (FloatKind.format FloatKind.f64) a b == some Ordering.eq),
  Value.bool true]))))
  (br (o == (10 : Int))
  (K
  (AE.returned
  (Value.tuple
  (Array.mk
  [Value.float FloatKind.f64 0,
  Value.bool (Ieee.Format.order (FloatKind.format FloatKind.f64) a b != some Ordering.eq),
  Value.bool true]))))
  (br (o == (11 : Int))
  (K
  (AE.returned
  (Value.tuple
  (Array.mk
  [Value.float FloatKind.f64 0,
  Value.bool (Ieee.Format.order (FloatKind.format FloatKind.f64) a b == some Ordering.lt),
  Value.bool true]))))
  (br (o == (12 : Int))
  (K
  (AE.returned
  (Value.tuple
  (Array.mk
  [Value.float FloatKind.f64 0,
  Value.bool
  (Ieee.Format.order (FloatKind.format FloatKind.f64) a b == some Ordering.lt ||
  Ieee.Format.order (FloatKind.format FloatKind.f64) a b == some Ordering.eq),
  Value.bool true]))))
  (K
  (AE.returned
  (Value.tuple
  (Array.mk [Value.float FloatKind.f64 0, Value.bool false, Value.bool false]))))))))))))) := by kernel_rfl
theorem vc_do1 (o : Int) (a b : Nat) (K : AE → Prop) : funK Try.prog toldSame 100 20 12 [.int .i64 o, .float .f64 a, .float .f64 b] st0 (fun r _ => K r) =
(  br (o == (4 : Int))
  (K
  (AE.returned
  (Value.tuple
  (Array.mk [Value.float FloatKind.f64 (ariR FloatKind.f64 BinOp.add a b), Value.bool false, Value.bool true]))))
  (br (o == (5 : Int))
  (K
  (AE.returned
  (Value.tuple
  (Array.mk
  [Value.float FloatKind.f64 (ariR FloatKind.f64 BinOp.sub a b), Value.bool false, Value.bool true]))))
  (br (o == (6 : Int))
  (K
  (AE.returned
  (Value.tuple
  (Array.mk
  [Value.float FloatKind.f64 (ariR FloatKind.f64 BinOp.mul a b), Value.bool false, Value.bool true]))))
  (br (o == (7 : Int))
  (K
  (AE.returned
  (Value.tuple
  (Array.mk
  [Value.float FloatKind.f64 (ariR FloatKind.f64 BinOp.quo a b), Value.bool false, Value.bool true]))))
  (br (o == (16 : Int))
  (K
  (AE.returned
  (Value.tuple (Array.mk [Value.float FloatKind.f64 (negR a), Value.bool false, Value.bool true]))))
  (br (o == (9 : Int))
  (K
  (AE.returned
  (Value.tuple
  (Array.mk
  [Value.float FloatKind.f64 0,
  Value.bool (Ieee.Format.order (FloatKind.format FloatKind.f64) a b == some Ordering.eq),
  Value.bool true]))))
  (br (o == (10 : Int))
  (K
  (AE.returned
  (Value.tuple
  (Array.mk
  [Value.float FloatKind.f64 0,
  Value.bool (Ieee.Format.order (FloatKind.format FloatKind.f64) a b != some Ordering.eq),
  Value.bool true]))))
  (br (o == (11 : Int))
  (K
  (AE.returned
  (Value.tuple
  (Array.mk
  [Value.float FloatKind.f64 0,
  Value.bool (Ieee.Format.order (FloatKind.format FloatKind.f64) a b == some Ordering.lt),
  Value.bool true]))))
  (br (o == (12 : Int))
  (K
  (AE.returned
  (Value.tuple
  (Array.mk
  [Value.float FloatKind.f64 0,
  Value.bool
  (Ieee.Format.order (FloatKind.format FloatKind.f64) a b == some Ordering.lt ||
  Ieee.Format.order (FloatKind.format FloatKind.f64) a b == some Ordering.eq),
  Value.bool true]))))
  (K
  (AE.returned
  (Value.tuple
  (Array.mk [Value.float FloatKind.f64 0, Value.bool false, Value.bool false]))))))))))))) := by kernel_rfl
theorem vc_be (a b c : Nat) (K : AE → Prop) : funK Try.prog toldSame 100 20 20 [.float .f64 a, .float .f64 b, .float .f64 c] st0 (fun r _ => K r) =
(  br (Ieee.Format.order (FloatKind.format FloatKind.f64) a a != some Ordering.eq)
  (K
  (AE.returned
  (Value.bool
  !(Ieee.Format.order (FloatKind.format FloatKind.f64) a a != some Ordering.eq) ==
  (Ieee.Format.order (FloatKind.format FloatKind.f64) b b != some Ordering.eq))))
  (br (Ieee.Format.order (FloatKind.format FloatKind.f64) b b != some Ordering.eq)
  (K
  (AE.returned
  (Value.bool
  !(Ieee.Format.order (FloatKind.format FloatKind.f64) a a != some Ordering.eq) ==
  (Ieee.Format.order (FloatKind.format FloatKind.f64) b b != some Ordering.eq))))
  (br (Ieee.Format.order (FloatKind.format FloatKind.f64) a b == some Ordering.eq)
  (K (AE.returned (Value.bool false)))
  (br (!Ieee.Format.order (FloatKind.format FloatKind.f64) c 0 == some Ordering.gt)
  (K
  (AE.returned
  (Value.bool
  (Ieee.Format.order (FloatKind.format FloatKind.f64)
  (ariR FloatKind.f64 BinOp.sub (mmF true FloatKind.f64 a b) (mmF false FloatKind.f64 a b)) 0 ==
  some Ordering.gt))))
  (K
  (AE.returned
  (Value.bool
  (Ieee.Format.order (FloatKind.format FloatKind.f64)
  (ariR FloatKind.f64 BinOp.sub (mmF true FloatKind.f64 a b) (mmF false FloatKind.f64 a b)) c ==
  some Ordering.gt)))))))) := by kernel_rfl
theorem vc_be1 (a b c : Nat) (K : AE → Prop) : funK Try.prog toldSame 100 20 21 [.float .f64 a, .float .f64 b, .float .f64 c] st0 (fun r _ => K r) =
(  br (Ieee.Format.order (FloatKind.format FloatKind.f64) a a != some Ordering.eq)
  (br (Ieee.Format.order (FloatKind.format FloatKind.f64) a a == some Ordering.eq) (K (AE.returned (Value.bool true)))
  (K (AE.returned (Value.bool (Ieee.Format.order (FloatKind.format FloatKind.f64) b b == some Ordering.eq)))))
  (br (Ieee.Format.order (FloatKind.format FloatKind.f64) b b != some Ordering.eq)
  (br (Ieee.Format.order (FloatKind.format FloatKind.f64) a a == some Ordering.eq) (K (AE.returned (Value.bool true)))
  (K (AE.returned (Value.bool (Ieee.Format.order (FloatKind.format FloatKind.f64) b b == some Ordering.eq)))))
  (br (Ieee.Format.order (FloatKind.format FloatKind.f64) a b == some Ordering.eq)
  (K (AE.returned (Value.bool false)))
  (br
  (!(Ieee.Format.order (FloatKind.format FloatKind.f64) c 0 == some Ordering.gt ||
  Ieee.Format.order (FloatKind.format FloatKind.f64) c 0 == some Ordering.eq))
  (br (Ieee.Format.order (FloatKind.format FloatKind.f64) a b == some Ordering.lt)
  (K
  (AE.returned
  (Value.bool
  (Ieee.Format.order (FloatKind.format FloatKind.f64) (ariR FloatKind.f64 BinOp.sub b a) 0 ==
  some Ordering.gt))))
  (K
  (AE.returned
  (Value.bool
  (Ieee.Format.order (FloatKind.format FloatKind.f64) (ariR FloatKind.f64 BinOp.sub a b) 0 ==
  some Ordering.gt)))))
  (br (Ieee.Format.order (FloatKind.format FloatKind.f64) a b == some Ordering.lt)
  (K
  (AE.returned
  (Value.bool
  (Ieee.Format.order (FloatKind.format FloatKind.f64) (ariR FloatKind.f64 BinOp.sub b a) c ==
  some Ordering.gt))))
  (K
  (AE.returned
  (Value.bool
  (Ieee.Format.order (FloatKind.format FloatKind.f64) (ariR FloatKind.f64 BinOp.sub a b) c ==
  some Ordering.gt))))))))) := by kernel_rfl
theorem vc_wh (k : Int) (a : Nat) (K : AE → Prop) : funK Try.prog toldSame 100 20 14 [.int .i64 k, .float .f64 a] st0 (fun r _ => K r) =
(  br (k == (2 : Int))
  (br
  (Ieee.Format.order (FloatKind.format FloatKind.f64) (truncR a) 13898108450065350656 == some Ordering.gt ||
  Ieee.Format.order (FloatKind.format FloatKind.f64) (truncR a) 13898108450065350656 == some Ordering.eq)
  (br (Ieee.Format.order (FloatKind.format FloatKind.f64) (truncR a) 4674736413210574848 == some Ordering.lt)
  (need (!nanB FloatKind.f64 (truncR a))
  (need (intIn IntKind.i64 (Ieee.Datum.toInt Ieee.Toward.zero (FloatKind.decode FloatKind.f64 (truncR a))))
  (K
  (AE.returned
  (Value.tuple
  (Array.mk
  [Value.int IntKind.i64
  (Option.getD (Ieee.Datum.toInt Ieee.Toward.zero (FloatKind.decode FloatKind.f64 (truncR a)))
  (0 : Int)),
  Value.int IntKind.i64 (0 : Int)]))))))
  (K (AE.returned (Value.tuple (Array.mk [Value.int IntKind.i64 (0 : Int), Value.int IntKind.i64 (7 : Int)])))))
  (K (AE.returned (Value.tuple (Array.mk [Value.int IntKind.i64 (0 : Int), Value.int IntKind.i64 (7 : Int)])))))
  (br (k == (3 : Int))
  (br
  (Ieee.Format.order (FloatKind.format FloatKind.f64) (truncR a) 13970166044103278592 == some Ordering.gt ||
  Ieee.Format.order (FloatKind.format FloatKind.f64) (truncR a) 13970166044103278592 == some Ordering.eq)
  (br
  (Ieee.Format.order (FloatKind.format FloatKind.f64) (truncR a) 4746794007248502784 == some Ordering.lt)
  (need (!nanB FloatKind.f64 (truncR a))
  (need (intIn IntKind.i64 (Ieee.Datum.toInt Ieee.Toward.zero (FloatKind.decode FloatKind.f64 (truncR a))))
  (K
  (AE.returned
  (Value.tuple
  (Array.mk
  [Value.int IntKind.i64
  (Option.getD (Ieee.Datum.toInt Ieee.Toward.zero (FloatKind.decode FloatKind.f64 (truncR a)))
  (0 : Int)),
  Value.int IntKind.i64 (0 : Int)]))))))
  (K (AE.returned (Value.tuple (Array.mk [Value.int IntKind.i64 (0 : Int), Value.int IntKind.i64 (7 : Int)])))))
  (K (AE.returned (Value.tuple (Array.mk [Value.int IntKind.i64 (0 : Int), Value.int IntKind.i64 (7 : Int)])))))
  (br (k == (4 : Int))
  (br
  (Ieee.Format.order (FloatKind.format FloatKind.f64) (truncR a) 14114281232179134464 ==
  some Ordering.gt ||
  Ieee.Format.order (FloatKind.format FloatKind.f64) (truncR a) 14114281232179134464 ==
  some Ordering.eq)
  (br
  (Ieee.Format.order (FloatKind.format FloatKind.f64) (truncR a) 4890909195324358656 ==
  some Ordering.lt)
  (need (!nanB FloatKind.f64 (truncR a))
  (need (intIn IntKind.i64 (Ieee.Datum.toInt Ieee.Toward.zero (FloatKind.decode FloatKind.f64 (truncR a))))
  (K
  (AE.returned
  (Value.tuple
  (Array.mk
  [Value.int IntKind.i64
  (Option.getD (Ieee.Datum.toInt Ieee.Toward.zero (FloatKind.decode FloatKind.f64 (truncR a)))
  (0 : Int)),
  Value.int IntKind.i64 (0 : Int)]))))))
  (K (AE.returned (Value.tuple (Array.mk [Value.int IntKind.i64 (0 : Int), Value.int IntKind.i64 (7 : Int)])))))
  (K (AE.returned (Value.tuple (Array.mk [Value.int IntKind.i64 (0 : Int), Value.int IntKind.i64 (7 : Int)])))))
  (K (AE.returned (Value.tuple (Array.mk [Value.int IntKind.i64 (0 : Int), Value.int IntKind.i64 (4 : Int)]))))))) := by kernel_rfl
theorem vc_wh1 (k : Int) (a : Nat) (K : AE → Prop) : funK Try.prog toldSame 100 20 15 [.int .i64 k, .float .f64 a] st0 (fun r _ => K r) =
(  br (k == (2 : Int))
  (br (Ieee.Format.order (FloatKind.format FloatKind.f64) a a != some Ordering.eq)
  (K (AE.returned (Value.tuple (Array.mk [Value.int IntKind.i64 (0 : Int), Value.int IntKind.i64 (7 : Int)]))))
  (br (Ieee.Format.order (FloatKind.format FloatKind.f64) (truncR a) 13898108450065350656 == some Ordering.lt)
  (K (AE.returned (Value.tuple (Array.mk [Value.int IntKind.i64 (0 : Int), Value.int IntKind.i64 (7 : Int)]))))
  (br
  (Ieee.Format.order (FloatKind.format FloatKind.f64) (truncR a) 4674736413210574848 ==
  some Ordering.gt ||
  Ieee.Format.order (FloatKind.format FloatKind.f64) (truncR a) 4674736413210574848 == some Ordering.eq)
  (K (AE.returned (Value.tuple (Array.mk [Value.int IntKind.i64 (0 : Int), Value.int IntKind.i64 (7 : Int)]))))
  (need (!nanB FloatKind.f64 (truncR a))
  (need (intIn IntKind.i64 (Ieee.Datum.toInt Ieee.Toward.zero (FloatKind.decode FloatKind.f64 (truncR a))))
  (K
  (AE.returned
  (Value.tuple
  (Array.mk
  [Value.int IntKind.i64
  (Option.getD (Ieee.Datum.toInt Ieee.Toward.zero (FloatKind.decode FloatKind.f64 (truncR a)))
  (0 : Int)),
  Value.int IntKind.i64 (0 : Int)])))))))))
  (br (k == (3 : Int))
  (br (Ieee.Format.order (FloatKind.format FloatKind.f64) a a != some Ordering.eq)
  (K (AE.returned (Value.tuple (Array.mk [Value.int IntKind.i64 (0 : Int), Value.int IntKind.i64 (7 : Int)]))))
  (br
  (Ieee.Format.order (FloatKind.format FloatKind.f64) (truncR a) 13970166044103278592 == some Ordering.lt)
  (K (AE.returned (Value.tuple (Array.mk [Value.int IntKind.i64 (0 : Int), Value.int IntKind.i64 (7 : Int)]))))
  (br
  (Ieee.Format.order (FloatKind.format FloatKind.f64) (truncR a) 4746794007248502784 ==
  some Ordering.gt ||
  Ieee.Format.order (FloatKind.format FloatKind.f64) (truncR a) 4746794007248502784 ==
  some Ordering.eq)
  (K (AE.returned (Value.tuple (Array.mk [Value.int IntKind.i64 (0 : Int), Value.int IntKind.i64 (7 : Int)]))))
  (need (!nanB FloatKind.f64 (truncR a))
  (need (intIn IntKind.i64 (Ieee.Datum.toInt Ieee.Toward.zero (FloatKind.decode FloatKind.f64 (truncR a))))
  (K
  (AE.returned
  (Value.tuple
  (Array.mk
  [Value.int IntKind.i64
  (Option.getD (Ieee.Datum.toInt Ieee.Toward.zero (FloatKind.decode FloatKind.f64 (truncR a)))
  (0 : Int)),
  Value.int IntKind.i64 (0 : Int)])))))))))
  (br (k == (4 : Int))
  (br (Ieee.Format.order (FloatKind.format FloatKind.f64) a a != some Ordering.eq)
  (K (AE.returned (Value.tuple (Array.mk [Value.int IntKind.i64 (0 : Int), Value.int IntKind.i64 (7 : Int)]))))
  (br
  (Ieee.Format.order (FloatKind.format FloatKind.f64) (truncR a) 14114281232179134464 ==
  some Ordering.lt)
  (K (AE.returned (Value.tuple (Array.mk [Value.int IntKind.i64 (0 : Int), Value.int IntKind.i64 (7 : Int)]))))
  (br
  (Ieee.Format.order (FloatKind.format FloatKind.f64) (truncR a) 4890909195324358656 ==
  some Ordering.gt ||
  Ieee.Format.order (FloatKind.format FloatKind.f64) (truncR a) 4890909195324358656 ==
  some Ordering.eq)
  (K
  (AE.returned (Value.tuple (Array.mk [Value.int IntKind.i64 (0 : Int), Value.int IntKind.i64 (7 : Int)]))))
  (need (!nanB FloatKind.f64 (truncR a))
  (need (intIn IntKind.i64 (Ieee.Datum.toInt Ieee.Toward.zero (FloatKind.decode FloatKind.f64 (truncR a))))
  (K
  (AE.returned
  (Value.tuple
  (Array.mk
  [Value.int IntKind.i64
  (Option.getD (Ieee.Datum.toInt Ieee.Toward.zero (FloatKind.decode FloatKind.f64 (truncR a)))
  (0 : Int)),
  Value.int IntKind.i64 (0 : Int)])))))))))
  (K (AE.returned (Value.tuple (Array.mk [Value.int IntKind.i64 (0 : Int), Value.int IntKind.i64 (4 : Int)]))))))) := by kernel_rfl
end Go.Proofs.Ytokpobfimphhgaa.Ev
