/-
  What has to hold: printed by the evaluator.
-/
import Derived.Test.YtaceobjppcmhjaaClW
set_option linter.unusedVariables false
set_option maxRecDepth 1000000
namespace Go.Proofs.Ytaceobjppcmhjaa.Ev
open Go Go.Proofs
theorem vc_tr (q : Bool) (K : AE → Prop) : funK Try.prog toldV 100 20 28 [.bool q] st0 (fun r _ => K r) =
(  br q
  (K
  (AE.returned
  (Value.agg
  (Array.mk
  [Value.int IntKind.i64 (1 : Int), Value.int IntKind.i64 (1 : Int), Value.float FloatKind.f64 0]))))
  (K
  (AE.returned
  (Value.agg
  (Array.mk
  [Value.int IntKind.i64 (1 : Int), Value.int IntKind.i64 (0 : Int), Value.float FloatKind.f64 0]))))) := by kernel_rfl
theorem vc_tr1 (q : Bool) (K : AE → Prop) : funK Try.prog toldV 100 20 22 [.bool q] st0 (fun r _ => K r) =
(  br q (K (AE.returned (Value.int IntKind.i64 (1 : Int)))) (K (AE.returned (Value.int IntKind.i64 (0 : Int))))) := by kernel_rfl
theorem vc_past (now at_ pt : Int) (K : AE → Prop) : funK Try.prog toldV 100 20 21 [.int .i64 now, .int .i64 at_, .int .i64 pt] st0 (fun r _ => K r) =
(  br (decide (now ≤ at_)) (K (AE.returned (Value.int IntKind.i64 (0 : Int))))
  (br
  (decide
  (IntKind.wrap IntKind.u64 (IntKind.wrap IntKind.u64 now - IntKind.wrap IntKind.u64 at_) >
  IntKind.wrap IntKind.u64 pt))
  (K (AE.returned (Value.int IntKind.i64 pt)))
  (K
  (AE.returned
  (Value.int IntKind.i64
  (IntKind.wrap IntKind.i64
  (IntKind.wrap IntKind.u64 (IntKind.wrap IntKind.u64 now - IntKind.wrap IntKind.u64 at_)))))))) := by kernel_rfl
theorem vc_ton (q on inn : Bool) (et at_ pt now : Int) (K : AE → Prop) : funK Try.prog toldV 100 20 15 [.agg (Array.mk [.bool q, .bool on, .int .i64 et, .int .i64 at_]), .bool inn, .int .i64 pt, .int .i64 now] st0 (fun r _ => K r) =
(  br (!inn)
  (K
  (AE.returned
  (Value.agg
  (Array.mk
  [Value.bool false, Value.bool false, Value.int IntKind.i64 (0 : Int), Value.int IntKind.i64 (0 : Int)]))))
  (br (!on)
  (br (decide (now > now))
  (K
  (AE.returned
  (Value.agg
  (Array.mk
  [Value.bool
  (IntKind.wrap IntKind.i64
  (if
  IntKind.wrap IntKind.u64 pt <
  IntKind.wrap IntKind.u64 (IntKind.wrap IntKind.u64 now - IntKind.wrap IntKind.u64 now) then
  IntKind.wrap IntKind.u64 pt
  else IntKind.wrap IntKind.u64 (IntKind.wrap IntKind.u64 now - IntKind.wrap IntKind.u64 now)) ==
  pt),
  Value.bool true,
  Value.int IntKind.i64
  (IntKind.wrap IntKind.i64
  (if
  IntKind.wrap IntKind.u64 pt <
  IntKind.wrap IntKind.u64 (IntKind.wrap IntKind.u64 now - IntKind.wrap IntKind.u64 now) then
  IntKind.wrap IntKind.u64 pt
  else IntKind.wrap IntKind.u64 (IntKind.wrap IntKind.u64 now - IntKind.wrap IntKind.u64 now))),
  Value.int IntKind.i64 now]))))
  (K
  (AE.returned
  (Value.agg
  (Array.mk
  [Value.bool ((0 : Int) == pt), Value.bool true, Value.int IntKind.i64 (0 : Int),
  Value.int IntKind.i64 now])))))
  (br (decide (now > at_))
  (K
  (AE.returned
  (Value.agg
  (Array.mk
  [Value.bool
  (IntKind.wrap IntKind.i64
  (if
  IntKind.wrap IntKind.u64 pt <
  IntKind.wrap IntKind.u64 (IntKind.wrap IntKind.u64 now - IntKind.wrap IntKind.u64 at_) then
  IntKind.wrap IntKind.u64 pt
  else IntKind.wrap IntKind.u64 (IntKind.wrap IntKind.u64 now - IntKind.wrap IntKind.u64 at_)) ==
  pt),
  Value.bool on,
  Value.int IntKind.i64
  (IntKind.wrap IntKind.i64
  (if
  IntKind.wrap IntKind.u64 pt <
  IntKind.wrap IntKind.u64 (IntKind.wrap IntKind.u64 now - IntKind.wrap IntKind.u64 at_) then
  IntKind.wrap IntKind.u64 pt
  else IntKind.wrap IntKind.u64 (IntKind.wrap IntKind.u64 now - IntKind.wrap IntKind.u64 at_))),
  Value.int IntKind.i64 at_]))))
  (K
  (AE.returned
  (Value.agg
  (Array.mk
  [Value.bool ((0 : Int) == pt), Value.bool on, Value.int IntKind.i64 (0 : Int),
  Value.int IntKind.i64 at_]))))))) := by kernel_rfl
theorem vc_tof (q on inn : Bool) (et at_ pt now : Int) (K : AE → Prop) : funK Try.prog toldV 100 20 17 [.agg (Array.mk [.bool q, .bool on, .int .i64 et, .int .i64 at_]), .bool inn, .int .i64 pt, .int .i64 now] st0 (fun r _ => K r) =
(  br inn
  (K
  (AE.returned
  (Value.agg
  (Array.mk
  [Value.bool true, Value.bool false, Value.int IntKind.i64 (0 : Int), Value.int IntKind.i64 (0 : Int)]))))
  (br q
  (br (!on)
  (br (decide (now > now))
  (K
  (AE.returned
  (Value.agg
  (Array.mk
  [Value.bool
  !IntKind.wrap IntKind.i64
  (if
  IntKind.wrap IntKind.u64 pt <
  IntKind.wrap IntKind.u64
  (IntKind.wrap IntKind.u64 now - IntKind.wrap IntKind.u64 now) then
  IntKind.wrap IntKind.u64 pt
  else
  IntKind.wrap IntKind.u64 (IntKind.wrap IntKind.u64 now - IntKind.wrap IntKind.u64 now)) ==
  pt,
  Value.bool true,
  Value.int IntKind.i64
  (IntKind.wrap IntKind.i64
  (if
  IntKind.wrap IntKind.u64 pt <
  IntKind.wrap IntKind.u64 (IntKind.wrap IntKind.u64 now - IntKind.wrap IntKind.u64 now) then
  IntKind.wrap IntKind.u64 pt
  else IntKind.wrap IntKind.u64 (IntKind.wrap IntKind.u64 now - IntKind.wrap IntKind.u64 now))),
  Value.int IntKind.i64 now]))))
  (K
  (AE.returned
  (Value.agg
  (Array.mk
  [Value.bool !(0 : Int) == pt, Value.bool true, Value.int IntKind.i64 (0 : Int),
  Value.int IntKind.i64 now])))))
  (br (decide (now > at_))
  (K
  (AE.returned
  (Value.agg
  (Array.mk
  [Value.bool
  !IntKind.wrap IntKind.i64
  (if
  IntKind.wrap IntKind.u64 pt <
  IntKind.wrap IntKind.u64
  (IntKind.wrap IntKind.u64 now - IntKind.wrap IntKind.u64 at_) then
  IntKind.wrap IntKind.u64 pt
  else
  IntKind.wrap IntKind.u64 (IntKind.wrap IntKind.u64 now - IntKind.wrap IntKind.u64 at_)) ==
  pt,
  Value.bool on,
  Value.int IntKind.i64
  (IntKind.wrap IntKind.i64
  (if
  IntKind.wrap IntKind.u64 pt <
  IntKind.wrap IntKind.u64 (IntKind.wrap IntKind.u64 now - IntKind.wrap IntKind.u64 at_) then
  IntKind.wrap IntKind.u64 pt
  else IntKind.wrap IntKind.u64 (IntKind.wrap IntKind.u64 now - IntKind.wrap IntKind.u64 at_))),
  Value.int IntKind.i64 at_]))))
  (K
  (AE.returned
  (Value.agg
  (Array.mk
  [Value.bool !(0 : Int) == pt, Value.bool on, Value.int IntKind.i64 (0 : Int),
  Value.int IntKind.i64 at_]))))))
  (K
  (AE.returned
  (Value.agg (Array.mk [Value.bool q, Value.bool on, Value.int IntKind.i64 et, Value.int IntKind.i64 at_])))))) := by kernel_rfl
theorem vc_tp (q on inn : Bool) (et at_ pt now : Int) (K : AE → Prop) : funK Try.prog toldV 100 20 18 [.agg (Array.mk [.bool q, .bool on, .int .i64 et, .int .i64 at_]), .bool inn, .int .i64 pt, .int .i64 now] st0 (fun r _ => K r) =
(  br inn
  (br (!on)
  (br (decide (now > now))
  (br
  (!!IntKind.wrap IntKind.i64
  (if
  IntKind.wrap IntKind.u64 pt <
  IntKind.wrap IntKind.u64 (IntKind.wrap IntKind.u64 now - IntKind.wrap IntKind.u64 now) then
  IntKind.wrap IntKind.u64 pt
  else IntKind.wrap IntKind.u64 (IntKind.wrap IntKind.u64 now - IntKind.wrap IntKind.u64 now)) ==
  pt)
  (br (!inn)
  (K
  (AE.returned
  (Value.agg
  (Array.mk
  [Value.bool false, Value.bool false, Value.int IntKind.i64 (0 : Int),
  Value.int IntKind.i64 (0 : Int)]))))
  (K
  (AE.returned
  (Value.agg
  (Array.mk
  [Value.bool
  !IntKind.wrap IntKind.i64
  (if
  IntKind.wrap IntKind.u64 pt <
  IntKind.wrap IntKind.u64
  (IntKind.wrap IntKind.u64 now - IntKind.wrap IntKind.u64 now) then
  IntKind.wrap IntKind.u64 pt
  else
  IntKind.wrap IntKind.u64 (IntKind.wrap IntKind.u64 now - IntKind.wrap IntKind.u64 now)) ==
  pt,
  Value.bool true,
  Value.int IntKind.i64
  (IntKind.wrap IntKind.i64
  (if
  IntKind.wrap IntKind.u64 pt <
  IntKind.wrap IntKind.u64
  (IntKind.wrap IntKind.u64 now - IntKind.wrap IntKind.u64 now) then
  IntKind.wrap IntKind.u64 pt
  else IntKind.wrap IntKind.u64 (IntKind.wrap IntKind.u64 now - IntKind.wrap IntKind.u64 now))),
  Value.int IntKind.i64 now])))))
  (K
  (AE.returned
  (Value.agg
  (Array.mk
  [Value.bool
  !IntKind.wrap IntKind.i64
  (if
  IntKind.wrap IntKind.u64 pt <
  IntKind.wrap IntKind.u64
  (IntKind.wrap IntKind.u64 now - IntKind.wrap IntKind.u64 now) then
  IntKind.wrap IntKind.u64 pt
  else
  IntKind.wrap IntKind.u64 (IntKind.wrap IntKind.u64 now - IntKind.wrap IntKind.u64 now)) ==
  pt,
  Value.bool true,
  Value.int IntKind.i64
  (IntKind.wrap IntKind.i64
  (if
  IntKind.wrap IntKind.u64 pt <
  IntKind.wrap IntKind.u64 (IntKind.wrap IntKind.u64 now - IntKind.wrap IntKind.u64 now) then
  IntKind.wrap IntKind.u64 pt
  else IntKind.wrap IntKind.u64 (IntKind.wrap IntKind.u64 now - IntKind.wrap IntKind.u64 now))),
  Value.int IntKind.i64 now])))))
  (br (!!(0 : Int) == pt)
  (br (!inn)
  (K
  (AE.returned
  (Value.agg
  (Array.mk
  [Value.bool false, Value.bool false, Value.int IntKind.i64 (0 : Int),
  Value.int IntKind.i64 (0 : Int)]))))
  (K
  (AE.returned
  (Value.agg
  (Array.mk
  [Value.bool !(0 : Int) == pt, Value.bool true, Value.int IntKind.i64 (0 : Int),
  Value.int IntKind.i64 now])))))
  (K
  (AE.returned
  (Value.agg
  (Array.mk
  [Value.bool !(0 : Int) == pt, Value.bool true, Value.int IntKind.i64 (0 : Int),
  Value.int IntKind.i64 now]))))))
  (br (!on)
  (K
  (AE.returned
  (Value.agg
  (Array.mk
  [Value.bool false, Value.bool false, Value.int IntKind.i64 (0 : Int), Value.int IntKind.i64 (0 : Int)]))))
  (br (decide (now > at_))
  (br
  (!!IntKind.wrap IntKind.i64
  (if
  IntKind.wrap IntKind.u64 pt <
  IntKind.wrap IntKind.u64 (IntKind.wrap IntKind.u64 now - IntKind.wrap IntKind.u64 at_) then
  IntKind.wrap IntKind.u64 pt
  else IntKind.wrap IntKind.u64 (IntKind.wrap IntKind.u64 now - IntKind.wrap IntKind.u64 at_)) ==
  pt)
  (br (!inn)
  (K
  (AE.returned
  (Value.agg
  (Array.mk
  [Value.bool false, Value.bool false, Value.int IntKind.i64 (0 : Int),
  Value.int IntKind.i64 (0 : Int)]))))
  (K
  (AE.returned
  (Value.agg
  (Array.mk
  [Value.bool
  !IntKind.wrap IntKind.i64
  (if
  IntKind.wrap IntKind.u64 pt <
  IntKind.wrap IntKind.u64
  (IntKind.wrap IntKind.u64 now - IntKind.wrap IntKind.u64 at_) then
  IntKind.wrap IntKind.u64 pt
  else
  IntKind.wrap IntKind.u64
  (IntKind.wrap IntKind.u64 now - IntKind.wrap IntKind.u64 at_)) ==
  pt,
  Value.bool on,
  Value.int IntKind.i64
  (IntKind.wrap IntKind.i64
  (if
  IntKind.wrap IntKind.u64 pt <
  IntKind.wrap IntKind.u64
  (IntKind.wrap IntKind.u64 now - IntKind.wrap IntKind.u64 at_) then
  IntKind.wrap IntKind.u64 pt
  else IntKind.wrap IntKind.u64 (IntKind.wrap IntKind.u64 now - IntKind.wrap IntKind.u64 at_))),
  Value.int IntKind.i64 at_])))))
  (K
  (AE.returned
  (Value.agg
  (Array.mk
  [Value.bool
  !IntKind.wrap IntKind.i64
  (if
  IntKind.wrap IntKind.u64 pt <
  IntKind.wrap IntKind.u64
  (IntKind.wrap IntKind.u64 now - IntKind.wrap IntKind.u64 at_) then
  IntKind.wrap IntKind.u64 pt
  else
  IntKind.wrap IntKind.u64 (IntKind.wrap IntKind.u64 now - IntKind.wrap IntKind.u64 at_)) ==
  pt,
  Value.bool on,
  Value.int IntKind.i64
  (IntKind.wrap IntKind.i64
  (if
  IntKind.wrap IntKind.u64 pt <
  IntKind.wrap IntKind.u64
  (IntKind.wrap IntKind.u64 now - IntKind.wrap IntKind.u64 at_) then
  IntKind.wrap IntKind.u64 pt
  else IntKind.wrap IntKind.u64 (IntKind.wrap IntKind.u64 now - IntKind.wrap IntKind.u64 at_))),
  Value.int IntKind.i64 at_])))))
  (br (!!(0 : Int) == pt)
  (br (!inn)
  (K
  (AE.returned
  (Value.agg
  (Array.mk
  [Value.bool false, Value.bool false, Value.int IntKind.i64 (0 : Int),
  Value.int IntKind.i64 (0 : Int)]))))
  (K
  (AE.returned
  (Value.agg
  (Array.mk
  [Value.bool !(0 : Int) == pt, Value.bool on, Value.int IntKind.i64 (0 : Int),
  Value.int IntKind.i64 at_])))))
  (K
  (AE.returned
  (Value.agg
  (Array.mk
  [Value.bool !(0 : Int) == pt, Value.bool on, Value.int IntKind.i64 (0 : Int),
  Value.int IntKind.i64 at_]))))))))
  (br (!on)
  (K
  (AE.returned
  (Value.agg
  (Array.mk
  [Value.bool false, Value.bool false, Value.int IntKind.i64 (0 : Int), Value.int IntKind.i64 (0 : Int)]))))
  (br (decide (now > at_))
  (br
  (!!IntKind.wrap IntKind.i64
  (if
  IntKind.wrap IntKind.u64 pt <
  IntKind.wrap IntKind.u64 (IntKind.wrap IntKind.u64 now - IntKind.wrap IntKind.u64 at_) then
  IntKind.wrap IntKind.u64 pt
  else IntKind.wrap IntKind.u64 (IntKind.wrap IntKind.u64 now - IntKind.wrap IntKind.u64 at_)) ==
  pt)
  (br (!inn)
  (K
  (AE.returned
  (Value.agg
  (Array.mk
  [Value.bool false, Value.bool false, Value.int IntKind.i64 (0 : Int),
  Value.int IntKind.i64 (0 : Int)]))))
  (K
  (AE.returned
  (Value.agg
  (Array.mk
  [Value.bool
  !IntKind.wrap IntKind.i64
  (if
  IntKind.wrap IntKind.u64 pt <
  IntKind.wrap IntKind.u64
  (IntKind.wrap IntKind.u64 now - IntKind.wrap IntKind.u64 at_) then
  IntKind.wrap IntKind.u64 pt
  else
  IntKind.wrap IntKind.u64 (IntKind.wrap IntKind.u64 now - IntKind.wrap IntKind.u64 at_)) ==
  pt,
  Value.bool on,
  Value.int IntKind.i64
  (IntKind.wrap IntKind.i64
  (if
  IntKind.wrap IntKind.u64 pt <
  IntKind.wrap IntKind.u64
  (IntKind.wrap IntKind.u64 now - IntKind.wrap IntKind.u64 at_) then
  IntKind.wrap IntKind.u64 pt
  else IntKind.wrap IntKind.u64 (IntKind.wrap IntKind.u64 now - IntKind.wrap IntKind.u64 at_))),
  Value.int IntKind.i64 at_])))))
  (K
  (AE.returned
  (Value.agg
  (Array.mk
  [Value.bool
  !IntKind.wrap IntKind.i64
  (if
  IntKind.wrap IntKind.u64 pt <
  IntKind.wrap IntKind.u64
  (IntKind.wrap IntKind.u64 now - IntKind.wrap IntKind.u64 at_) then
  IntKind.wrap IntKind.u64 pt
  else
  IntKind.wrap IntKind.u64 (IntKind.wrap IntKind.u64 now - IntKind.wrap IntKind.u64 at_)) ==
  pt,
  Value.bool on,
  Value.int IntKind.i64
  (IntKind.wrap IntKind.i64
  (if
  IntKind.wrap IntKind.u64 pt <
  IntKind.wrap IntKind.u64 (IntKind.wrap IntKind.u64 now - IntKind.wrap IntKind.u64 at_) then
  IntKind.wrap IntKind.u64 pt
  else IntKind.wrap IntKind.u64 (IntKind.wrap IntKind.u64 now - IntKind.wrap IntKind.u64 at_))),
  Value.int IntKind.i64 at_])))))
  (br (!!(0 : Int) == pt)
  (br (!inn)
  (K
  (AE.returned
  (Value.agg
  (Array.mk
  [Value.bool false, Value.bool false, Value.int IntKind.i64 (0 : Int),
  Value.int IntKind.i64 (0 : Int)]))))
  (K
  (AE.returned
  (Value.agg
  (Array.mk
  [Value.bool !(0 : Int) == pt, Value.bool on, Value.int IntKind.i64 (0 : Int),
  Value.int IntKind.i64 at_])))))
  (K
  (AE.returned
  (Value.agg
  (Array.mk
  [Value.bool !(0 : Int) == pt, Value.bool on, Value.int IntKind.i64 (0 : Int),
  Value.int IntKind.i64 at_])))))))) := by kernel_rfl
end Go.Proofs.Ytaceobjppcmhjaa.Ev
