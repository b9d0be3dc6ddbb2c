/-
  What TopBlocks's code calls: a timer's step and truths, told.
-/
import Derived.Test.YthajddbhjdkmnaaGreatDoorVb
import Derived.Test.YthajddbhjdkmnaaGreatDoorGh
set_option linter.unusedVariables false
set_option linter.unusedSimpArgs false
set_option maxRecDepth 1000000
namespace Go.Proofs.YthajddbhjdkmnaaGreatDoor.Ev
open Go Go.Proofs Go.RowKit
theorem vc_tr (q : Bool) (K : AE → Prop) : funK Tryz.prog toldV 100 20 363 [.bool q] st0 (fun r _ => K r) =
(  br q
  (K
  (AE.returned
  (Value.agg
  (Array.mk
  [Value.int IntKind.i64 (1 : Int), Value.int IntKind.i64 (1 : Int), Value.float FloatKind.f64 0]))))
  (K
  (AE.returned
  (Value.agg
  (Array.mk
  [Value.int IntKind.i64 (1 : Int), Value.int IntKind.i64 (0 : Int), Value.float FloatKind.f64 0]))))) := by kernel_rfl
theorem vc_ton (q on inn : Bool) (et at_ pt now : Int) (K : AE → Prop) : funK Tryz.prog toldV 100 20 337 [.agg (Array.mk [.bool q, .bool on, .int .i64 et, .int .i64 at_]), .bool inn, .int .i64 pt, .int .i64 now] st0 (fun r _ => K r) =
(  br (!inn)
  (K
  (AE.returned
  (Value.agg
  (Array.mk
  [Value.bool false, Value.bool false, Value.int IntKind.i64 (0 : Int), Value.int IntKind.i64 (0 : Int)]))))
  (br (!on)
  (br (decide (now > now))
  (K
  (AE.returned
  (Value.agg
  (Array.mk
  [Value.bool
  (IntKind.wrap IntKind.i64
  (if
  IntKind.wrap IntKind.u64 pt <
  IntKind.wrap IntKind.u64 (IntKind.wrap IntKind.u64 now - IntKind.wrap IntKind.u64 now) then
  IntKind.wrap IntKind.u64 pt
  else IntKind.wrap IntKind.u64 (IntKind.wrap IntKind.u64 now - IntKind.wrap IntKind.u64 now)) ==
  pt),
  Value.bool true,
  Value.int IntKind.i64
  (IntKind.wrap IntKind.i64
  (if
  IntKind.wrap IntKind.u64 pt <
  IntKind.wrap IntKind.u64 (IntKind.wrap IntKind.u64 now - IntKind.wrap IntKind.u64 now) then
  IntKind.wrap IntKind.u64 pt
  else IntKind.wrap IntKind.u64 (IntKind.wrap IntKind.u64 now - IntKind.wrap IntKind.u64 now))),
  Value.int IntKind.i64 now]))))
  (K
  (AE.returned
  (Value.agg
  (Array.mk
  [Value.bool ((0 : Int) == pt), Value.bool true, Value.int IntKind.i64 (0 : Int),
  Value.int IntKind.i64 now])))))
  (br (decide (now > at_))
  (K
  (AE.returned
  (Value.agg
  (Array.mk
  [Value.bool
  (IntKind.wrap IntKind.i64
  (if
  IntKind.wrap IntKind.u64 pt <
  IntKind.wrap IntKind.u64 (IntKind.wrap IntKind.u64 now - IntKind.wrap IntKind.u64 at_) then
  IntKind.wrap IntKind.u64 pt
  else IntKind.wrap IntKind.u64 (IntKind.wrap IntKind.u64 now - IntKind.wrap IntKind.u64 at_)) ==
  pt),
  Value.bool on,
  Value.int IntKind.i64
  (IntKind.wrap IntKind.i64
  (if
  IntKind.wrap IntKind.u64 pt <
  IntKind.wrap IntKind.u64 (IntKind.wrap IntKind.u64 now - IntKind.wrap IntKind.u64 at_) then
  IntKind.wrap IntKind.u64 pt
  else IntKind.wrap IntKind.u64 (IntKind.wrap IntKind.u64 now - IntKind.wrap IntKind.u64 at_))),
  Value.int IntKind.i64 at_]))))
  (K
  (AE.returned
  (Value.agg
  (Array.mk
  [Value.bool ((0 : Int) == pt), Value.bool on, Value.int IntKind.i64 (0 : Int),
  Value.int IntKind.i64 at_]))))))) := by kernel_rfl
theorem vc_trn (q : Bool) (K : AE → Prop) : funK Tryz.prog toldV 100 20 365 [.bool q] st0 (fun r _ => K r) =
(  br q
  (K
  (AE.returned
  (Value.agg
  (Array.mk
  [Value.int IntKind.i64 (1 : Int), Value.int IntKind.i64 (1 : Int), Value.float FloatKind.f64 0]))))
  (K
  (AE.returned
  (Value.agg
  (Array.mk
  [Value.int IntKind.i64 (1 : Int), Value.int IntKind.i64 (0 : Int), Value.float FloatKind.f64 0]))))) := by kernel_rfl
def laterN (now a : Int) : Int := IntKind.wrap .u64 (IntKind.wrap .u64 now - IntKind.wrap .u64 a)
def goesN (now a pt : Int) : Int := cond (decide (now > a)) (IntKind.wrap .i64 (if IntKind.wrap .u64 pt < laterN now a then IntKind.wrap .u64 pt else laterN now a)) 0
def one (q : Bool) : Int := cond q 1 0
def blkV (q on : Bool) (et a : Int) : Value := .agg (Array.mk [.bool q, .bool on, .int .i64 et, .int .i64 a])
def tonV (q on inn : Bool) (et a pt now : Int) : Value := blkV (cond inn (goesN now (cond on a now) pt == pt) false) inn (cond inn (goesN now (cond on a now) pt) 0) (cond inn (cond on a now) 0)
def truV (q : Bool) : Value := .agg (Array.mk [.int .i64 1, .int .i64 (one q), .float .f64 0])
theorem tr_eq (q : Bool) (K : AE → Prop) : funK Tryz.prog toldV 100 20 363 [.bool q] st0 (fun r _ => K r) = K (.returned (truV q)) := by
  rw [vc_tr]; cases q <;> rfl
theorem trn_eq (q : Bool) (K : AE → Prop) : funK Tryz.prog toldV 100 20 365 [.bool q] st0 (fun r _ => K r) = K (.returned (truV q)) := by
  rw [vc_trn]; cases q <;> rfl
theorem ton_eq (q on inn : Bool) (et a pt now : Int) (K : AE → Prop) : funK Tryz.prog toldV 100 20 337 [blkV q on et a, .bool inn, .int .i64 pt, .int .i64 now] st0 (fun r _ => K r) = K (.returned (tonV q on inn et a pt now)) := by
  show funK Tryz.prog toldV 100 20 337 [.agg (Array.mk [.bool q, .bool on, .int .i64 et, .int .i64 a]), .bool inn, .int .i64 pt, .int .i64 now] st0 (fun r _ => K r) = _
  rw [vc_ton]
  unfold tonV goesN laterN
  cases inn with
  | false => rfl
  | true =>
    cases on with
    | false => show br (decide (now > now)) _ _ = _; cases h : decide (now > now) <;> simp only [h, cond_true, cond_false] <;> rfl
    | true => show br (decide (now > a)) _ _ = _; cases h : decide (now > a) <;> simp only [h, cond_true, cond_false] <;> rfl
def trSpec : List Value → Option Value
  | [.bool q] => some (truV q)
  | _ => none
def blkSpec (f : Bool → Bool → Bool → Int → Int → Int → Int → Value) : List Value → Option Value
  | [.agg ⟨[.bool q, .bool on, .int .i64 et, .int .i64 a]⟩, .bool inn, .int .i64 pt, .int .i64 now] => some (f q on inn et a pt now)
  | _ => none
noncomputable def toldTk : Told := ((toldV.also 363 trSpec).also 365 trSpec).also 337 (blkSpec tonV)
theorem toldTk_ok : ToldS Tryz.prog toldTk := by
  refine Told.also_ok (Told.also_ok (Told.also_ok toldV_ok ?_) ?_) ?_
  · intro args v hv
    unfold trSpec at hv
    split at hv
    · rename_i q
      cases hv
      exact ⟨rfl, rfl, fun w args' ha => sym_is (fuel := 100) (n := 20) follows toldV_ok (Eq.mpr (tr_eq q fun r => r = .returned (truV q)) rfl) w args' ha⟩
    · cases hv
  · intro args v hv
    unfold trSpec at hv
    split at hv
    · rename_i q
      cases hv
      exact ⟨rfl, rfl, fun w args' ha => sym_is (fuel := 100) (n := 20) follows toldV_ok (Eq.mpr (trn_eq q fun r => r = .returned (truV q)) rfl) w args' ha⟩
    · cases hv
  · intro args v hv
    unfold blkSpec at hv
    split at hv
    · rename_i q on et a inn pt now
      cases hv
      exact ⟨rfl, rfl, fun w args' ha => sym_is (fuel := 100) (n := 20) follows toldV_ok (Eq.mpr (ton_eq q on inn et a pt now fun r => r = .returned (tonV q on inn et a pt now)) rfl) w args' ha⟩
    · cases hv
end Go.Proofs.YthajddbhjdkmnaaGreatDoor.Ev
