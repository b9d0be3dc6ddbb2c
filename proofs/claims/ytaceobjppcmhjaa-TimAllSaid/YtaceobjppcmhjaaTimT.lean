/-
  The functions of timers, told to the evaluator.
-/
import Derived.Test.YtaceobjppcmhjaaTimFn
set_option linter.unusedVariables false
set_option linter.unusedSimpArgs false
set_option maxRecDepth 100000
namespace Go.Proofs.Ytaceobjppcmhjaa.Ev
open Go Go.Proofs Go.RowKit

/-- how much later -/
def laterN (now a : Int) : Int := IntKind.wrap .u64 (IntKind.wrap .u64 now - IntKind.wrap .u64 a)
def goesN (now a pt : Int) : Int := cond (decide (now > a)) (IntKind.wrap .i64 (if IntKind.wrap .u64 pt < laterN now a then IntKind.wrap .u64 pt else laterN now a)) 0
def pastN (now a pt : Int) : Int := cond (decide (now ≤ a)) 0 (cond (decide (laterN now a > IntKind.wrap .u64 pt)) pt (IntKind.wrap .i64 (laterN now a)))
def one (q : Bool) : Int := cond q 1 0
def blkV (q on : Bool) (et a : Int) : Value := .agg (Array.mk [.bool q, .bool on, .int .i64 et, .int .i64 a])
def tonV (q on inn : Bool) (et a pt now : Int) : Value := blkV (cond inn (goesN now (cond on a now) pt == pt) false) inn (cond inn (goesN now (cond on a now) pt) 0) (cond inn (cond on a now) 0)
def tofV (q on inn : Bool) (et a pt now : Int) : Value := blkV (cond inn true (cond q (!(goesN now (cond on a now) pt == pt)) false)) (cond inn false (cond q true on)) (cond inn 0 (cond q (goesN now (cond on a now) pt) et)) (cond inn 0 (cond q (cond on a now) a))
/-- is a pulse there? -/
def tpB (on inn : Bool) (a pt now : Int) : Bool := cond inn true (cond on (!(goesN now a pt == pt)) false)
def tpV (q on inn : Bool) (et a pt now : Int) : Value := blkV (cond (tpB on inn a pt now) (!(goesN now (cond on a now) pt == pt)) false) (tpB on inn a pt now) (cond (tpB on inn a pt now) (goesN now (cond on a now) pt) 0) (cond (tpB on inn a pt now) (cond on a now) 0)
def truV (q : Bool) : Value := .agg (Array.mk [.int .i64 1, .int .i64 (one q), .float .f64 0])
theorem tr_eq (q : Bool) (K : AE → Prop) : funK Try.prog toldV 100 20 28 [.bool q] st0 (fun r _ => K r) = K (.returned (truV q)) := by
  rw [vc_tr]; cases q <;> rfl
theorem tr1_eq (q : Bool) (K : AE → Prop) : funK Try.prog toldV 100 20 22 [.bool q] st0 (fun r _ => K r) = K (.returned (.int .i64 (one q))) := by
  rw [vc_tr1]; cases q <;> rfl
theorem past_eq (now a pt : Int) (K : AE → Prop) : funK Try.prog toldV 100 20 21 [.int .i64 now, .int .i64 a, .int .i64 pt] st0 (fun r _ => K r) = K (.returned (.int .i64 (pastN now a pt))) := by
  rw [vc_past]
  unfold pastN laterN
  cases decide (now ≤ a) with
  | true => rfl
  | false => cases decide (IntKind.wrap .u64 (IntKind.wrap .u64 now - IntKind.wrap .u64 a) > IntKind.wrap .u64 pt) <;> rfl
theorem ton_eq (q on inn : Bool) (et a pt now : Int) (K : AE → Prop) : funK Try.prog toldV 100 20 15 [blkV q on et a, .bool inn, .int .i64 pt, .int .i64 now] st0 (fun r _ => K r) = K (.returned (tonV q on inn et a pt now)) := by
  show funK Try.prog toldV 100 20 15 [.agg (Array.mk [.bool q, .bool on, .int .i64 et, .int .i64 a]), .bool inn, .int .i64 pt, .int .i64 now] st0 (fun r _ => K r) = _
  rw [vc_ton]
  unfold tonV goesN laterN
  cases inn with
  | false => rfl
  | true =>
    cases on with
    | false => show br (decide (now > now)) _ _ = _; cases h : decide (now > now) <;> simp only [h, cond_true, cond_false] <;> rfl
    | true => show br (decide (now > a)) _ _ = _; cases h : decide (now > a) <;> simp only [h, cond_true, cond_false] <;> rfl
theorem tof_eq (q on inn : Bool) (et a pt now : Int) (K : AE → Prop) : funK Try.prog toldV 100 20 17 [blkV q on et a, .bool inn, .int .i64 pt, .int .i64 now] st0 (fun r _ => K r) = K (.returned (tofV q on inn et a pt now)) := by
  show funK Try.prog toldV 100 20 17 [.agg (Array.mk [.bool q, .bool on, .int .i64 et, .int .i64 a]), .bool inn, .int .i64 pt, .int .i64 now] st0 (fun r _ => K r) = _
  rw [vc_tof]
  unfold tofV goesN laterN
  cases inn with
  | true => rfl
  | false =>
    cases q with
    | false => rfl
    | true =>
      cases on with
      | false => show br (decide (now > now)) _ _ = _; cases h : decide (now > now) <;> simp only [h, cond_true, cond_false] <;> rfl
      | true => show br (decide (now > a)) _ _ = _; cases h : decide (now > a) <;> simp only [h, cond_true, cond_false] <;> rfl
theorem tp_eq (q on inn : Bool) (et a pt now : Int) (K : AE → Prop) : funK Try.prog toldV 100 20 18 [blkV q on et a, .bool inn, .int .i64 pt, .int .i64 now] st0 (fun r _ => K r) = K (.returned (tpV q on inn et a pt now)) := by
  show funK Try.prog toldV 100 20 18 [.agg (Array.mk [.bool q, .bool on, .int .i64 et, .int .i64 a]), .bool inn, .int .i64 pt, .int .i64 now] st0 (fun r _ => K r) = _
  rw [vc_tp]
  unfold tpV tpB goesN laterN
  cases inn with
  | true =>
    cases on with
    | false =>
      show br (decide (now > now)) _ _ = _
      cases h : decide (now > now) with
      | true => simp only [cond_true, cond_false, h, br_t]; generalize (_ == pt) = z; cases z <;> rfl
      | false => simp only [cond_true, cond_false, h, br_f]; generalize (_ == pt) = z; cases z <;> rfl
    | true =>
      show br (decide (now > a)) _ _ = _
      cases h : decide (now > a) with
      | true => simp only [cond_true, cond_false, h, br_t]; generalize (_ == pt) = z; cases z <;> rfl
      | false => simp only [cond_true, cond_false, h, br_f]; generalize (_ == pt) = z; cases z <;> rfl
  | false =>
    cases on with
    | false => rfl
    | true =>
      show br (decide (now > a)) _ _ = _
      cases h : decide (now > a) with
      | true => simp only [cond_true, cond_false, h, br_t]; generalize (_ == pt) = z; cases z <;> rfl
      | false => simp only [cond_true, cond_false, h, br_f]; generalize (_ == pt) = z; cases z <;> rfl
def trSpec : List Value → Option Value
  | [.bool q] => some (truV q)
  | _ => none
def tr1Spec : List Value → Option Value
  | [.bool q] => some (.int .i64 (one q))
  | _ => none
def pastSpec : List Value → Option Value
  | [.int .i64 now, .int .i64 a, .int .i64 pt] => some (.int .i64 (pastN now a pt))
  | _ => none
def blkSpec (f : Bool → Bool → Bool → Int → Int → Int → Int → Value) : List Value → Option Value
  | [.agg ⟨[.bool q, .bool on, .int .i64 et, .int .i64 a]⟩, .bool inn, .int .i64 pt, .int .i64 now] => some (f q on inn et a pt now)
  | _ => none
def toldT : Told := (((((toldV.also 28 trSpec).also 22 tr1Spec).also 21 pastSpec).also 15 (blkSpec tonV)).also 17 (blkSpec tofV)).also 18 (blkSpec tpV)
theorem toldT_ok : ToldS Try.prog toldT := by
  refine Told.also_ok (Told.also_ok (Told.also_ok (Told.also_ok (Told.also_ok (Told.also_ok toldV_ok ?_) ?_) ?_) ?_) ?_) ?_
  · intro args v hv
    unfold trSpec at hv
    split at hv
    · rename_i q
      cases hv
      exact ⟨rfl, rfl, fun w args' ha => sym_is (fuel := 100) (n := 20) follows toldV_ok (Eq.mpr (tr_eq q fun r => r = .returned (truV q)) rfl) w args' ha⟩
    · cases hv
  · intro args v hv
    unfold tr1Spec at hv
    split at hv
    · rename_i q
      cases hv
      exact ⟨rfl, rfl, fun w args' ha => sym_is (fuel := 100) (n := 20) follows toldV_ok (Eq.mpr (tr1_eq q fun r => r = .returned (.int .i64 (one q))) rfl) w args' ha⟩
    · cases hv
  · intro args v hv
    unfold pastSpec at hv
    split at hv
    · rename_i now a pt
      cases hv
      exact ⟨rfl, rfl, fun w args' ha => sym_is (fuel := 100) (n := 20) follows toldV_ok (Eq.mpr (past_eq now a pt fun r => r = .returned (.int .i64 (pastN now a pt))) rfl) w args' ha⟩
    · cases hv
  · intro args v hv
    unfold blkSpec at hv
    split at hv
    · rename_i q on et a inn pt now
      cases hv
      exact ⟨rfl, rfl, fun w args' ha => sym_is (fuel := 100) (n := 20) follows toldV_ok (Eq.mpr (ton_eq q on inn et a pt now fun r => r = .returned (tonV q on inn et a pt now)) rfl) w args' ha⟩
    · cases hv
  · intro args v hv
    unfold blkSpec at hv
    split at hv
    · rename_i q on et a inn pt now
      cases hv
      exact ⟨rfl, rfl, fun w args' ha => sym_is (fuel := 100) (n := 20) follows toldV_ok (Eq.mpr (tof_eq q on inn et a pt now fun r => r = .returned (tofV q on inn et a pt now)) rfl) w args' ha⟩
    · cases hv
  · intro args v hv
    unfold blkSpec at hv
    split at hv
    · rename_i q on et a inn pt now
      cases hv
      exact ⟨rfl, rfl, fun w args' ha => sym_is (fuel := 100) (n := 20) follows toldV_ok (Eq.mpr (tp_eq q on inn et a pt now fun r => r = .returned (tpV q on inn et a pt now)) rfl) w args' ha⟩
    · cases hv
end Go.Proofs.Ytaceobjppcmhjaa.Ev
