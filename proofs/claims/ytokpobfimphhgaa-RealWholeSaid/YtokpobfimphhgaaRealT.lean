/-
  The functions of reals, told to the evaluator.
-/
import Derived.Test.YtokpobfimphhgaaRealFn
import Derived.Test.YtokpobfimphhgaaRealTr
set_option linter.unusedVariables false
set_option linter.unusedSimpArgs false
set_option maxRecDepth 100000
namespace Go.Proofs.Ytokpobfimphhgaa.Ev
open Go Go.Proofs Go.RowKit

abbrev od (a b : Nat) : Option Ordering := Ieee.double.order a b
theorem pull3 (K : AE → Prop) (c : Bool) (x y : Nat) (t u p q : Bool) : br c (K (.returned (.tuple (Array.mk [.float .f64 x, .bool t, .bool p])))) (K (.returned (.tuple (Array.mk [.float .f64 y, .bool u, .bool q])))) =
    K (.returned (.tuple (Array.mk [.float .f64 (cond c x y), .bool (cond c t u), .bool (cond c p q)]))) := by cases c <;> rfl
theorem pull1 (K : AE → Prop) (c : Bool) (t u : Bool) : br c (K (.returned (.bool t))) (K (.returned (.bool u))) = K (.returned (.bool (cond c t u))) := by cases c <;> rfl
theorem pull2 (K : AE → Prop) (c : Bool) (x y e f : Int) : br c (K (.returned (.tuple (Array.mk [.int .i64 x, .int .i64 e])))) (K (.returned (.tuple (Array.mk [.int .i64 y, .int .i64 f])))) =
    K (.returned (.tuple (Array.mk [.int .i64 (cond c x y), .int .i64 (cond c e f)]))) := by cases c <;> rfl
def doF (o : Int) (a b : Nat) : Nat := cond (o == 4) (ariR .f64 .add a b) (cond (o == 5) (ariR .f64 .sub a b) (cond (o == 6) (ariR .f64 .mul a b) (cond (o == 7) (ariR .f64 .quo a b) (cond (o == 16) (negR a) (cond (o == 9) 0 (cond (o == 10) 0 (cond (o == 11) 0 (cond (o == 12) 0 0))))))))
def doT (o : Int) (a b : Nat) : Bool := cond (o == 4) false (cond (o == 5) false (cond (o == 6) false (cond (o == 7) false (cond (o == 16) false (cond (o == 9) (od a b == some .eq) (cond (o == 10) (od a b != some .eq) (cond (o == 11) (od a b == some .lt) (cond (o == 12) (od a b == some .lt || od a b == some .eq) false))))))))
def doO (o : Int) : Bool := cond (o == 4) true (cond (o == 5) true (cond (o == 6) true (cond (o == 7) true (cond (o == 16) true (cond (o == 9) true (cond (o == 10) true (cond (o == 11) true (cond (o == 12) true false))))))))
def doV (o : Int) (a b : Nat) : Value := .tuple (Array.mk [.float .f64 (doF o a b), .bool (doT o a b), .bool (doO o)])
theorem do_eq (o : Int) (a b : Nat) (K : AE → Prop) : funK Try.prog toldSame 100 20 11 [.int .i64 o, .float .f64 a, .float .f64 b] st0 (fun r _ => K r) = K (.returned (doV o a b)) := by
  rw [vc_do]
  simp only [pull3]
  rfl
theorem do1_eq (o : Int) (a b : Nat) (K : AE → Prop) : funK Try.prog toldSame 100 20 12 [.int .i64 o, .float .f64 a, .float .f64 b] st0 (fun r _ => K r) = K (.returned (doV o a b)) := by
  rw [vc_do1]
  simp only [pull3]
  rfl
def beN (a b c : Nat) : Bool := cond (nanB .f64 a || nanB .f64 b) (nanB .f64 a != nanB .f64 b) (cond (od a b == some .eq) false (od (cond (od a b == some .lt) (ariR .f64 .sub b a) (ariR .f64 .sub a b)) (cond (od c 0 == some .gt) c 0) == some .gt))
theorem nan_ord (a : Nat) : (Ieee.Format.order (FloatKind.format .f64) a a != some .eq) = nanB .f64 a := order_self a
theorem nan_ord' (a : Nat) : (Ieee.Format.order (FloatKind.format .f64) a a == some .eq) = !nanB .f64 a := by
  have := order_self a
  have h : (Ieee.double.order a a != some .eq) = !(Ieee.double.order a a == some .eq) := rfl
  rw [h] at this
  show (Ieee.double.order a a == some .eq) = _
  rw [← this, Bool.not_not]
theorem be_mm {a b : Nat} (h1 : nanB .f64 a = false) (h2 : nanB .f64 b = false) (h3 : (od a b == some .eq) = false) : ariR .f64 .sub (mmF true .f64 a b) (mmF false .f64 a b) = cond (od a b == some .lt) (ariR .f64 .sub b a) (ariR .f64 .sub a b) := by
  unfold mmF
  show ariR .f64 .sub (match od a b with | none => _ | some .lt => _ | some .gt => _ | some .eq => _) (match od a b with | none => _ | some .lt => _ | some .gt => _ | some .eq => _) = _
  cases ho : od a b with
  | none => exact absurd ho (order_some h1 h2)
  | some o => cases o with
    | lt => rfl
    | gt => rfl
    | eq => rw [ho] at h3; cases h3
/-- nought, with whichever sign, is nought -/
theorem od_zero {c : Nat} (h : od c 0 = some .eq) (d : Nat) : od d c = od d 0 := by
  have r0 : Ieee.double.read 0 = .number false 0 (-1074) := by decide +kernel
  have lp : Ieee.double.leastPlace = -1074 := by decide +kernel
  have bn : Ieee.double.binade = 4503599627370496 := by decide +kernel
  have hc : ∃ s, Ieee.double.read c = .number s 0 (-1074) := by
    unfold od Ieee.Format.order at h
    rw [r0] at h
    cases hr : Ieee.double.read c with
    | nan s p => rw [hr] at h; cases h
    | infinity s => rw [hr] at h; cases s <;> cases h
    | number s m i =>
      rw [hr] at h
      simp only [Ieee.Datum.order, Option.some.injEq] at h
      have h : compare (Ieee.signed s m (i - min i (-1074)).toNat) (Ieee.signed false 0 (-1074 - min i (-1074)).toNat) = .eq := h
      have e0 : Ieee.signed false 0 (-1074 - min i (-1074)).toNat = 0 := by simp [Ieee.signed]
      rw [e0] at h
      have hz : Ieee.signed s m (i - min i (-1074)).toNat = 0 := by
        simp only [compare, compareOfLessAndEq] at h
        split at h
        · cases h
        · split at h
          · assumption
          · cases h
      have hm : m = 0 := by
        unfold Ieee.signed at hz
        have hp : 0 < 2 ^ (i - min i (-1074)).toNat := Nat.pow_pos (by omega)
        have hx : m * 2 ^ (i - min i (-1074)).toNat = 0 := by
          rw [Nat.shiftLeft_eq] at hz
          split at hz <;> omega
        rcases Nat.mul_eq_zero.1 hx with h | h
        · exact h
        · omega
      subst hm
      refine ⟨s, ?_⟩
      unfold Ieee.Format.read at hr
      simp only at hr
      split at hr
      · injection hr with _ _ h6; rw [← h6, lp]
      · split at hr
        · injection hr with _ h5 _
          rw [bn] at h5
          omega
        · split at hr <;> cases hr
  obtain ⟨s, hc⟩ := hc
  unfold od Ieee.Format.order
  rw [hc, r0]
  cases Ieee.double.read d with
  | nan t p => rfl
  | infinity t => rfl
  | number t m i => simp [Ieee.Datum.order, Ieee.signed]
theorem be_eq (a b c : Nat) (K : AE → Prop) : funK Try.prog toldSame 100 20 20 [.float .f64 a, .float .f64 b, .float .f64 c] st0 (fun r _ => K r) = K (.returned (.bool (beN a b c))) := by
  rw [vc_be]
  simp only [pull1, nan_ord]
  congr 3
  unfold beN
  cases h1 : nanB .f64 a with
  | true => cases nanB .f64 b <;> rfl
  | false =>
    cases h2 : nanB .f64 b with
    | true => rfl
    | false =>
      show cond (od a b == some .eq) false _ = cond (od a b == some .eq) false _
      cases h3 : (od a b == some .eq) with
      | true => rfl
      | false =>
        rw [be_mm h1 h2 h3]
        show cond (!(od c 0 == some .gt)) _ _ = _
        cases (od c 0 == some .gt) <;> rfl
theorem be1_eq (a b c : Nat) (K : AE → Prop) : funK Try.prog toldSame 100 20 21 [.float .f64 a, .float .f64 b, .float .f64 c] st0 (fun r _ => K r) = K (.returned (.bool (beN a b c))) := by
  rw [vc_be1]
  simp only [pull1, nan_ord, nan_ord']
  congr 3
  unfold beN
  cases h1 : nanB .f64 a with
  | true => cases nanB .f64 b <;> rfl
  | false =>
    cases h2 : nanB .f64 b with
    | true => rfl
    | false =>
      show cond (od a b == some .eq) false _ = cond (od a b == some .eq) false _
      cases h3 : (od a b == some .eq) with
      | true => rfl
      | false =>
        show cond (!(od c 0 == some .gt || od c 0 == some .eq)) (cond (od a b == some .lt) (od (ariR .f64 .sub b a) 0 == some .gt) (od (ariR .f64 .sub a b) 0 == some .gt)) (cond (od a b == some .lt) (od (ariR .f64 .sub b a) c == some .gt) (od (ariR .f64 .sub a b) c == some .gt)) = (od (cond (od a b == some .lt) (ariR .f64 .sub b a) (ariR .f64 .sub a b)) (cond (od c 0 == some .gt) c 0) == some .gt)
        cases ho : od c 0 with
        | none => cases (od a b == some .lt) <;> rfl
        | some o => cases o with
          | lt => cases (od a b == some .lt) <;> rfl
          | gt => cases (od a b == some .lt) <;> rfl
          | eq =>
            rw [od_zero ho, od_zero ho]
            cases (od a b == some .lt) <;> rfl
/-- is a whole part within? -/
def okq (L H a : Nat) : Bool := cond (od (truncR a) L == some .gt || od (truncR a) L == some .eq) (od (truncR a) H == some .lt) false
def whI (k : Int) (a : Nat) : Int := cond (k == 2) (cond (okq 13898108450065350656 4674736413210574848 a) (((FloatKind.decode .f64 (truncR a)).toInt .zero).getD 0) 0) (cond (k == 3) (cond (okq 13970166044103278592 4746794007248502784 a) (((FloatKind.decode .f64 (truncR a)).toInt .zero).getD 0) 0) (cond (k == 4) (cond (okq 14114281232179134464 4890909195324358656 a) (((FloatKind.decode .f64 (truncR a)).toInt .zero).getD 0) 0) 0))
def whE (k : Int) (a : Nat) : Int := cond (k == 2) (cond (okq 13898108450065350656 4674736413210574848 a) 0 7) (cond (k == 3) (cond (okq 13970166044103278592 4746794007248502784 a) 0 7) (cond (k == 4) (cond (okq 14114281232179134464 4890909195324358656 a) 0 7) 4))
def whV (k : Int) (a : Nat) : Value := .tuple (Array.mk [.int .i64 (whI k a), .int .i64 (whE k a)])
theorem okq_in {L H q a : Nat} (hL : Ieee.double.read L = .number true (2 ^ 52) ((q : Int) - 52)) (hH : Ieee.double.read H = .number false (2 ^ 52) ((q : Int) - 52)) (hq : q ≤ 63) (h : okq L H a = true) :
    (!nanB .f64 (truncR a)) = true ∧ (intIn .i64 (Ieee.Datum.toInt .zero (FloatKind.decode .f64 (truncR a)))) = true := by
  unfold okq at h
  cases h1 : (od (truncR a) L == some .gt || od (truncR a) L == some .eq) with
  | false => rw [h1] at h; cases h
  | true =>
    rw [h1] at h
    have h2 : od (truncR a) H = some .lt := by simpa using h
    have h3 : od (truncR a) L = some .gt ∨ od (truncR a) L = some .eq := by simpa using h1
    refine ⟨?_, ?_⟩
    · cases hn : nanB .f64 (truncR a) with
      | false => rfl
      | true => have := order_nan (a := truncR a) (b := H) (.inl hn); rw [show Ieee.double.order (truncR a) H = some .lt from h2] at this; cases this
    · obtain ⟨v, e1, e2, e3, _⟩ := whole_in hL hH hq h2 h3
      rw [e1]
      exact decide_eq_true ⟨e2, e3⟩
theorem wh_one {L H q a : Nat} (hL : Ieee.double.read L = .number true (2 ^ 52) ((q : Int) - 52)) (hH : Ieee.double.read H = .number false (2 ^ 52) ((q : Int) - 52)) (hq : q ≤ 63) (X Y : Prop) :
    br (od (truncR a) L == some .gt || od (truncR a) L == some .eq) (br (od (truncR a) H == some .lt) (need (!nanB .f64 (truncR a)) (need (intIn .i64 (Ieee.Datum.toInt .zero (FloatKind.decode .f64 (truncR a)))) X)) Y) Y = br (okq L H a) X Y := by
  cases h : okq L H a with
  | true =>
    obtain ⟨h1, h2⟩ := okq_in hL hH hq h
    rw [h1, h2]
    unfold okq at h
    cases h3 : (od (truncR a) L == some .gt || od (truncR a) L == some .eq) with
    | false => rw [h3] at h; cases h
    | true => rw [h3] at h; simp only [cond_true] at h; rw [h]; rfl
  | false =>
    unfold okq at h
    cases h3 : (od (truncR a) L == some .gt || od (truncR a) L == some .eq) with
    | false => rfl
    | true => rw [h3] at h; simp only [cond_true] at h; rw [h]; rfl
theorem wh_two {L H q a : Nat} (hL : Ieee.double.read L = .number true (2 ^ 52) ((q : Int) - 52)) (hH : Ieee.double.read H = .number false (2 ^ 52) ((q : Int) - 52)) (hq : q ≤ 63) (X Y : Prop) :
    br (nanB .f64 a) Y (br (od (truncR a) L == some .lt) Y (br (od (truncR a) H == some .gt || od (truncR a) H == some .eq) Y (need (!nanB .f64 (truncR a)) (need (intIn .i64 (Ieee.Datum.toInt .zero (FloatKind.decode .f64 (truncR a)))) X)))) = br (okq L H a) X Y := by
  cases hn : nanB .f64 a with
  | true =>
    have ho : od (truncR a) L = none := order_nan (.inl (by rw [nan_trunc]; exact hn))
    have : okq L H a = false := by unfold okq; rw [ho]; rfl
    rw [this]; rfl
  | false =>
    have hnL : nanB .f64 L = false := by
      cases hq : nanB .f64 L with
      | false => rfl
      | true => obtain ⟨s, p, e⟩ := nan_is hq; rw [hL] at e; cases e
    have hnH : nanB .f64 H = false := by
      cases hq : nanB .f64 H with
      | false => rfl
      | true => obtain ⟨s, p, e⟩ := nan_is hq; rw [hH] at e; cases e
    have hnt : nanB .f64 (truncR a) = false := by rw [nan_trunc]; exact hn
    have oL := order_some hnt hnL
    have oH := order_some hnt hnH
    cases h : okq L H a with
    | true =>
      obtain ⟨h1, h2⟩ := okq_in hL hH hq h
      rw [h1, h2]
      unfold okq at h
      cases eL : od (truncR a) L with
      | none => exact absurd eL oL
      | some o1 =>
        rw [eL] at h
        cases eH : od (truncR a) H with
        | none => exact absurd eH oH
        | some o2 =>
          rw [eH] at h
          cases o1 <;> cases o2 <;> first | rfl | (exact absurd h (by decide))
    | false =>
      unfold okq at h
      cases eL : od (truncR a) L with
      | none => exact absurd eL oL
      | some o1 =>
        rw [eL] at h
        cases eH : od (truncR a) H with
        | none => exact absurd eH oH
        | some o2 =>
          rw [eH] at h
          cases o1 <;> cases o2 <;> first | rfl | (exact absurd h (by decide))
theorem rd15 : Ieee.double.read 13898108450065350656 = .number true (2 ^ 52) (((15 : Nat) : Int) - 52) ∧ Ieee.double.read 4674736413210574848 = .number false (2 ^ 52) (((15 : Nat) : Int) - 52) := by decide +kernel
theorem rd31 : Ieee.double.read 13970166044103278592 = .number true (2 ^ 52) (((31 : Nat) : Int) - 52) ∧ Ieee.double.read 4746794007248502784 = .number false (2 ^ 52) (((31 : Nat) : Int) - 52) := by decide +kernel
theorem rd63 : Ieee.double.read 14114281232179134464 = .number true (2 ^ 52) (((63 : Nat) : Int) - 52) ∧ Ieee.double.read 4890909195324358656 = .number false (2 ^ 52) (((63 : Nat) : Int) - 52) := by decide +kernel
theorem wh_eq (k : Int) (a : Nat) (K : AE → Prop) : funK Try.prog toldSame 100 20 14 [.int .i64 k, .float .f64 a] st0 (fun r _ => K r) = K (.returned (whV k a)) := by
  rw [vc_wh]
  have h := fun X Y => wh_one (a := a) rd15.1 rd15.2 (by omega) X Y
  have h' := fun X Y => wh_one (a := a) rd31.1 rd31.2 (by omega) X Y
  have h'' := fun X Y => wh_one (a := a) rd63.1 rd63.2 (by omega) X Y
  unfold od at h h' h''
  have hf : FloatKind.format .f64 = Ieee.double := rfl
  rw [hf, h, h', h'']
  simp only [pull2]
  rfl
theorem wh1_eq (k : Int) (a : Nat) (K : AE → Prop) : funK Try.prog toldSame 100 20 15 [.int .i64 k, .float .f64 a] st0 (fun r _ => K r) = K (.returned (whV k a)) := by
  rw [vc_wh1]
  simp only [nan_ord]
  have h := fun X Y => wh_two (a := a) rd15.1 rd15.2 (by omega) X Y
  have h' := fun X Y => wh_two (a := a) rd31.1 rd31.2 (by omega) X Y
  have h'' := fun X Y => wh_two (a := a) rd63.1 rd63.2 (by omega) X Y
  unfold od at h h' h''
  have hf : FloatKind.format .f64 = Ieee.double := rfl
  rw [hf, h, h', h'']
  simp only [pull2]
  rfl
def doSpec : List Value → Option Value
  | [.int .i64 o, .float .f64 a, .float .f64 b] => some (doV o a b)
  | _ => none
def beSpec : List Value → Option Value
  | [.float .f64 a, .float .f64 b, .float .f64 c] => some (.bool (beN a b c))
  | _ => none
def whSpec : List Value → Option Value
  | [.int .i64 k, .float .f64 a] => some (whV k a)
  | _ => none
def toldF : Told := (((((toldSame.also 11 doSpec).also 12 doSpec).also 20 beSpec).also 21 beSpec).also 14 whSpec).also 15 whSpec
theorem toldF_ok : ToldS Try.prog toldF := by
  refine Told.also_ok (Told.also_ok (Told.also_ok (Told.also_ok (Told.also_ok (Told.also_ok toldSame_ok ?_) ?_) ?_) ?_) ?_) ?_
  · intro args v hv
    unfold doSpec at hv
    split at hv
    · rename_i o a b
      cases hv
      exact ⟨rfl, rfl, fun w args' ha => sym_is (fuel := 100) (n := 20) follows toldSame_ok (Eq.mpr (do_eq o a b fun r => r = .returned (doV o a b)) rfl) w args' ha⟩
    · cases hv
  · intro args v hv
    unfold doSpec at hv
    split at hv
    · rename_i o a b
      cases hv
      exact ⟨rfl, rfl, fun w args' ha => sym_is (fuel := 100) (n := 20) follows toldSame_ok (Eq.mpr (do1_eq o a b fun r => r = .returned (doV o a b)) rfl) w args' ha⟩
    · cases hv
  · intro args v hv
    unfold beSpec at hv
    split at hv
    · rename_i a b c
      cases hv
      exact ⟨rfl, rfl, fun w args' ha => sym_is (fuel := 100) (n := 20) follows toldSame_ok (Eq.mpr (be_eq a b c fun r => r = .returned (.bool (beN a b c))) rfl) w args' ha⟩
    · cases hv
  · intro args v hv
    unfold beSpec at hv
    split at hv
    · rename_i a b c
      cases hv
      exact ⟨rfl, rfl, fun w args' ha => sym_is (fuel := 100) (n := 20) follows toldSame_ok (Eq.mpr (be1_eq a b c fun r => r = .returned (.bool (beN a b c))) rfl) w args' ha⟩
    · cases hv
  · intro args v hv
    unfold whSpec at hv
    split at hv
    · rename_i k a
      cases hv
      exact ⟨rfl, rfl, fun w args' ha => sym_is (fuel := 100) (n := 20) follows toldSame_ok (Eq.mpr (wh_eq k a fun r => r = .returned (whV k a)) rfl) w args' ha⟩
    · cases hv
  · intro args v hv
    unfold whSpec at hv
    split at hv
    · rename_i k a
      cases hv
      exact ⟨rfl, rfl, fun w args' ha => sym_is (fuel := 100) (n := 20) follows toldSame_ok (Eq.mpr (wh1_eq k a fun r => r = .returned (whV k a)) rfl) w args' ha⟩
    · cases hv
end Go.Proofs.Ytokpobfimphhgaa.Ev
