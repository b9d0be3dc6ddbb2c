/-
  RealAll: what has to hold holds.
-/
import Derived.Test.YtokpobfimphhgaaRealAllV
import Derived.Test.YtokpobfimphhgaaPost
set_option linter.unusedVariables false
set_option linter.unusedSimpArgs false
namespace Go.Proofs.Ytokpobfimphhgaa.Ev
open Go Go.Proofs Go.RowKit

theorem same_me (a : Nat) : sameN a a = true := by simp [sameN]
theorem ra_loop1 {β : Bs} (hβ : β.X.length = 0) (p : RA) : LoopJ Try.prog β (exRA p) 0 (loopOf Try.prog 3 0) (F1 p (0 : Nat)) (mkS []) := by
  refine loop_rule (fun k : Nat => k ≤ 20) (fun k => F1 p k) (fun _ => mkS []) (fun k => 20 - k) (fun k hk K hK => ?_) 0 (by omega)
  refine roundJ_ok (E := 0) (lvs := lvR) (un := fun _ => 0) (fuel := 100) (n := 20) (ex := fun _ _ => False) follows toldF_ok hβ (lv := lv1) ?_
  rw [vc_ra1]
  by_cases h : k < 20
  · have c1 : decide ((k : Int) < 20) = true := decide_eq_true (by omega)
    have hw : IntKind.wrap .i64 ((k : Int) + 1) = ((k + 1 : Nat) : Int) := w64 (by omega) (by omega)
    have hnext : onP (fun x f st => (x = .normal ∧ ∃ p' : Nat, p' ≤ 20 ∧ 20 - p' < 20 - k ∧ Seen β f st (F1 p p') (mkS [])) ∨ (x ≠ .normal ∧ (∀ v, x ≠ .panic v) ∧ ∃ f1 st1, Seen β f st f1 st1 ∧ K x f1 st1)) .normal (shp1 p ((k + 1 : Nat) : Int)) :=
      .inl ⟨rfl, k + 1, by omega, by omega, Seen.refl _ _ _⟩
    simp only [c1, same_me, beq_self_eq_true, Bool.not_true, br_t, br_f, hw]
    exact br_of (fun _ => hnext) (fun _ => hnext)
  · have c1 : decide ((k : Int) < 20) = false := decide_eq_false (by omega)
    simp only [c1, br_f]
    exact .inr ⟨by simp, by simp, _, _, Seen.refl _ _ _, hK⟩
theorem ra_loop2 {β : Bs} (hβ : β.X.length = 0) (p : RA) : LoopJ Try.prog β (exRA p) 2 (loopOf Try.prog 3 2) (F2 p (0 : Nat)) (mkS []) := by
  refine loop_rule (fun k : Nat => k ≤ 7) (fun k => F2 p k) (fun _ => mkS []) (fun k => 7 - k) (fun k hk K hK => ?_) 0 (by omega)
  refine roundJ_ok (E := 0) (lvs := lvR) (un := fun _ => 0) (fuel := 100) (n := 20) (ex := fun _ _ => False) follows toldF_ok hβ (lv := lv2) ?_
  rw [vc_ra2]
  by_cases h : k < 7
  · have c1 : decide ((k : Int) < 7) = true := decide_eq_true (by omega)
    have hw : IntKind.wrap .i64 ((k : Int) + 1) = ((k + 1 : Nat) : Int) := w64 (by omega) (by omega)
    have e1 : (whI k p.a != whI k p.a) = false := by simp
    have e2 : (whE k p.a != whE k p.a) = false := by simp
    simp only [c1, e1, e2, br_t, br_f, hw]
    exact .inl ⟨rfl, k + 1, by omega, by omega, Seen.refl _ _ _⟩
  · have c1 : decide ((k : Int) < 7) = false := decide_eq_false (by omega)
    simp only [c1, br_f]
    exact .inr ⟨by simp, by simp, _, _, Seen.refl _ _ _, hK⟩
theorem all_law (op u v x : Int) (w : World) : Calls Try.prog 3 #[.int .i64 op, .int .u64 u, .int .u64 v, .int .u64 x] w fun e w' => e = .returned (.bool true) ∧ Below w.heap.size w w' := by
  refine law_scal (args := [.int .i64 op, .int .u64 u, .int .u64 v, .int .u64 x]) (fuel := 100) (n := 20) (un := fun _ => 0) (lvs := lvR) (ex := exRA ⟨op, u, u.toNat, v.toNat, x.toNat⟩) follows toldF_ok rfl w fun β hβ => ?_
  have hβ0 : β.X.length = 0 := by rw [hβ]; rfl
  rw [vc_ra]
  refine ⟨ra_loop1 hβ0 ⟨op, u, u.toNat, v.toNat, x.toNat⟩, ra_loop2 hβ0 _, ?_⟩
  dsimp only
  simp only [same_me, beq_self_eq_true, need_t]
end Go.Proofs.Ytokpobfimphhgaa.Ev
