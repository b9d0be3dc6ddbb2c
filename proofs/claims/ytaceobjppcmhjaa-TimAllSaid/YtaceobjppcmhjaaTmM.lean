/-
  How long timers have been going: two ways to say it.
-/
import Derived.Test.YtaceobjppcmhjaaTimT
set_option linter.unusedVariables false
set_option linter.unusedSimpArgs false
namespace Go.Proofs.Ytaceobjppcmhjaa.Ev
open Go Go.Proofs Go.RowKit

theorem later_eq {now a : Int} (h : a ≤ now) (h1 : -4294967296 ≤ a) (h2 : now ≤ 4294967296) : laterN now a = now - a := by
  unfold laterN IntKind.wrap
  simp [IntKind.signed, IntKind.bits]
  omega
theorem goes_past {now a pt : Int} (h1 : -4294967296 ≤ a) (h2 : a ≤ 4294967296) (h3 : -4294967296 ≤ now) (h4 : now ≤ 4294967296) (h5 : 0 ≤ pt) (h6 : pt ≤ 4294967296) :
    goesN now a pt = pastN now a pt ∧ pastN now a pt ≤ pt ∧ pastN now a pt = (if now ≤ a then 0 else if now - a > pt then pt else now - a) := by
  unfold goesN pastN
  have hw : IntKind.wrap .u64 pt = pt := wu64 (by omega) (by omega)
  by_cases h : now ≤ a
  · have h' : ¬ now > a := by omega
    simp only [decide_eq_true h, decide_eq_false h', cond_true, cond_false, if_pos h]
    exact ⟨trivial, h5, trivial⟩
  · have h' : now > a := by omega
    have hl := later_eq (now := now) (a := a) (by omega) h1 h4
    have hwl : IntKind.wrap .i64 (now - a) = now - a := w64 (by omega) (by omega)
    have hwp : IntKind.wrap .i64 pt = pt := w64 (by omega) (by omega)
    simp only [decide_eq_true h', decide_eq_false h, cond_true, cond_false, hl, hw, if_neg h]
    by_cases hp : now - a > pt
    · have hp' : pt < now - a := hp
      simp only [if_pos hp', if_pos hp, decide_eq_true hp, cond_true, hwp]
      exact ⟨trivial, by omega, trivial⟩
    · have hp' : ¬ pt < now - a := hp
      simp only [if_neg hp', if_neg hp, decide_eq_false hp, cond_false, hwl]
      exact ⟨trivial, by omega, trivial⟩
end Go.Proofs.Ytaceobjppcmhjaa.Ev
