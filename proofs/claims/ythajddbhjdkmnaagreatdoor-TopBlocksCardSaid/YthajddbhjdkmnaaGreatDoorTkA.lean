/-
  A timer that is on, in whole numbers: it is as late as was said where so much time went by.
-/
import Derived.Test.YthajddbhjdkmnaaGreatDoorTkT
import Derived.Test.YthajddbhjdkmnaaGreatDoorGi
set_option linter.unusedVariables false
namespace Go.Proofs.YthajddbhjdkmnaaGreatDoor.Ev
open Go
theorem goes_eq {now a pt : Int} (h0 : 0 ≤ a) (h1 : a ≤ now) (h2 : now < 1000000000) (h3 : 0 ≤ pt) (h4 : pt < 1000000000) : (goesN now a pt == pt) = decide (pt ≤ now - a) := by
  have e1 : laterN now a = now - a := by
    unfold laterN
    have ha : IntKind.wrap .u64 now = now := wu64 (by omega) (by omega)
    have hb : IntKind.wrap .u64 a = a := wu64 h0 (by omega)
    rw [ha, hb, wu64 (by omega) (by omega)]
  unfold goesN
  rw [e1, wu64 h3 (by omega)]
  rcases Int.lt_or_le a now with h | h
  · rw [decide_eq_true (show now > a from h), cond_true]
    by_cases hp : pt < now - a
    · rw [if_pos hp, w64 (by omega) (by omega)]
      simp; omega
    · rw [if_neg hp, w64 (by omega) (by omega)]
      rcases Int.lt_or_eq_of_le (Int.not_lt.1 hp) with hq | hq
      · rw [decide_eq_false (by omega)]; simp; omega
      · rw [decide_eq_true (by omega)]; simp; omega
  · have : now = a := by omega
    subst this
    rw [decide_eq_false (by omega), cond_false]
    by_cases hp : pt = 0
    · subst hp; simp
    · rw [decide_eq_false (by omega)]; simp; omega
end Go.Proofs.YthajddbhjdkmnaaGreatDoor.Ev
