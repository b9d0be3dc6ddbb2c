/-
  The laws of the evaluator's tables and lists.
-/
import Derived.Test.YtokpobfimphhgaaEv
set_option linter.unusedVariables false
set_option linter.unusedSimpArgs false
namespace Go.Proofs.Ytokpobfimphhgaa.Ev
open Go

theorem Tr.get_put {α : Type} : ∀ (f : Nat) (t : Tr α) (k : Nat) (x : Option α) (j : Nat), k + 1 < 2 ^ f → (Tr.put f t k x).get j = if j = k then x else t.get j := by
  intro f
  induction f with
  | zero => intro t k x j h; simp at h
  | succ f ih =>
    intro t k x j h
    have hp : (2 : Nat) ^ (f + 1) = 2 * 2 ^ f := by rw [Nat.pow_succ]; omega
    have hl : ∀ (v : Option α) (l r : Tr α), (cond (Nat.beq k 0) (Tr.node x l r) (cond (Nat.beq (k % 2) 1) (.node v (Tr.put f l (k / 2) x) r) (.node v l (Tr.put f r (k / 2 - 1) x)))).get j = if j = k then x else (Tr.node v l r).get j := by
      intro v l r
      cases hk : Nat.beq k 0
      · have hk0 : k ≠ 0 := Nat.ne_of_beq_eq_false hk
        cases ho : Nat.beq (k % 2) 1
        · have hk1 : k % 2 ≠ 1 := Nat.ne_of_beq_eq_false ho
          simp only [cond_false, cond_true, Tr.get]
          cases hj : Nat.beq j 0
          · have hj0 : j ≠ 0 := Nat.ne_of_beq_eq_false hj
            cases hjo : Nat.beq (j % 2) 1
            · have hj1 : j % 2 ≠ 1 := Nat.ne_of_beq_eq_false hjo
              simp only [cond_false]
              rw [ih r (k / 2 - 1) x (j / 2 - 1) (by omega)]
              by_cases e : j = k
              · simp [e]
              · rw [if_neg e, if_neg (by omega)]
            · have hj1 : j % 2 = 1 := Nat.eq_of_beq_eq_true hjo
              simp only [cond_false, cond_true]
              rw [if_neg (by intro e; subst e; exact hk1 hj1)]
          · have hj0 : j = 0 := Nat.eq_of_beq_eq_true hj
            simp only [cond_true]
            rw [if_neg (by omega)]
        · have hk1 : k % 2 = 1 := Nat.eq_of_beq_eq_true ho
          simp only [cond_false, cond_true, Tr.get]
          cases hj : Nat.beq j 0
          · have hj0 : j ≠ 0 := Nat.ne_of_beq_eq_false hj
            cases hjo : Nat.beq (j % 2) 1
            · have hj1 : j % 2 ≠ 1 := Nat.ne_of_beq_eq_false hjo
              simp only [cond_false]
              rw [if_neg (by intro e; subst e; exact hj1 hk1)]
            · have hj1 : j % 2 = 1 := Nat.eq_of_beq_eq_true hjo
              simp only [cond_false, cond_true]
              rw [ih l (k / 2) x (j / 2) (by omega)]
              by_cases e : j = k
              · simp [e]
              · rw [if_neg e, if_neg (by omega)]
          · have hj0 : j = 0 := Nat.eq_of_beq_eq_true hj
            simp only [cond_true]
            rw [if_neg (by omega)]
      · have hk0 : k = 0 := Nat.eq_of_beq_eq_true hk
        simp only [cond_true, Tr.get]
        cases hj : Nat.beq j 0
        · have hj0 : j ≠ 0 := Nat.ne_of_beq_eq_false hj
          simp only [cond_false]
          rw [if_neg (by omega)]
        · have hj0 : j = 0 := Nat.eq_of_beq_eq_true hj
          simp only [cond_true]
          rw [if_pos (by omega)]
    cases t with
    | leaf =>
      simp only [Tr.put]
      rw [hl none .leaf .leaf]
      have : (Tr.node (none : Option α) .leaf .leaf).get j = (Tr.leaf : Tr α).get j := by
        simp only [Tr.get]
        cases Nat.beq j 0 <;> simp
      rw [this]
    | node v l r => simp only [Tr.put]; exact hl v l r

theorem Tr.get_set {α : Type} (t : Tr α) (k : Nat) (x : Option α) (j : Nat) : (t.set k x).get j = if j = k then x else t.get j := by
  unfold Tr.set
  refine Tr.get_put _ _ _ _ _ ?_
  have h := @Nat.lt_log2_self k
  have hp : (2 : Nat) ^ (Nat.log2 k + 2) = 2 * 2 ^ (Nat.log2 k + 1) := by rw [Nat.pow_succ]; omega
  omega

theorem Tr.get_leaf {α : Type} (j : Nat) : (Tr.leaf : Tr α).get j = none := rfl

theorem dropL_eq (n : Nat) (l : List Value) : dropL n l = l.drop n := by
  induction n generalizing l with
  | zero => rfl
  | succ n ih => cases l with
    | nil => rfl
    | cons v l => simp only [dropL]; exact ih l
theorem takeL_some {n : Nat} {l r : List Value} (h : takeL n l = some r) : n ≤ l.length ∧ r = l.take n := by
  induction n generalizing l r with
  | zero => simp only [takeL, Option.some.injEq] at h; subst h; simp
  | succ n ih =>
    cases l with
    | nil => simp [takeL] at h
    | cons v l =>
      simp only [takeL] at h
      split at h
      · rename_i r' hr
        obtain ⟨h1, h2⟩ := ih hr
        simp only [Option.some.injEq] at h
        subst h h2
        exact ⟨by simp; omega, by simp⟩
      · simp at h
/-- what is laid in -/
theorem layL_some {vs : List Value} : ∀ {n : Nat} {l r : List Value}, layL n vs l = some r → r.length = l.length ∧ (vs ≠ [] → n + vs.length ≤ l.length) ∧
    ∀ i, r[i]? = if n ≤ i ∧ i < n + vs.length then vs[i - n]? else l[i]? := by
  intro n l
  induction l generalizing n vs with
  | nil =>
    intro r h
    cases vs with
    | nil => simp [layL] at h; subst h; refine ⟨rfl, by simp, fun i => ?_⟩; rw [if_neg (by simp)]
    | cons v vs => cases n <;> simp [layL] at h
  | cons x l ih =>
    intro r h
    cases vs with
    | nil => simp [layL] at h; subst h; refine ⟨rfl, by simp, fun i => ?_⟩; rw [if_neg (by simp)]
    | cons v vs =>
      cases n with
      | zero =>
        simp only [layL] at h
        split at h
        · rename_i r' hr
          obtain ⟨h1, h2, h3⟩ := ih hr
          simp only [Option.some.injEq] at h
          subst h
          refine ⟨by simp [h1], fun _ => ?_, fun i => ?_⟩
          · cases vs with
            | nil => simp
            | cons u vs => have := h2 (by simp); simp at this ⊢; omega
          · cases i with
            | zero => simp
            | succ i =>
              rw [List.getElem?_cons_succ, h3 i]
              by_cases hi : i < vs.length
              · rw [if_pos (by omega), if_pos (by simp; omega)]; simp
              · rw [if_neg (by omega), if_neg (by simp; omega)]; simp
        · simp at h
      | succ n =>
        simp only [layL] at h
        split at h
        · rename_i r' hr
          obtain ⟨h1, h2, h3⟩ := ih hr
          simp only [Option.some.injEq] at h
          subst h
          refine ⟨by simp [h1], fun _ => ?_, fun i => ?_⟩
          · have := h2 (by simp); simp at this ⊢; omega
          · cases i with
            | zero => simp
            | succ i =>
              rw [List.getElem?_cons_succ, h3 i]
              by_cases hi : n ≤ i ∧ i < n + (v :: vs).length
              · rw [if_pos hi, if_pos (by omega), show i + 1 - (n + 1) = i - n by omega]
              · rw [if_neg hi, if_neg (by omega)]; simp
        · simp at h
end Go.Proofs.Ytokpobfimphhgaa.Ev
