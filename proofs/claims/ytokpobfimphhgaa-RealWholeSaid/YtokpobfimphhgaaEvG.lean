/-
  Steps on a memory and on slots that may come in many orders: what is told of one order holds of all. Plain lists and numbers.
-/
import Derived.Test.YtokpobfimphhgaaEvR
set_option linter.unusedVariables false
set_option linter.unusedSimpArgs false
namespace Go.Proofs.Ytokpobfimphhgaa.Ev
open Go

/-- a step: the numbers that it may take; what it looks at, and what becomes of that; the slot that it writes, and what -/
structure It where
  s : Nat
  e : Nat
  hb : Mem
  ha : Mem
  dst : Option Nat
  v : Value
  looks : List Nat
def It.dom (i : It) (x : Nat) : Prop := (∃ o, i.hb x = some o) ∨ (i.s ≤ x ∧ x < i.e)
instance It.decDom (i : It) (x : Nat) : Decidable (i.dom x) := decidable_of_iff ((i.hb x).isSome = true ∨ (i.s ≤ x ∧ x < i.e)) (by
  unfold It.dom
  rw [Option.isSome_iff_exists])
def It.upd (i : It) (g : Mem) : Mem := fun x => if i.dom x then i.ha x else g x
def gK (it : Nat → It) (g0 : Mem) (L : Nat → Bool) : Nat → Mem
  | 0 => g0
  | k + 1 => if L k then (it k).upd (gK it g0 L k) else gK it g0 L k
def slK (it : Nat → It) (s0 : Nat → Option Value) (L : Nat → Bool) : Nat → Nat → Option Value
  | 0 => s0
  | k + 1 => fun t => if L k = true ∧ (it k).dst = some t then some (it k).v else slK it s0 L k t
def allL : Nat → Bool := fun _ => true
theorem gK_all (it : Nat → It) (g0 : Mem) (k : Nat) : gK it g0 allL (k + 1) = (it k).upd (gK it g0 allL k) := if_pos rfl
theorem gK_on (it : Nat → It) (g0 : Mem) {L : Nat → Bool} {k : Nat} (h : L k = true) : gK it g0 L (k + 1) = (it k).upd (gK it g0 L k) := if_pos h
theorem gK_off (it : Nat → It) (g0 : Mem) {L : Nat → Bool} {k : Nat} (h : L k = false) : gK it g0 L (k + 1) = gK it g0 L k := if_neg (by rw [h]; simp)

/-- what one order tells -/
structure Run (it : Nat → It) (n : Nat) (g0 : Mem) (anc : Nat → Nat → Prop) : Prop where
  le : ∀ k, k < n → (it k).s ≤ (it k).e
  mono : ∀ i j, i < j → j < n → (it i).e ≤ (it j).s
  sub : ∀ k, k < n → ∀ x o, (it k).hb x = some o → gK it g0 allL k x = some o
  low : ∀ k, k < n → ∀ x o, (it k).hb x = some o → x < (it k).s
  ind : ∀ i j, i < j → j < n → ¬ anc j i → ∀ x o, (it j).hb x = some o → ¬ ((it i).s ≤ x ∧ x < (it i).e) ∧ ∀ o', (it i).hb x = some o' → (it i).ha x = (it i).hb x ∧ (it j).ha x = (it j).hb x
  slots : ∀ i j, i < j → j < n → ¬ anc j i → (∀ t, (it i).dst = some t → t ∉ (it j).looks ∧ (it j).dst ≠ some t) ∧ (∀ t, (it j).dst = some t → t ∉ (it i).looks)
def Down (n : Nat) (anc : Nat → Nat → Prop) (L : Nat → Bool) : Prop := ∀ j, j < n → L j = true → ∀ i, i < j → anc j i → L i = true
def addL (L : Nat → Bool) (j : Nat) : Nat → Bool := fun i => if i = j then true else L i

theorem Run.ahead {it : Nat → It} {n : Nat} {g0 : Mem} {anc : Nat → Nat → Prop} (R : Run it n g0 anc) {L : Nat → Bool} {i : Nat} (hi : i < n) (hL : ∀ k, k < i → anc i k → L k = true) {x : Nat} {o : AObj} (hx : (it i).hb x = some o) : ∀ k, k ≤ i → gK it g0 L k x = gK it g0 allL k x := by
  intro k
  induction k with
  | zero => intro _; rfl
  | succ k ih =>
    intro hk
    have h1 := ih (by omega)
    rw [gK_all]
    cases hl : L k with
    | true =>
      rw [gK_on it g0 hl]
      simp only [It.upd]
      split
      · rfl
      · exact h1
    | false =>
      rw [gK_off it g0 hl]
      have hna : ¬ anc i k := fun h => by rw [hL k (by omega) h] at hl; cases hl
      obtain ⟨a1, a2⟩ := R.ind k i (by omega) hi hna x o hx
      rw [h1]
      simp only [It.upd]
      split
      · rename_i hd
        rcases hd with ⟨o', hd⟩ | hd
        · rw [(a2 o' hd).1, hd]
          exact R.sub k (by omega) x o' hd
        · exact absurd hd a1
      · rfl
theorem Run.at {it : Nat → It} {n : Nat} {g0 : Mem} {anc : Nat → Nat → Prop} (R : Run it n g0 anc) {L : Nat → Bool} {j : Nat} (hj : j < n) (hLj : L j = false) (hD : Down n anc L) (hL : ∀ k, k < j → anc j k → L k = true) {x : Nat} {o : AObj} (hx : (it j).hb x = some o) : ∀ k, j ≤ k → k ≤ n → gK it g0 L k x = some o := by
  have h0 : gK it g0 L j x = some o := (R.ahead hj hL hx j (Nat.le_refl _)).trans (R.sub j hj x o hx)
  intro k hjk
  induction k with
  | zero => intro _; have : j = 0 := by omega
            subst this; exact h0
  | succ k ih =>
    intro hk
    by_cases he : j = k + 1
    · subst he; exact h0
    · have h1 := ih (by omega) (by omega)
      simp only [gK]
      cases hl : L k with
      | false => simpa using h1
      | true =>
        simp only [if_true, It.upd]
        have hkj : j < k := by
          rcases Nat.lt_or_ge j k with h | h
          · exact h
          · have : j = k := by omega
            subst this; rw [hLj] at hl; cases hl
        have hna : ¬ anc k j := fun h => by rw [hD k (by omega) hl j hkj h] at hLj; cases hLj
        split
        · rename_i hd
          rcases hd with ⟨o', hd⟩ | hd
          · obtain ⟨_, a2⟩ := R.ind j k hkj (by omega) hna x o' hd
            obtain ⟨b1, b2⟩ := a2 o hx
            rw [b2, hd]
            have h3 := R.ahead (L := L) (i := k) (by omega) (fun i h4 h5 => hD k (by omega) hl i h4 h5) hd k (Nat.le_refl _)
            rw [R.sub k (by omega) x o' hd, h1] at h3
            exact h3.symm
          · have := R.low j hj x o hx
            have := R.mono j k hkj (by omega)
            have := R.le j hj
            omega
        · exact h1
theorem Run.add {it : Nat → It} {n : Nat} {g0 : Mem} {anc : Nat → Nat → Prop} (R : Run it n g0 anc) {L : Nat → Bool} {j : Nat} (hj : j < n) (hLj : L j = false) (hD : Down n anc L) (hL : ∀ k, k < j → anc j k → L k = true) : ∀ k, k ≤ n → gK it g0 (addL L j) k = if j < k then (it j).upd (gK it g0 L k) else gK it g0 L k := by
  intro k
  induction k with
  | zero => intro _; rw [if_neg (by omega)]; rfl
  | succ k ih =>
    intro hk
    have h1 := ih (by omega)
    rcases Nat.lt_trichotomy k j with hkj | hkj | hkj
    · rw [if_neg (by omega)] at h1 ⊢
      simp only [gK, addL, if_neg (show k ≠ j by omega)]
      rw [h1]
    · subst hkj
      rw [if_neg (by omega)] at h1
      rw [if_pos (by omega)]
      simp only [gK, addL, if_true, hLj, Bool.false_eq_true, if_false]
      rw [h1]
    · rw [if_pos hkj] at h1
      rw [if_pos (by omega)]
      simp only [gK, addL, if_neg (show k ≠ j by omega)]
      rw [h1]
      cases hl : L k with
      | false => simp
      | true =>
        simp only [if_true]
        have hna : ¬ anc k j := fun h => by rw [hD k (by omega) hl j hkj h] at hLj; cases hLj
        funext x
        simp only [It.upd]
        by_cases hk1 : (it k).dom x
        · by_cases hj1 : (it j).dom x
          · rw [if_pos hk1, if_pos hj1]
            rcases hk1 with ⟨o', hk1⟩ | hk1
            · obtain ⟨a1, a2⟩ := R.ind j k hkj (by omega) hna x o' hk1
              rcases hj1 with ⟨o, hj1⟩ | hj1
              · obtain ⟨b1, b2⟩ := a2 o hj1
                rw [b1, b2, hk1, hj1]
                have h3 := R.ahead (L := L) (i := k) (by omega) (fun i h4 h5 => hD k (by omega) hl i h4 h5) hk1 k (Nat.le_refl _)
                rw [R.sub k (by omega) x o' hk1, R.at hj hLj hD hL hj1 k (by omega) (by omega)] at h3
                exact h3.symm
              · exact absurd hj1 a1
            · exfalso
              have m1 := R.mono j k hkj (by omega)
              have m2 := R.le j hj
              rcases hj1 with ⟨o, hj1⟩ | hj1
              · have := R.low j hj x o hj1; omega
              · omega
          · rw [if_pos hk1, if_neg hj1, if_pos hk1]
        · rw [if_neg hk1]
          by_cases hj1 : (it j).dom x
          · rw [if_pos hj1, if_pos hj1]
          · rw [if_neg hj1, if_neg hj1, if_neg hk1]
theorem Run.slot_prefix {it : Nat → It} {n : Nat} {g0 : Mem} {anc : Nat → Nat → Prop} (R : Run it n g0 anc) {s0 : Nat → Option Value} {L : Nat → Bool} {i t : Nat} (hi : i < n) (hL : ∀ k, k < i → anc i k → L k = true) (ht : t ∈ (it i).looks) : ∀ k, k ≤ i → slK it s0 L k t = slK it s0 allL k t := by
  intro k
  induction k with
  | zero => intro _; rfl
  | succ k ih =>
    intro hk
    have h1 := ih (by omega)
    simp only [slK, allL, true_and]
    cases hl : L k with
    | true => simp [h1, allL]
    | false =>
      have hna : ¬ anc i k := fun h => by rw [hL k (by omega) h] at hl; cases hl
      have hd : (it k).dst ≠ some t := fun e => ((R.slots k i (by omega) hi hna).1 t e).1 ht
      simp [hd, h1, allL]
theorem Run.slot_at {it : Nat → It} {n : Nat} {g0 : Mem} {anc : Nat → Nat → Prop} (R : Run it n g0 anc) {s0 : Nat → Option Value} {L : Nat → Bool} {j t : Nat} (hj : j < n) (hLj : L j = false) (hD : Down n anc L) (hL : ∀ k, k < j → anc j k → L k = true) (ht : t ∈ (it j).looks) : ∀ k, j ≤ k → k ≤ n → slK it s0 L k t = slK it s0 allL j t := by
  have h0 := R.slot_prefix (s0 := s0) hj hL ht j (Nat.le_refl _)
  intro k hjk
  induction k with
  | zero => intro _; have : j = 0 := by omega
            subst this; exact h0
  | succ k ih =>
    intro hk
    by_cases he : j = k + 1
    · subst he; exact h0
    · have h1 := ih (by omega) (by omega)
      simp only [slK]
      cases hl : L k with
      | false => simpa using h1
      | true =>
        have hkj : j < k := by
          rcases Nat.lt_or_ge j k with h | h
          · exact h
          · have : j = k := by omega
            subst this; rw [hLj] at hl; cases hl
        have hna : ¬ anc k j := fun h => by rw [hD k (by omega) hl j hkj h] at hLj; cases hLj
        have hd : (it k).dst ≠ some t := fun e => (R.slots j k hkj (by omega) hna).2 t e ht
        simp [hd, h1]
theorem Run.slot_add {it : Nat → It} {n : Nat} {g0 : Mem} {anc : Nat → Nat → Prop} (R : Run it n g0 anc) {s0 : Nat → Option Value} {L : Nat → Bool} {j : Nat} (hj : j < n) (hLj : L j = false) (hD : Down n anc L) : ∀ k, k ≤ n → ∀ t, slK it s0 (addL L j) k t = if j < k ∧ (it j).dst = some t then some (it j).v else slK it s0 L k t := by
  intro k
  induction k with
  | zero => intro _ t; rw [if_neg (by omega)]; rfl
  | succ k ih =>
    intro hk t
    have h1 := ih (by omega) t
    have h1' := h1
    rcases Nat.lt_trichotomy k j with hkj | hkj | hkj
    · rw [if_neg (by omega)] at h1' ⊢
      simp only [slK, addL, if_neg (show k ≠ j by omega)]
      rw [h1']
    · subst hkj
      rw [if_neg (by omega)] at h1'
      simp only [slK, addL, if_true, hLj, true_and, Bool.false_eq_true, false_and, if_false]
      rw [h1']
      by_cases hd : (it k).dst = some t
      · rw [if_pos hd, if_pos ⟨by omega, hd⟩]
      · rw [if_neg hd, if_neg (by simp [hd])]
    · simp only [slK, addL, if_neg (show k ≠ j by omega)]
      rw [h1']
      by_cases hd : (it j).dst = some t
      · have e1 : j < k + 1 := by omega
        simp only [hd, hkj, e1, and_self, if_true]
        cases hl : L k with
        | false => simp
        | true =>
          have hna : ¬ anc k j := fun h => by rw [hD k (by omega) hl j hkj h] at hLj; cases hLj
          have := ((R.slots j k hkj (by omega) hna).1 t hd).2
          simp [this]
      · simp only [hd, and_false, if_false]
end Go.Proofs.Ytokpobfimphhgaa.Ev
