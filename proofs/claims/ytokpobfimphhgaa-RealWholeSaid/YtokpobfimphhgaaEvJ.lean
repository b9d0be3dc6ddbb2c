/-
  A region that draws its order: what the evaluator says of one order holds of all.
-/
import Derived.Test.YtokpobfimphhgaaEvH
set_option linter.unusedVariables false
set_option linter.unusedSimpArgs false
namespace Go.Proofs.Ytokpobfimphhgaa.Ev
open Go

/-! ### what a function does -/
def EndR (ρ : Rho) : AE → Ending → Prop
  | .returned v, e => ∃ v', e = .returned v' ∧ VR ρ v v'
  | .panicked v, e => ∃ v', e = .panicked [{ v := v', recovered := false }] ∧ VR ρ v v'
def Wf (st : ASt) : Prop := ∀ x o, st.h.get x = some o → x < st.next
theorem LoS.wf {st st' : ASt} (h : LoS st st') (hw : Wf st) : Wf st' := fun x o e => by
  obtain ⟨h1, _, _, h4⟩ := h
  rcases h4 x o e with ⟨o', h5⟩ | h5
  · have := hw x o' h5; omega
  · omega
def SelfS (P : Program) (self : Self) : Prop := ∀ g args st r st', Wf st → self g args st = .ok (r, st') → LoS st st' ∧ ∀ ρ w (args' : Array Value), VRL ρ args args'.toList → WR ρ st.h.get w → Fresh ρ st.next st'.next →
  Calls P g args' w fun e w' => ∃ ρ', EndR ρ' r e ∧ Mv ρ ρ' st.h.get st'.h.get st.next st'.next w w'

theorem evVal_sound {P : Program} {self : Self} (hs : SelfS P self) {f : AFr} {st st' : ASt} {o : Oper} {v : Value} (hwf : Wf st) (h : evVal P self f st o = .ok (v, st')) : LoS st st' ∧ ∀ ρ w a, FrR ρ f a → WR ρ st.h.get w → Fresh ρ st.next st'.next →
    ∀ (K : Act → World → Prop) (Q : Exit → Act → World → Prop), (∀ ρ' v' w', VR ρ' v v' → Mv ρ ρ' st.h.get st'.h.get st.next st'.next w w' → K (a.put o.dst v') w') → o.wp P a w K Q := by
  unfold evVal at h
  split at h
  · rename_i v1 st1 ha
    cases h
    obtain ⟨h1, h2⟩ := aOp_sound ha
    refine ⟨h1, fun ρ w a hf hw hfr K Q hK => ?_⟩
    obtain ⟨ρ', v', w', hr, hv, hm⟩ := h2 ρ w a hf hw hfr
    have := hK ρ' v' w' hv hm
    unfold Oper.wp
    rcases hr with hr | ⟨hr, rfl⟩
    · rw [hr]; exact this
    · rw [hr]; exact this
  · rename_i g args ha
    have h2 := aOp_sound ha
    split at h
    · rename_i v1 st1 hg
      cases h
      obtain ⟨k1, k2⟩ := hs g args st _ _ hwf hg
      refine ⟨k1, fun ρ w a hf hw hfr K Q hK => ?_⟩
      obtain ⟨args', hr, hv⟩ := h2 ρ w a hf hw
      unfold Oper.wp
      rw [hr]
      refine (k2 ρ w args' hv hw hfr).mono fun e w' he => ?_
      obtain ⟨ρ', ⟨v', rfl, hv'⟩, hm⟩ := he
      exact hK ρ' v' w' hv' hm
    · cases h
    · cases h
  · cases h
  · cases h

/-! ### tables that are cut and laid together -/
theorem restr_get (f : AFr) : ∀ (l : List Nat) (t : Nat), (restr f l).get t = if t ∈ l then f.tmps.get t else none := by
  intro l
  induction l with
  | nil => intro t; rfl
  | cons x l ih =>
    intro t
    simp only [restr]
    split
    · rename_i v hv
      rw [set_get]
      by_cases ht : t = x
      · subst ht; rw [upd_same]; simp [hv]
      · rw [upd_ne _ _ ht, ih]; simp [ht]
    · rename_i hv
      rw [ih]
      by_cases ht : t = x
      · subst ht; simp [hv]
      · simp [ht]
theorem restr_rel {ρ : Rho} {f : AFr} {a : Act} {l : List Nat} (hs : a.tmps.size = f.n) (hd : DefsR ρ f.defers a.defers) (h : ∀ t ∈ l, ∀ v, f.tmps.get t = some v → ∃ v', a.tmps[t]? = some v' ∧ VR ρ v v') : FrR ρ ⟨f.n, restr f l, f.defers⟩ a := by
  refine ⟨hs, fun t v e => ?_, hd⟩
  simp only [restr_get] at e
  split at e
  · rename_i ht; exact h t ht v e
  · cases e
theorem eraseR_get : ∀ (n s : Nat) (h : Tr AObj) (x : Nat), (eraseR n s h).get x = if s ≤ x ∧ x < s + n then none else h.get x := by
  intro n
  induction n with
  | zero => intro s h x; rw [if_neg (by omega)]; rfl
  | succ n ih =>
    intro s h x
    simp only [eraseR, ih, set_get]
    by_cases hx : x = s
    · subst hx; rw [if_neg (by omega), upd_same, if_pos (by omega)]
    · rw [upd_ne _ _ hx]
      by_cases h2 : s + 1 ≤ x ∧ x < s + 1 + n
      · rw [if_pos h2, if_pos (by omega)]
      · rw [if_neg h2, if_neg (by omega)]
theorem copyR_get : ∀ (n s : Nat) (g h : Tr AObj) (x : Nat), (copyR n s g h).get x = if s ≤ x ∧ x < s + n then g.get x else h.get x := by
  intro n
  induction n with
  | zero => intro s g h x; rw [if_neg (by omega)]; rfl
  | succ n ih =>
    intro s g h x
    simp only [copyR, ih, set_get]
    by_cases hx : x = s
    · subst hx; rw [if_neg (by omega), upd_same, if_pos (by omega)]
    · rw [upd_ne _ _ hx]
      by_cases h2 : s + 1 ≤ x ∧ x < s + 1 + n
      · rw [if_pos h2, if_pos (by omega)]
      · rw [if_neg h2, if_neg (by omega)]
theorem copyL_get : ∀ (l : List Nat) (g h : Tr AObj) (x : Nat), (copyL l g h).get x = if x ∈ l then g.get x else h.get x := by
  intro l
  induction l with
  | nil => intro g h x; simp [copyL]
  | cons a l ih =>
    intro g h x
    simp only [copyL, ih, set_get]
    by_cases hx : x ∈ l
    · rw [if_pos hx, if_pos (by simp [hx])]
    · rw [if_neg hx]
      by_cases hxa : x = a
      · subst hxa; rw [upd_same, if_pos (by simp)]
      · rw [upd_ne _ _ hxa, if_neg (by simp [hx, hxa])]
theorem copyD_get : ∀ (l : List Nat) (g h' h : Tr AObj) (x : Nat), (copyD l g h' h).get x = if x ∈ l ∧ (g.get x).isSome = true then h'.get x else h.get x := by
  intro l
  induction l with
  | nil => intro g h' h x; simp [copyD]
  | cons a l ih =>
    intro g h' h x
    simp only [copyD]
    split
    · rename_i o ho
      rw [ih, set_get]
      by_cases hx : x ∈ l ∧ (g.get x).isSome = true
      · rw [if_pos hx, if_pos ⟨by simp [hx.1], hx.2⟩]
      · rw [if_neg hx]
        by_cases hxa : x = a
        · subst hxa; rw [upd_same, if_pos ⟨by simp, by simp [ho]⟩]
        · rw [upd_ne _ _ hxa, if_neg (by simp [hxa]; simpa using hx)]
    · rename_i ho
      rw [ih]
      by_cases hx : x ∈ l ∧ (g.get x).isSome = true
      · rw [if_pos hx, if_pos ⟨by simp [hx.1], hx.2⟩]
      · rw [if_neg hx, if_neg]
        intro h2
        apply hx
        refine ⟨?_, h2.2⟩
        rcases List.mem_cons.1 h2.1 with h3 | h3
        · subst h3; rw [ho] at h2; simp at h2
        · exact h3
theorem redu_get {m : Nat} : ∀ {recs : List Rec} {h : Tr AObj} {x : Nat} {o : AObj}, (redu m recs h).get x = some o → h.get x = some o ∧ ∀ r ∈ recs, hasBit m r.j = false → ¬ (r.s ≤ x ∧ x < r.e) := by
  intro recs
  induction recs with
  | nil => intro h x o e; exact ⟨e, by simp⟩
  | cons r l ih =>
    intro h x o e
    simp only [redu] at e
    obtain ⟨h1, h2⟩ := ih e
    cases hb : hasBit m r.j with
    | true =>
      rw [hb] at h1
      refine ⟨h1, fun r' hr' => ?_⟩
      rcases List.mem_cons.1 hr' with h3 | h3
      · subst h3; intro h4; rw [hb] at h4; cases h4
      · exact h2 r' h3
    | false =>
      rw [hb] at h1
      simp only [cond_false, eraseR_get] at h1
      split at h1
      · cases h1
      · rename_i hn
        refine ⟨h1, fun r' hr' => ?_⟩
        rcases List.mem_cons.1 hr' with h3 | h3
        · subst h3; intro _ h4; exact hn (by omega)
        · exact h2 r' h3
theorem redu_all {m : Nat} : ∀ {recs : List Rec} {h : Tr AObj}, recs.all (fun r => hasBit m r.j) = true → redu m recs h = h := by
  intro recs
  induction recs with
  | nil => intro h _; rfl
  | cons r l ih =>
    intro h ha
    simp only [List.all_cons, Bool.and_eq_true] at ha
    simp only [redu, ha.1, cond_true]
    exact ih ha.2
theorem foot_get {m : Nat} {recs : List Rec} {h : Tr AObj} {fp : Option (List Nat)} {x : Nat} {o : AObj} (e : (footOf m recs h fp).get x = some o) :
    h.get x = some o ∧ (∀ r ∈ recs, hasBit m r.j = false → ¬ (r.s ≤ x ∧ x < r.e)) ∧ ∀ l, fp = some l → x ∈ l := by
  unfold footOf at e
  split at e
  · rename_i l
    rw [copyL_get] at e
    split at e
    · rename_i hx
      obtain ⟨h1, h2⟩ := redu_get e
      exact ⟨h1, h2, fun l' hl => by cases hl; exact hx⟩
    · cases e
  · obtain ⟨h1, h2⟩ := redu_get e
    exact ⟨h1, h2, fun l' hl => by cases hl⟩
theorem upd_eq (i : It) (g r : Mem) (h1 : ∀ x, i.dom x → r x = i.ha x) (h2 : ∀ x, ¬ i.dom x → r x = g x) : r = i.upd g := by
  funext x
  unfold It.upd
  by_cases h : i.dom x
  · rw [if_pos h, h1 x h]
  · rw [if_neg h, h2 x h]
theorem merge_get {m : Nat} {recs : List Rec} {st st' : ASt} {fp : Option (List Nat)} (hlo : LoS ⟨st.next, footOf m recs st.h fp, big⟩ st') (hwf : ∀ x o, st.h.get x = some o → x < st.next) (hfp : fp = none → st.next ≤ st'.lo) (dst : Option Nat) (v : Value) (looks : List Nat) :
    (mergeOf m recs st.h (footOf m recs st.h fp) st'.h st.next st'.next fp).get = (It.mk st.next st'.next (footOf m recs st.h fp).get st'.h.get dst v looks).upd st.h.get := by
  obtain ⟨l1, l2, l3, l4⟩ := hlo
  simp only at l1 l2 l3 l4
  refine upd_eq _ _ _ (fun x hd => ?_) (fun x hd => ?_)
  · cases fp with
    | some l =>
      simp only [mergeOf, copyR_get, copyD_get]
      by_cases hr : st.next ≤ x ∧ x < st'.next
      · rw [if_pos (by omega)]
      · rw [if_neg (by omega)]
        rcases hd with ⟨o, hg⟩ | hd
        · rw [if_pos ⟨(foot_get hg).2.2 l rfl, by rw [show (footOf m recs st.h (some l)).get x = some o from hg]; rfl⟩]
        · exact absurd hd hr
    | none =>
      have hlo := hfp rfl
      simp only [mergeOf]
      cases ha : recs.all fun r => hasBit m r.j with
      | true => rfl
      | false =>
        simp only [cond_false, copyR_get]
        by_cases hr : st.next ≤ x ∧ x < st'.next
        · rw [if_pos (by omega)]
        · rw [if_neg (by omega)]
          rcases hd with ⟨o, hg⟩ | hd
          · have h1 := (foot_get hg).1
            have hx := hwf x o h1
            rw [l3 x hx (by omega), h1]
            exact hg.symm
          · exact absurd hd hr
  · have hr : ¬ (st.next ≤ x ∧ x < st'.next) := fun h => hd (.inr h)
    have hg : ∀ o, (footOf m recs st.h fp).get x ≠ some o := fun o h => hd (.inl ⟨o, h⟩)
    cases fp with
    | some l =>
      simp only [mergeOf, copyR_get, copyD_get]
      rw [if_neg (by omega), if_neg]
      rintro ⟨_, h2⟩
      cases h3 : (footOf m recs st.h (some l)).get x with
      | none => rw [h3] at h2; cases h2
      | some o => exact hg o h3
    | none =>
      simp only [mergeOf]
      cases ha : recs.all fun r => hasBit m r.j with
      | true =>
        simp only [cond_true]
        have hf : footOf m recs st.h none = st.h := redu_all ha
        rw [hf] at l4 hg
        cases h1 : st'.h.get x with
        | none =>
          cases h2 : st.h.get x with
          | none => rfl
          | some o => exact absurd h2 (hg o)
        | some o =>
          rcases l4 x o h1 with ⟨o', h2⟩ | h2
          · exact absurd h2 (hg o')
          · exact absurd h2 hr
      | false =>
        simp only [cond_false, copyR_get]
        rw [if_neg (by omega)]
end Go.Proofs.Ytokpobfimphhgaa.Ev
