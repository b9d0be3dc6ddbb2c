/-
  A region that draws its order: what the evaluator says of one order holds of all.
-/
import Derived.Test.YtpogcoolgnjejaaGreatDoorGd
import Derived.Test.YtpogcoolgnjejaaGreatDoorRows
import Derived.WalkKit
import Derived.Defers
import Derived.Recover
import Derived.LoopN
set_option linter.unusedVariables false
set_option linter.unusedSimpArgs false
namespace Go.Proofs.YtpogcoolgnjejaaGreatDoor.Ev
open Go

/-! ### what a function does -/
def EndR (ρ : Rho) : AE → Ending → Prop
  | .returned v, e => ∃ v', e = .returned v' ∧ VR ρ v v'
  | .panicked v, e => ∃ v', e = .panicked [{ v := v', recovered := false }] ∧ VR ρ v v'
def Wf (st : ASt) : Prop := ∀ x o, st.h.get x = some o → x < st.next
theorem LoS.wf {st st' : ASt} (h : LoS st st') (hw : Wf st) : Wf st' := fun x o e => by
  obtain ⟨h1, _, _, h4⟩ := h
  rcases h4 x o e with ⟨o', h5⟩ | h5
  · have := hw x o' h5; omega
  · omega
def SelfS (P : Program) (self : Self) : Prop := ∀ g args st r st', Wf st → self g args st = .ok (r, st') → LoS st st' ∧ ∀ ρ w (args' : Array Value), VRL ρ args args'.toList → WR ρ st.h.get w → Fresh ρ st.next st'.next →
  Calls P g args' w fun e w' => ∃ ρ', EndR ρ' r e ∧ Mv ρ ρ' st.h.get st'.h.get st.next st'.next w w'

theorem evVal_sound {P : Program} {self : Self} (hs : SelfS P self) {f : AFr} {st st' : ASt} {o : Oper} {v : Value} (hwf : Wf st) (h : evVal P self f st o = .ok (v, st')) : LoS st st' ∧ ∀ ρ w a, FrR ρ f a → WR ρ st.h.get w → Fresh ρ st.next st'.next →
    ∀ (K : Act → World → Prop) (Q : Exit → Act → World → Prop), (∀ ρ' v' w', VR ρ' v v' → Mv ρ ρ' st.h.get st'.h.get st.next st'.next w w' → K (a.put o.dst v') w') → o.wp P a w K Q := by
  unfold evVal at h
  split at h
  · rename_i v1 st1 ha
    cases h
    obtain ⟨h1, h2⟩ := aOp_sound ha
    refine ⟨h1, fun ρ w a hf hw hfr K Q hK => ?_⟩
    obtain ⟨ρ', v', w', hr, hv, hm⟩ := h2 ρ w a hf hw hfr
    have := hK ρ' v' w' hv hm
    unfold Oper.wp
    rcases hr with hr | ⟨hr, rfl⟩
    · rw [hr]; exact this
    · rw [hr]; exact this
  · rename_i g args ha
    have h2 := aOp_sound ha
    split at h
    · rename_i v1 st1 hg
      cases h
      obtain ⟨k1, k2⟩ := hs g args st _ _ hwf hg
      refine ⟨k1, fun ρ w a hf hw hfr K Q hK => ?_⟩
      obtain ⟨args', hr, hv⟩ := h2 ρ w a hf hw
      unfold Oper.wp
      rw [hr]
      refine (k2 ρ w args' hv hw hfr).mono fun e w' he => ?_
      obtain ⟨ρ', ⟨v', rfl, hv'⟩, hm⟩ := he
      exact hK ρ' v' w' hv' hm
    · cases h
    · cases h
  · cases h
  · cases h

/-! ### tables that are cut and laid together -/
theorem restr_get (f : AFr) : ∀ (l : List Nat) (t : Nat), (restr f l).get t = if t ∈ l then f.tmps.get t else none := by
  intro l
  induction l with
  | nil => intro t; rfl
  | cons x l ih =>
    intro t
    simp only [restr]
    split
    · rename_i v hv
      rw [set_get]
      by_cases ht : t = x
      · subst ht; rw [upd_same]; simp [hv]
      · rw [upd_ne _ _ ht, ih]; simp [ht]
    · rename_i hv
      rw [ih]
      by_cases ht : t = x
      · subst ht; simp [hv]
      · simp [ht]
theorem restr_rel {ρ : Rho} {f : AFr} {a : Act} {l : List Nat} (hs : a.tmps.size = f.n) (hd : DefsR ρ f.defers a.defers) (h : ∀ t ∈ l, ∀ v, f.tmps.get t = some v → ∃ v', a.tmps[t]? = some v' ∧ VR ρ v v') : FrR ρ ⟨f.n, restr f l, f.defers⟩ a := by
  refine ⟨hs, fun t v e => ?_, hd⟩
  simp only [restr_get] at e
  split at e
  · rename_i ht; exact h t ht v e
  · cases e
theorem eraseR_get : ∀ (n s : Nat) (h : Tr AObj) (x : Nat), (eraseR n s h).get x = if s ≤ x ∧ x < s + n then none else h.get x := by
  intro n
  induction n with
  | zero => intro s h x; rw [if_neg (by omega)]; rfl
  | succ n ih =>
    intro s h x
    simp only [eraseR, ih, set_get]
    by_cases hx : x = s
    · subst hx; rw [if_neg (by omega), upd_same, if_pos (by omega)]
    · rw [upd_ne _ _ hx]
      by_cases h2 : s + 1 ≤ x ∧ x < s + 1 + n
      · rw [if_pos h2, if_pos (by omega)]
      · rw [if_neg h2, if_neg (by omega)]
theorem copyR_get : ∀ (n s : Nat) (g h : Tr AObj) (x : Nat), (copyR n s g h).get x = if s ≤ x ∧ x < s + n then g.get x else h.get x := by
  intro n
  induction n with
  | zero => intro s g h x; rw [if_neg (by omega)]; rfl
  | succ n ih =>
    intro s g h x
    simp only [copyR, ih, set_get]
    by_cases hx : x = s
    · subst hx; rw [if_neg (by omega), upd_same, if_pos (by omega)]
    · rw [upd_ne _ _ hx]
      by_cases h2 : s + 1 ≤ x ∧ x < s + 1 + n
      · rw [if_pos h2, if_pos (by omega)]
      · rw [if_neg h2, if_neg (by omega)]
theorem copyL_get : ∀ (l : List Nat) (g h : Tr AObj) (x : Nat), (copyL l g h).get x = if x ∈ l then g.get x else h.get x := by
  intro l
  induction l with
  | nil => intro g h x; simp [copyL]
  | cons a l ih =>
    intro g h x
    simp only [copyL, ih, set_get]
    by_cases hx : x ∈ l
    · rw [if_pos hx, if_pos (by simp [hx])]
    · rw [if_neg hx]
      by_cases hxa : x = a
      · subst hxa; rw [upd_same, if_pos (by simp)]
      · rw [upd_ne _ _ hxa, if_neg (by simp [hx, hxa])]
theorem copyD_get : ∀ (l : List Nat) (g h' h : Tr AObj) (x : Nat), (copyD l g h' h).get x = if x ∈ l ∧ (g.get x).isSome = true then h'.get x else h.get x := by
  intro l
  induction l with
  | nil => intro g h' h x; simp [copyD]
  | cons a l ih =>
    intro g h' h x
    simp only [copyD]
    split
    · rename_i o ho
      rw [ih, set_get]
      by_cases hx : x ∈ l ∧ (g.get x).isSome = true
      · rw [if_pos hx, if_pos ⟨by simp [hx.1], hx.2⟩]
      · rw [if_neg hx]
        by_cases hxa : x = a
        · subst hxa; rw [upd_same, if_pos ⟨by simp, by simp [ho]⟩]
        · rw [upd_ne _ _ hxa, if_neg (by simp [hxa]; simpa using hx)]
    · rename_i ho
      rw [ih]
      by_cases hx : x ∈ l ∧ (g.get x).isSome = true
      · rw [if_pos hx, if_pos ⟨by simp [hx.1], hx.2⟩]
      · rw [if_neg hx, if_neg]
        intro h2
        apply hx
        refine ⟨?_, h2.2⟩
        rcases List.mem_cons.1 h2.1 with h3 | h3
        · subst h3; rw [ho] at h2; simp at h2
        · exact h3
theorem redu_get {m : Nat} : ∀ {recs : List Rec} {h : Tr AObj} {x : Nat} {o : AObj}, (redu m recs h).get x = some o → h.get x = some o ∧ ∀ r ∈ recs, hasBit m r.j = false → ¬ (r.s ≤ x ∧ x < r.e) := by
  intro recs
  induction recs with
  | nil => intro h x o e; exact ⟨e, by simp⟩
  | cons r l ih =>
    intro h x o e
    simp only [redu] at e
    obtain ⟨h1, h2⟩ := ih e
    cases hb : hasBit m r.j with
    | true =>
      rw [hb] at h1
      refine ⟨h1, fun r' hr' => ?_⟩
      rcases List.mem_cons.1 hr' with h3 | h3
      · subst h3; intro h4; rw [hb] at h4; cases h4
      · exact h2 r' h3
    | false =>
      rw [hb] at h1
      simp only [cond_false, eraseR_get] at h1
      split at h1
      · cases h1
      · rename_i hn
        refine ⟨h1, fun r' hr' => ?_⟩
        rcases List.mem_cons.1 hr' with h3 | h3
        · subst h3; intro _ h4; exact hn (by omega)
        · exact h2 r' h3
theorem redu_all {m : Nat} : ∀ {recs : List Rec} {h : Tr AObj}, recs.all (fun r => hasBit m r.j) = true → redu m recs h = h := by
  intro recs
  induction recs with
  | nil => intro h _; rfl
  | cons r l ih =>
    intro h ha
    simp only [List.all_cons, Bool.and_eq_true] at ha
    simp only [redu, ha.1, cond_true]
    exact ih ha.2
theorem foot_get {m : Nat} {recs : List Rec} {h : Tr AObj} {fp : Option (List Nat)} {x : Nat} {o : AObj} (e : (footOf m recs h fp).get x = some o) :
    h.get x = some o ∧ (∀ r ∈ recs, hasBit m r.j = false → ¬ (r.s ≤ x ∧ x < r.e)) ∧ ∀ l, fp = some l → x ∈ l := by
  unfold footOf at e
  split at e
  · rename_i l
    rw [copyL_get] at e
    split at e
    · rename_i hx
      obtain ⟨h1, h2⟩ := redu_get e
      exact ⟨h1, h2, fun l' hl => by cases hl; exact hx⟩
    · cases e
  · obtain ⟨h1, h2⟩ := redu_get e
    exact ⟨h1, h2, fun l' hl => by cases hl⟩
theorem upd_eq (i : It) (g r : Mem) (h1 : ∀ x, i.dom x → r x = i.ha x) (h2 : ∀ x, ¬ i.dom x → r x = g x) : r = i.upd g := by
  funext x
  unfold It.upd
  by_cases h : i.dom x
  · rw [if_pos h, h1 x h]
  · rw [if_neg h, h2 x h]
theorem merge_get {m : Nat} {recs : List Rec} {st st' : ASt} {fp : Option (List Nat)} (hlo : LoS ⟨st.next, footOf m recs st.h fp, big⟩ st') (hwf : ∀ x o, st.h.get x = some o → x < st.next) (hfp : fp = none → st.next ≤ st'.lo ∨ (recs.all fun r => hasBit m r.j) = true) (dst : Option Nat) (v : Value) (looks : List Nat) :
    (mergeOf m recs st.h (footOf m recs st.h fp) st'.h st.next st'.next fp).get = (It.mk st.next st'.next (footOf m recs st.h fp).get st'.h.get dst v looks none fun _ => True).upd st.h.get := by
  obtain ⟨l1, l2, l3, l4⟩ := hlo
  simp only at l1 l2 l3 l4
  refine upd_eq _ _ _ (fun x hd => ?_) (fun x hd => ?_)
  · cases fp with
    | some l =>
      simp only [mergeOf, copyR_get, copyD_get]
      by_cases hr : st.next ≤ x ∧ x < st'.next
      · rw [if_pos (by omega)]
      · rw [if_neg (by omega)]
        rcases hd with ⟨o, hg⟩ | hd
        · rw [if_pos ⟨(foot_get hg).2.2 l rfl, by rw [show (footOf m recs st.h (some l)).get x = some o from hg]; rfl⟩]
        · exact absurd hd hr
    | none =>
      have hlo := hfp rfl
      simp only [mergeOf]
      cases ha : recs.all fun r => hasBit m r.j with
      | true => rfl
      | false =>
        have hlo : st.next ≤ st'.lo := by
          rcases hlo with h | h
          · exact h
          · rw [ha] at h; cases h
        simp only [cond_false, copyR_get]
        by_cases hr : st.next ≤ x ∧ x < st'.next
        · rw [if_pos (by omega)]
        · rw [if_neg (by omega)]
          rcases hd with ⟨o, hg⟩ | hd
          · have h1 := (foot_get hg).1
            have hx := hwf x o h1
            rw [l3 x hx (by omega), h1]
            exact hg.symm
          · exact absurd hd hr
  · have hr : ¬ (st.next ≤ x ∧ x < st'.next) := fun h => hd (.inr h)
    have hg : ∀ o, (footOf m recs st.h fp).get x ≠ some o := fun o h => hd (.inl ⟨o, h⟩)
    cases fp with
    | some l =>
      simp only [mergeOf, copyR_get, copyD_get]
      rw [if_neg (by omega), if_neg]
      rintro ⟨_, h2⟩
      cases h3 : (footOf m recs st.h (some l)).get x with
      | none => rw [h3] at h2; cases h2
      | some o => exact hg o h3
    | none =>
      simp only [mergeOf]
      cases ha : recs.all fun r => hasBit m r.j with
      | true =>
        simp only [cond_true]
        have hf : footOf m recs st.h none = st.h := redu_all ha
        rw [hf] at l4 hg
        cases h1 : st'.h.get x with
        | none =>
          cases h2 : st.h.get x with
          | none => rfl
          | some o => exact absurd h2 (hg o)
        | some o =>
          rcases l4 x o h1 with ⟨o', h2⟩ | h2
          · exact absurd h2 (hg o')
          · exact absurd h2 hr
      | false =>
        simp only [cond_false, copyR_get]
        rw [if_neg (by omega)]
end Go.Proofs.YtpogcoolgnjejaaGreatDoor.Ev
/-
  A region that draws its order: the walk of the one order gathers what holds of all.
-/
set_option linter.unusedVariables false
set_option linter.unusedSimpArgs false
namespace Go.Proofs.YtpogcoolgnjejaaGreatDoor.Ev
open Go

def effD (n : Nat) (d : Option Nat) : Option Nat := match d with
  | some d => cond (Nat.blt d n) (some d) none
  | none => none
theorem effD_some {n t : Nat} {d : Option Nat} (h : effD n d = some t) : d = some t ∧ t < n := by
  unfold effD at h
  cases d with
  | none => cases h
  | some d =>
    simp only at h
    cases hb : Nat.blt d n with
    | true => rw [hb] at h; cases h; exact ⟨rfl, blt_lt hb⟩
    | false => rw [hb] at h; cases h
theorem put_slot (f : AFr) (d : Option Nat) (v : Value) : (f.put d v).n = f.n ∧ (f.put d v).defers = f.defers ∧ ∀ t, (f.put d v).tmps.get t = if effD f.n d = some t then some v else f.tmps.get t := by
  cases d with
  | none => exact ⟨rfl, rfl, fun t => by simp [AFr.put, effD]⟩
  | some d =>
    simp only [AFr.put, effD]
    rcases Bool.eq_false_or_eq_true (Nat.blt d f.n) with hb | hb
    · simp only [hb, cond_true]
      refine ⟨trivial, trivial, fun t => ?_⟩
      simp only [set_get, Option.some.injEq]
      by_cases ht : d = t
      · subst ht; rw [upd_same, if_pos rfl]
      · rw [upd_ne _ _ (Ne.symm ht), if_neg ht]
    · simp only [hb, cond_false]
      exact ⟨trivial, trivial, fun t => by simp⟩

def Wp (P : Program) (all : List Oper) (Q : Exit → Act → World → Prop) (o : Oper) (K : Act → World → Prop) (a : Act) (w : World) : Prop :=
  if Region.wanted o (yielded all.toArray a.tmps) then o.wp P a w K Q else K (a.put o.dst undef) w
def ItSem (P : Program) (all : List Oper) (i : It) (o : Oper) (sl : Nat → Option Value) (n : Nat) (ds : List ADef) : Prop :=
  ∀ (Q : Exit → Act → World → Prop) (ρ : Rho) (w : World) (a : Act) (K : Act → World → Prop) (g : Mem), (∀ t ∈ i.looks, ∀ v, sl t = some v → ∃ v', a.tmps[t]? = some v' ∧ VR ρ v v') → a.tmps.size = n → DefsR ρ ds a.defers → (∀ x o', i.hb x = some o' → g x = some o') → (∀ b, i.rb = some b → ∃ o', g b = some o' ∧ i.rp o') → WR ρ g w → Fresh ρ i.s i.e →
    (∀ ρ' v' w', VR ρ' i.v v' → Mv ρ ρ' i.hb i.ha i.s i.e w w' → K (a.put o.dst v') w') → Wp P all Q o K a w

theorem WR.sub {ρ : Rho} {g g' : Mem} {w : World} (hw : WR ρ g w) (hat : ∀ x o, g' x = some o → g x = some o) : WR ρ g' w :=
  ⟨hw.blk, fun x o' hx => hw.obj x o' (hat x o' hx), fun a b oa ob sa sb ea eb eo ra rb va vb heq => hw.inj a b oa ob sa sb (hat a oa ea) (hat b ob eb) eo ra rb va vb heq, fun b hb => ⟨(hw.fz b hb).1, fun ⟨x, o', s, e1, e2⟩ => (hw.fz b hb).2 ⟨x, o', s, hat x o' e1, e2⟩⟩, fun b hb => ⟨(hw.gl b hb).1, (hw.gl b hb).2.1, fun ⟨x, o', s, e1, e2⟩ => (hw.gl b hb).2.2 ⟨x, o', s, hat x o' e1, e2⟩⟩⟩
/-- what a load of cells reads -/
def RdO (a : Addr) (n : Nat) (l : List Value) (o : AObj) : Prop := ∃ cs es, cellsO (some o) = some (cs, es) ∧ takeL n (dropL a.off cs) = some l
theorem sameA_eq {a b : Addr} (h : sameA a b = true) : a = b := by
  obtain ⟨a1, a2, a3⟩ := a
  obtain ⟨b1, b2, b3⟩ := b
  unfold sameA at h
  simp only [Bool.and_eq_true] at h
  obtain ⟨⟨h1, h2⟩, h3⟩ := h
  have h1 : a1 = b1 := Nat.eq_of_beq_eq_true h1
  have h2 : a2 = b2 := Nat.eq_of_beq_eq_true h2
  subst h1 h2
  cases a3 <;> cases b3 <;> first | rfl | cases h3
theorem sameW_eq {v w : Value} (h : sameW v w = true) : v = w := by
  unfold sameW at h
  split at h
  · rw [eq_of_beq h]
  · rename_i k n k' m
    simp only [Bool.and_eq_true] at h
    have hk : k = k' := by
      have := h.1
      cases k <;> cases k' <;> first | rfl | cases this
    rw [hk, eq_of_beq h.2]
  · rename_i k a k' b
    simp only [Bool.and_eq_true] at h
    have hk : k = k' := by
      have := h.1
      cases k <;> cases k' <;> first | rfl | cases this
    rw [hk, Nat.eq_of_beq_eq_true h.2]
  · rename_i a b
    have := eq_of_beq h
    congr 1
    apply ByteArray.ext
    exact Array.toList_inj.1 this
  · rfl
  · rw [sameA_eq h]
  · simp only [Bool.and_eq_true] at h
    rw [Nat.eq_of_beq_eq_true h.1, Nat.eq_of_beq_eq_true h.2]
  · simp only [Bool.and_eq_true] at h
    rw [sameA_eq h.1.1, Nat.eq_of_beq_eq_true h.1.2, Nat.eq_of_beq_eq_true h.2]
  · rfl
  · rw [Nat.eq_of_beq_eq_true h]
  · rfl
  · rfl
  · cases h
theorem sameWs_eq : ∀ {l m : List Value}, sameWs l m = true → l = m := by
  intro l
  induction l with
  | nil => intro m h; cases m with
    | nil => rfl
    | cons => cases h
  | cons v l ih => intro m h; cases m with
    | nil => cases h
    | cons w m =>
      simp only [sameWs, Bool.and_eq_true] at h
      rw [sameW_eq h.1, ih h.2]
theorem keptL_some {a : Addr} {n : Nat} {l : List Value} {h : Tr AObj} (hk : keptL (some (a, n, l)) h = true) : ∃ o, h.get a.block = some o ∧ RdO a n l o := by
  simp only [keptL] at hk
  cases ho : h.get a.block with
  | none => rw [ho] at hk; simp [cellsO] at hk
  | some o =>
    rw [ho] at hk
    cases hc : cellsO (some o) with
    | none => rw [hc] at hk; simp at hk
    | some p =>
      obtain ⟨cs, es⟩ := p
      rw [hc] at hk
      simp only at hk
      cases ht : takeL n (dropL a.off cs) with
      | none => rw [ht] at hk; simp at hk
      | some l' =>
        rw [ht] at hk
        have := sameWs_eq hk
        subst this
        exact ⟨o, rfl, cs, es, hc, ht⟩
theorem gK_congr {it it' : Nat → It} {g0 : Mem} {L : Nat → Bool} : ∀ {n : Nat}, (∀ k, k < n → it k = it' k) → gK it g0 L n = gK it' g0 L n := by
  intro n
  induction n with
  | zero => intro _; rfl
  | succ n ih =>
    intro h
    simp only [gK]
    rw [ih (fun k hk => h k (by omega)), h n (by omega)]
theorem slK_congr {it it' : Nat → It} {s0 : Nat → Option Value} {L : Nat → Bool} : ∀ {n : Nat}, (∀ k, k < n → it k = it' k) → slK it s0 L n = slK it' s0 L n := by
  intro n
  induction n with
  | zero => intro _; rfl
  | succ n ih =>
    intro h
    funext t
    simp only [slK]
    rw [ih (fun k hk => h k (by omega)), h n (by omega)]

structure Tra (P : Program) (all : List Oper) (f0 : AFr) (st0 : ASt) (its : Nat → It) (j : Nat) (f : AFr) (st : ASt) (recs : List Rec) : Prop where
  heap : st.h.get = gK its st0.h.get allL j
  slot : f.tmps.get = slK its f0.tmps.get allL j
  fn : f.n = f0.n
  defs : f.defers = f0.defers
  eN : ∀ i, i < j → st0.next ≤ (its i).s ∧ (its i).e ≤ st.next
  run : Run its j st0.h.get (Anc all)
  sem : ∀ i o, i < j → all[i]? = some o → (its i).dst = effD f0.n o.dst ∧ (its i).looks = looksL all o ∧ ItSem P all (its i) o (slK its f0.tmps.get allL i) f0.n f0.defers
  rds : ∀ i, i < j → ∀ b, (its i).rb = some b → ∃ r ∈ recs, r.j = i ∧ r.wr = false ∧ r.fp = some [b] ∧ ∃ a n l, r.ld = some (a, n, l) ∧ a.block = b ∧ (its i).rp = RdO a n l
  recs : ∀ i, i < j → ((∀ x, (its i).hb x = none) ∧ (its i).s = (its i).e) ∨ ∃ r ∈ recs, r.j = i ∧ r.ld = none ∧ r.s = (its i).s ∧ r.e = (its i).e ∧ (r.wr = false → ∀ x o, (its i).hb x = some o → (its i).ha x = some o) ∧ (∀ x o, x < r.lo → (its i).hb x = some o → (its i).ha x = some o) ∧ ∀ l, r.fp = some l → ∀ x o, (its i).hb x = some o → x ∈ l
  wf : ∀ x o, st.h.get x = some o → x < st.next
  los : LoS st0 st

theorem Tra.step {P : Program} {all : List Oper} {f0 f : AFr} {st0 st st' : ASt} {its : Nat → It} {j : Nat} {recs recs' : List Rec} {o : Oper} {i : It} (T : Tra P all f0 st0 its j f st recs) (hsl : slotsOk all = true) (ho : all[j]? = some o)
    (hs : i.s = st.next) (he : i.s ≤ i.e) (hsub : ∀ x o, i.hb x = some o → st.h.get x = some o)
    (hind : ∀ k, k < j → ¬ Anc all j k → ∀ x o, i.hb x = some o → ¬ ((its k).s ≤ x ∧ x < (its k).e) ∧ ∀ o', (its k).hb x = some o' → (its k).ha x = (its k).hb x ∧ i.ha x = i.hb x)
    (hdst : i.dst = effD f0.n o.dst) (hlk : i.looks = looksL all o) (hsem : ItSem P all i o (slK its f0.tmps.get allL j) f0.n f0.defers)
    (hheap : st'.h.get = i.upd st.h.get) (hnx : st'.next = i.e) (hwf : ∀ x o, st'.h.get x = some o → x < st'.next) (hlos : LoS st st')
    (hrlo : ∀ b, i.rb = some b → ∃ o, st.h.get b = some o ∧ i.rp o)
    (hrbk : ∀ k, k < j → ¬ Anc all j k → ∀ b, i.rb = some b → ¬ ((its k).s ≤ b ∧ b < (its k).e) ∧ ∀ o, (its k).hb b = some o → (its k).ha b = (its k).hb b)
    (hrfw : ∀ k, k < j → ¬ Anc all j k → ∀ b, (its k).rb = some b → ∀ o, i.hb b = some o → i.ha b = i.hb b ∨ ∃ o', i.ha b = some o' ∧ (its k).rp o')
    (hrd : ∀ b, i.rb = some b → ∃ r ∈ recs', r.j = j ∧ r.wr = false ∧ r.fp = some [b] ∧ ∃ a n l, r.ld = some (a, n, l) ∧ a.block = b ∧ i.rp = RdO a n l)
    (hr1 : ∀ r ∈ recs, r ∈ recs') (hr2 : ((∀ x, i.hb x = none) ∧ i.s = i.e) ∨ ∃ r ∈ recs', r.j = j ∧ r.ld = none ∧ r.s = i.s ∧ r.e = i.e ∧ (r.wr = false → ∀ x o, i.hb x = some o → i.ha x = some o) ∧ (∀ x o, x < r.lo → i.hb x = some o → i.ha x = some o) ∧ ∀ l, r.fp = some l → ∀ x o, i.hb x = some o → x ∈ l) :
    Tra P all f0 st0 (upd its j i) (j + 1) (f.put o.dst i.v) st' recs' := by
  have hlt : ∀ k, k < j → upd its j i k = its k := fun k hk => upd_ne _ _ (by omega)
  have hj : upd its j i j = i := upd_same _ _ _
  have hg : ∀ k, k ≤ j → gK (upd its j i) st0.h.get allL k = gK its st0.h.get allL k := fun k hk => gK_congr fun q hq => hlt q (by omega)
  have hsk : ∀ k, k ≤ j → slK (upd its j i) f0.tmps.get allL k = slK its f0.tmps.get allL k := fun k hk => slK_congr fun q hq => hlt q (by omega)
  obtain ⟨p1, p2, p3⟩ := put_slot f o.dst i.v
  have hsp := slotsOk_spec hsl
  refine ⟨?_, ?_, p1.trans T.fn, p2.trans T.defs, fun k hk => ?_, ⟨fun k hk => ?_, fun a b hab hb => ?_, fun k hk x o' hx => ?_, fun k hk x o' hx => ?_, fun a b hab hb hna x o' hx => ?_, fun a b hab hb hna => ?_, fun k hk b hb => ?_, fun a c hac hc hna b hb => ?_, fun a c hac hc hna b hb o' hx => ?_⟩, fun k o' hk hok => ?_, fun k hk b hb => ?_, fun k hk => ?_, hwf, T.los.trans hlos⟩
  · rw [hheap, gK_all, hj, hg j (Nat.le_refl _), T.heap]
  · funext t
    rw [p3]
    simp only [slK, allL, true_and, hj, hdst, T.fn]
    rw [T.slot, hsk j (Nat.le_refl _)]
  · rcases Nat.lt_or_ge k j with h | h
    · rw [hlt k h]
      obtain ⟨e1, e2⟩ := T.eN k h
      have := hlos.1
      exact ⟨e1, by omega⟩
    · have : k = j := by omega
      subst this
      rw [hj]
      have := T.los.1
      exact ⟨by omega, by omega⟩
  · rcases Nat.lt_or_ge k j with h | h
    · rw [hlt k h]; exact T.run.le k h
    · have : k = j := by omega
      subst this; rw [hj]; exact he
  · rcases Nat.lt_or_ge b j with h | h
    · rw [hlt a (by omega), hlt b h]; exact T.run.mono a b hab h
    · have : b = j := by omega
      subst this
      rw [hlt a hab, hj, hs]
      exact (T.eN a hab).2
  · rcases Nat.lt_or_ge k j with h | h
    · rw [hlt k h] at hx; rw [hg k (by omega)]; exact T.run.sub k h x o' hx
    · have : k = j := by omega
      subst this
      rw [hj] at hx; rw [hg k (Nat.le_refl _), ← T.heap]
      exact hsub x o' hx
  · rcases Nat.lt_or_ge k j with h | h
    · rw [hlt k h] at hx ⊢; exact T.run.low k h x o' hx
    · have : k = j := by omega
      subst this
      rw [hj] at hx ⊢
      rw [hs]; exact T.wf x o' (hsub x o' hx)
  · rcases Nat.lt_or_ge b j with h | h
    · rw [hlt a (by omega)]; rw [hlt b h] at hx ⊢; exact T.run.ind a b hab h hna x o' hx
    · have : b = j := by omega
      subst this
      rw [hlt a hab]; rw [hj] at hx ⊢
      exact hind a hab hna x o' hx
  · have hbl : b < all.length ∧ a < all.length := by
      have := (List.getElem?_eq_some_iff.1 ho).1
      omega
    have hoa : all[a]? = some all[a] := by simp [hbl.2]
    have hob : all[b]? = some all[b] := by simp [hbl.1]
    obtain ⟨q1, q2⟩ := hsp.2 a b _ _ hab hoa hob hna
    have key : ∀ k, k < j + 1 → ∀ ok, all[k]? = some ok → (upd its j i k).dst = effD f0.n ok.dst ∧ (upd its j i k).looks = looksL all ok := by
      intro k hk ok hok
      rcases Nat.lt_or_ge k j with h | h
      · rw [hlt k h]; obtain ⟨s1, s2, _⟩ := T.sem k ok h hok; exact ⟨s1, s2⟩
      · have : k = j := by omega
        subst this
        rw [hj]
        rw [ho] at hok; cases hok
        exact ⟨hdst, hlk⟩
    obtain ⟨ka1, ka2⟩ := key a (by omega) _ hoa
    obtain ⟨kb1, kb2⟩ := key b hb _ hob
    refine ⟨fun t ht => ?_, fun t ht => ?_⟩
    · rw [ka1] at ht
      obtain ⟨e1, e2⟩ := q1 t (effD_some ht).1
      rw [kb2, kb1]
      exact ⟨e1, fun h => e2 (effD_some h).1⟩
    · rw [kb1] at ht
      rw [ka2]
      exact q2 t (effD_some ht).1
  · rcases Nat.lt_or_ge k j with h | h
    · rw [hlt k h] at hb ⊢; rw [hg k (by omega)]; exact T.run.rlo k h b hb
    · have : k = j := by omega
      subst this
      rw [hj] at hb ⊢; rw [hg k (Nat.le_refl _), ← T.heap]
      obtain ⟨o', g1, g2⟩ := hrlo b hb
      exact ⟨by rw [hs]; exact T.wf b o' g1, o', g1, g2⟩
  · rcases Nat.lt_or_ge c j with h | h
    · rw [hlt a (by omega)]; rw [hlt c h] at hb; exact T.run.rbk a c hac h hna b hb
    · have : c = j := by omega
      subst this
      rw [hlt a hac]; rw [hj] at hb
      exact hrbk a hac hna b hb
  · rcases Nat.lt_or_ge c j with h | h
    · rw [hlt a (by omega)] at hb ⊢; rw [hlt c h] at hx ⊢; exact T.run.rfw a c hac h hna b hb o' hx
    · have : c = j := by omega
      subst this
      rw [hlt a hac] at hb ⊢; rw [hj] at hx ⊢
      exact hrfw a hac hna b hb o' hx
  · rcases Nat.lt_or_ge k j with h | h
    · rw [hlt k h, hsk k (by omega)]; exact T.sem k o' h hok
    · have : k = j := by omega
      subst this
      rw [ho] at hok; cases hok
      rw [hj, hsk k (Nat.le_refl _)]
      exact ⟨hdst, hlk, hsem⟩
  · rcases Nat.lt_or_ge k j with h | h
    · rw [hlt k h] at hb ⊢
      obtain ⟨r, h1, h2⟩ := T.rds k h b hb
      exact ⟨r, hr1 r h1, h2⟩
    · have : k = j := by omega
      subst this
      rw [hj] at hb ⊢; exact hrd b hb
  · rcases Nat.lt_or_ge k j with h | h
    · rw [hlt k h]
      rcases T.recs k h with h1 | ⟨r, h1, h2⟩
      · exact .inl h1
      · exact .inr ⟨r, hr1 r h1, h2⟩
    · have : k = j := by omega
      subst this
      rw [hj]; exact hr2

/-- the guard of an operation -/
theorem wanted_rel {all : List Oper} {f : AFr} {o : Oper} {b : Bool} {ρ : Rho} {a : Act} (h : wantedA all f o = some b) (hr : ∀ t ∈ looksL all o, ∀ v, f.tmps.get t = some v → ∃ v', a.tmps[t]? = some v' ∧ VR ρ v v') : Region.wanted o (yielded all.toArray a.tmps) = b := by
  unfold wantedA at h
  unfold Region.wanted
  cases hg : o.guard with
  | none => rw [hg] at h; cases h; rfl
  | some p =>
    obtain ⟨j, want⟩ := p
    rw [hg] at h
    simp only at h ⊢
    cases ho : all[j]? with
    | none => rw [ho] at h; cases h; simp [yielded, ho]
    | some oj =>
      rw [ho] at h
      simp only at h
      cases hd : oj.dst with
      | none => rw [hd] at h; cases h; simp [yielded, ho, hd]
      | some d =>
        rw [hd] at h
        simp only at h
        have hmem : d ∈ looksL all o := by
          unfold looksL
          rw [hg]
          simp [ho, hd]
        split at h
        · rename_i b' hb
          cases h
          obtain ⟨v', e1, e2⟩ := hr d hmem _ hb
          cases e2
          simp [yielded, ho, hd, e1]
        · rename_i vs hb
          cases h
          obtain ⟨v', e1, e2⟩ := hr d hmem _ hb
          cases e2
          simp [yielded, ho, hd, e1]
        · cases h

/-- one step of the walk of the one order -/
theorem draw_step {P : Program} {self : Self} (hself : SelfS P self) {all : List Oper} {f0 f : AFr} {st0 st st' : ASt} {its : Nat → It} {j : Nat} {recs : List Rec} {o : Oper} {v : Value} {fp : Option (List Nat)} (T : Tra P all f0 st0 its j f st recs) (hsl : slotsOk all = true) (ho : all[j]? = some o)
    (hw : wantedA all f o = some true) (he : evVal P self ⟨f.n, restr f (looksL all o), f.defers⟩ ⟨st.next, footOf (maskOf all j) recs st.h fp, big⟩ o = .ok (v, st')) (hfp : fp = none → st.next ≤ st'.lo ∨ (recs.all fun r => hasBit (maskOf all j) r.j) = true) (hfree : freeOf (maskOf all j) recs (!(Nat.ble st.next st'.lo)) st'.lo fp st'.h = true) :
    ∃ its', Tra P all f0 st0 its' (j + 1) (f.put o.dst v) ⟨st'.next, mergeOf (maskOf all j) recs st.h (footOf (maskOf all j) recs st.h fp) st'.h st.next st'.next fp, minN st.lo st'.lo⟩
      (cond (noRec fp st.next st'.next) recs (⟨j, st.next, st'.next, !(Nat.ble st.next st'.lo), st'.lo, fp, none⟩ :: recs)) := by
  have hwf0 : Wf ⟨st.next, footOf (maskOf all j) recs st.h fp, big⟩ := fun x o' hx => T.wf x o' (foot_get hx).1
  obtain ⟨hlo, hsem⟩ := evVal_sound hself hwf0 he
  have hlo0 := hlo
  obtain ⟨l1, l2, l3, l4⟩ := hlo
  simp only at l1 l2 l3 l4
  have hm := minN_le st.lo st'.lo
  have hmerge := merge_get hlo0 T.wf hfp (effD f0.n o.dst) v (looksL all o)
  have hreader : (!(Nat.ble st.next st'.lo)) = false → ∀ x o, (footOf (maskOf all j) recs st.h fp).get x = some o → st'.h.get x = some o := by
    intro h x o' hx
    have h1 : st.next ≤ st'.lo := ble_le (by simpa using h)
    have h2 := T.wf x o' (foot_get hx).1
    rw [l3 x h2 (by omega)]; exact hx
  have hbelow : ∀ x o, x < st'.lo → (footOf (maskOf all j) recs st.h fp).get x = some o → st'.h.get x = some o := by
    intro x o' hb hx
    have h2 := T.wf x o' (foot_get hx).1
    rw [l3 x h2 hb]; exact hx
  refine ⟨_, Tra.step (i := ⟨st.next, st'.next, (footOf (maskOf all j) recs st.h fp).get, st'.h.get, effD f0.n o.dst, v, looksL all o, none, fun _ => True⟩) T hsl ho rfl l1 (fun x o' hx => (foot_get hx).1) ?_ rfl rfl ?_ hmerge rfl ?_ ?_ (fun b hb => by cases hb) (fun k _ _ b hb => by cases hb) ?_ (fun b hb => by cases hb) ?_ ?_⟩
  · intro k hk hna x o' hx
    have hbit : hasBit (maskOf all j) k = false := by
      cases h : hasBit (maskOf all j) k with
      | true => exact absurd h hna
      | false => rfl
    rcases T.recs k hk with ⟨r1, r2⟩ | ⟨r, r1, r2, rld, r3, r4, r5, r7, r6⟩
    · exact ⟨by rw [r2]; omega, fun o2 h2 => by rw [r1 x] at h2; cases h2⟩
    · refine ⟨?_, fun o2 h2 => ?_⟩
      · have := (foot_get hx).2.1 r r1 (by rw [r2]; exact hbit)
        rw [← r3, ← r4]; exact this
      · unfold freeOf at hfree
        rw [List.all_eq_true] at hfree
        have := hfree r r1
        rw [r2, hbit] at this
        simp only [Bool.false_or, Bool.or_eq_true, Bool.not_eq_true', Bool.or_eq_false_iff] at this
        rcases this with (⟨w1, w2⟩ | ha) | ha
        rotate_left 2
        · rw [rld] at ha; cases ha
        · exact ⟨by rw [h2]; exact r5 w1 x o2 h2, (hreader w2 x o' hx).trans hx.symm⟩
        · unfold apartL at ha
          split at ha
          · rename_i la lb e1
            have m1 := r6 la e1 x o2 h2
            have m2 := (foot_get hx).2.2 lb rfl
            rw [List.all_eq_true] at ha
            have := ha x m1
            rw [List.all_eq_true] at this
            have := this x m2
            rw [Nat.beq_refl, Bool.not_true, Bool.false_or, Bool.and_eq_true] at this
            exact ⟨by rw [h2]; exact r7 x o2 (blt_lt this.1) h2, (hbelow x o' (blt_lt this.2) hx).trans hx.symm⟩
          · cases ha
  · intro Q ρ w a K g hs hsz hdf hsub _ hwr hfr hK
    have hs' : ∀ t ∈ looksL all o, ∀ v, f.tmps.get t = some v → ∃ v', a.tmps[t]? = some v' ∧ VR ρ v v' := by
      intro t ht v hv
      rw [T.slot] at hv
      exact hs t ht v hv
    have hwant := wanted_rel hw hs'
    unfold Wp
    rw [hwant, if_pos rfl]
    exact hsem ρ w a (restr_rel (by rw [hsz, T.fn]) (by rw [T.defs]; exact hdf) hs') (hwr.sub hsub) hfr K Q hK
  · intro x o' hx
    simp only at hx ⊢
    rw [hmerge] at hx
    unfold It.upd at hx
    split at hx
    · rcases l4 x o' hx with ⟨o2, h2⟩ | h2
      · have := T.wf x o2 (foot_get h2).1; omega
      · omega
    · have := T.wf x o' hx; omega
  · refine ⟨l1, hm.1, fun x h1 h2 => ?_, fun x o' hx => ?_⟩
    · simp only at h2 ⊢
      rw [hmerge]
      unfold It.upd
      split
      · rename_i hd
        rcases hd with ⟨o2, hd⟩ | hd
        · simp only at hd ⊢
          rw [l3 x h1 (by omega), hd]
          exact ((foot_get hd).1).symm
        · simp only at hd; omega
      · rfl
    · simp only at hx ⊢
      rw [hmerge] at hx
      unfold It.upd at hx
      split at hx
      · rcases l4 x o' hx with ⟨o2, h2⟩ | h2
        · exact .inl ⟨o2, (foot_get h2).1⟩
        · exact .inr h2
      · exact .inl ⟨o', hx⟩
  · intro k hk hna b hb o' hx
    have hbit : hasBit (maskOf all j) k = false := by
      cases h : hasBit (maskOf all j) k with
      | true => exact absurd h hna
      | false => rfl
    obtain ⟨r, r1, r2, r3, r4, a, n, l, r5, r6, r7⟩ := T.rds k hk b hb
    unfold freeOf at hfree
    rw [List.all_eq_true] at hfree
    have := hfree r r1
    rw [r2, hbit, r3, r4, r5] at this
    simp only [Bool.false_or, Bool.or_eq_true, Bool.not_eq_true'] at this
    rcases this with (h1 | h1) | h1
    · exact .inl ((hreader h1 b o' hx).trans hx.symm)
    · unfold apartL at h1
      split at h1
      · rename_i la lb e1
        cases e1
        have m2 := (foot_get hx).2.2 lb rfl
        simp only [List.all_cons, List.all_nil, Bool.and_true] at h1
        rw [List.all_eq_true] at h1
        have := h1 b m2
        rw [Nat.beq_refl, Bool.not_true, Bool.false_or, Bool.and_eq_true] at this
        exact .inl ((hbelow b o' (blt_lt this.2) hx).trans hx.symm)
      · cases h1
    · obtain ⟨o2, q1, q2⟩ := keptL_some h1
      rw [r6] at q1
      exact .inr ⟨o2, q1, by rw [r7]; exact q2⟩
  · intro r hr
    cases noRec fp st.next st'.next with
    | true => exact hr
    | false => exact List.mem_cons_of_mem _ hr
  · cases hn : noRec fp st.next st'.next with
    | true =>
      left
      unfold noRec at hn
      split at hn
      · exact ⟨fun x => rfl, Nat.eq_of_beq_eq_true hn⟩
      · cases hn
    | false =>
      right
      exact ⟨_, List.mem_cons_self .., rfl, rfl, rfl, rfl, hreader, hbelow, fun l hl x o' hx => (foot_get hx).2.2 l hl⟩
/-- what a load of cells gives -/
theorem load_run {P : Program} {o : Oper} {a : Act} {t : TypeId} {x : Operand} {b off n : Nat} {ob : AObj} {l : List Value} {v : Value} {ρ : Rho} {g : Mem} {w : World} (h : o.op = .load t x) (hx : VR ρ (.pointer (some ⟨b, off, none⟩)) (a.eval x)) (h1 : sizeL P t = .ok n)
    (hw : WR ρ g w) (hg : g b = some ob) (hr : RdO ⟨b, off, none⟩ n l ob) (h3 : shutL P t l = .ok v) : ∃ v', (execOp a.eval o).run P w = .ok (.value v') w ∧ VR ρ v v' := by
  obtain ⟨cs, es, hc, ht⟩ := hr
  have hget : (Tr.set .leaf b (some ob)).get b = some ob := by rw [set_get, upd_same]
  have hrd : (ASt.mk 0 (Tr.set .leaf b (some ob)) 0).readC ⟨b, off, none⟩ n = .ok l := by
    unfold ASt.readC
    simp only [hget]
    simp only at ht
    cases ob <;> simp only [cellsO, Option.some.injEq, Prod.mk.injEq, reduceCtorEq] at hc
    all_goals (obtain ⟨rfl, rfl⟩ := hc; simp only [ht]; rfl)
  have hw2 : WR ρ (ASt.mk 0 (Tr.set .leaf b (some ob)) 0).h.get w := hw.sub fun y o' hy => by
    simp only [set_get] at hy
    by_cases hyb : y = b
    · subst hyb; rw [upd_same] at hy; rw [hg]; exact hy
    · rw [upd_ne _ _ hyb] at hy; cases hy
  obtain ⟨s, e2, e3⟩ := hx.ptr_loc
  obtain ⟨l', r1, r2, r3⟩ := readC_rel hrd hw2 e2
  rcases shutL_run h3 with ⟨h8, rfl⟩ | ⟨h8, rfl⟩
  · refine ⟨.agg l'.toArray, ?_, VR.agg' r1⟩
    have := run_loadCells_list (P := P) (w := w) ⟨s.blk, locOf s ⟨b, off, none⟩, none⟩ l' r3
    rw [r2] at this
    simp [execOp, h, e3, Instr.loadAt, Instr.sureAddr, loadVar, run_aggL h8, run_sizeL h1, this]
  · obtain ⟨y, m, rfl, hy, hm⟩ := r1.uncons
    refine ⟨y, ?_, hy⟩
    have := r3 0 y (by simp)
    simp only [add_at, Nat.add_zero] at this
    simp [execOp, h, e3, Instr.loadAt, Instr.sureAddr, loadVar, run_aggL h8, this]
theorem qload_some {P : Program} {f : AFr} {h : Tr AObj} {m : Nat} {recs : List Rec} {op : Op} {v : Value} {a : Addr} {n : Nat} {l : List Value} (hq : qload P f h m recs op = some (v, a, n, l)) :
    ∃ t x b off ob, op = .load t x ∧ f.ev x = .pointer (some ⟨b, off, none⟩) ∧ a = ⟨b, off, none⟩ ∧ h.get b = some ob ∧ RdO a n l ob ∧ sizeL P t = .ok n ∧ shutL P t l = .ok v ∧ ∀ r ∈ recs, hasBit m r.j = false → ¬ (r.s ≤ b ∧ b < r.e) := by
  unfold qload at hq
  split at hq
  rotate_left
  · cases hq
  rename_i t x
  split at hq
  rotate_left
  · cases hq
  rename_i b off hx
  split at hq
  rotate_left
  · cases hq
  rename_i cs es hc
  split at hq
  rotate_left
  · cases hq
  rename_i n' hn
  split at hq
  rotate_left
  · cases hq
  rename_i l' hl
  split at hq
  rotate_left
  · cases hq
  rename_i v' hv
  cases hall : (recs.all fun r => hasBit m r.j || !(Nat.ble r.s b && Nat.blt b r.e)) with
  | false => rw [hall] at hq; cases hq
  | true =>
    rw [hall] at hq
    cases hq
    cases ho : h.get b with
    | none => rw [ho] at hc; simp [cellsO] at hc
    | some ob =>
      rw [ho] at hc
      refine ⟨t, x, b, off, ob, rfl, hx, rfl, ho, ⟨cs, es, hc, hl⟩, hn, hv, fun r hr hbit hin => ?_⟩
      rw [List.all_eq_true] at hall
      have := hall r hr
      rw [hbit, Bool.false_or, Nat.ble_eq_true_of_le hin.1, Bool.true_and] at this
      have h2 : Nat.blt b r.e = true := by simpa using hin.2
      rw [h2] at this
      cases this
/-- a load of cells, in the walk of the one order -/
theorem draw_load {P : Program} {all : List Oper} {f0 f : AFr} {st0 st : ASt} {its : Nat → It} {j : Nat} {recs : List Rec} {o : Oper} {v : Value} {a : Addr} {n : Nat} {l : List Value} (T : Tra P all f0 st0 its j f st recs) (hsl : slotsOk all = true) (ho : all[j]? = some o)
    (hw : wantedA all f o = some true) (hq : qload P f st.h (maskOf all j) recs o.op = some (v, a, n, l)) (hfree : freeOf (maskOf all j) recs false big (some [a.block]) st.h = true) :
    ∃ its', Tra P all f0 st0 its' (j + 1) (f.put o.dst v) st (⟨j, st.next, st.next, false, big, some [a.block], some (a, n, l)⟩ :: recs) := by
  obtain ⟨t, x, b, off, ob, hop, hx, rfl, hob, hrd, hn, hv, hnew⟩ := qload_some hq
  refine ⟨_, Tra.step (i := ⟨st.next, st.next, fun _ => none, fun _ => none, effD f0.n o.dst, v, looksL all o, some b, RdO ⟨b, off, none⟩ n l⟩) T hsl ho rfl (Nat.le_refl _) (fun x o' hx => by cases hx) (fun k hk hna x o' hx => by cases hx) rfl rfl ?_ ?_ rfl T.wf (LoS.refl _) ?_ ?_ (fun k _ _ b' _ o' hx => by cases hx) ?_ (fun r hr => List.mem_cons_of_mem _ hr) (.inl ⟨fun _ => rfl, rfl⟩)⟩
  · intro Q ρ w a K g hs hsz hdf hsub hrb hwr hfr hK
    have hs' : ∀ t ∈ looksL all o, ∀ v, f.tmps.get t = some v → ∃ v', a.tmps[t]? = some v' ∧ VR ρ v v' := by
      intro t ht v hv
      rw [T.slot] at hv
      exact hs t ht v hv
    unfold Wp
    rw [wanted_rel hw hs', if_pos rfl]
    obtain ⟨ob', g1, g2⟩ := hrb b rfl
    have hX : VR ρ (.pointer (some ⟨b, off, none⟩)) (a.eval x) := by
      cases x with
      | tmp q =>
        have hmem : q ∈ looksL all o := by
          unfold looksL
          rw [hop]
          simp [Op.operands]
        simp only [AFr.ev, AFr.tmp] at hx
        cases hq : f.tmps.get q with
        | none => rw [hq] at hx; cases hx
        | some u =>
          rw [hq] at hx
          simp only at hx
          subst hx
          obtain ⟨u', u1, u2⟩ := hs' q hmem _ hq
          have : a.eval (.tmp q) = u' := by
            show a.tmps.getD q undef = u'
            simp [u1]
          rw [this]; exact u2
      | const c =>
        simp only [AFr.ev] at hx
        cases hg : ground 3 c with
        | true => rw [hg] at hx; simp only [cond_true] at hx; subst hx; simp [ground] at hg
        | false => rw [hg] at hx; cases hx
      | global c => cases hx
      | func c => cases hx
    obtain ⟨v', k1, k2⟩ := load_run (P := P) hop hX hn hwr g1 g2 hv
    unfold Oper.wp
    rw [k1]
    exact hK ρ v' w k2 (Mv.refl (hwr.sub fun x o' e => by cases e) _)
  · refine upd_eq _ _ _ (fun x hd => ?_) (fun x hd => rfl)
    rcases hd with ⟨o', hd⟩ | hd
    · cases hd
    · simp only at hd; omega
  · intro b' hb'
    cases hb'
    exact ⟨ob, hob, hrd⟩
  · intro k hk hna b' hb'
    cases hb'
    have hbit : hasBit (maskOf all j) k = false := by
      cases h : hasBit (maskOf all j) k with
      | true => exact absurd h hna
      | false => rfl
    rcases T.recs k hk with ⟨r1, r2⟩ | ⟨r, r1, r2, rld, r3, r4, r5, r7, r6⟩
    · exact ⟨by rw [r2]; omega, fun o2 h2 => by rw [r1 b] at h2; cases h2⟩
    · refine ⟨?_, fun o2 h2 => ?_⟩
      · have := hnew r r1 (by rw [r2]; exact hbit)
        rw [← r3, ← r4]; exact this
      · unfold freeOf at hfree
        rw [List.all_eq_true] at hfree
        have := hfree r r1
        rw [r2, hbit, rld] at this
        simp only [Bool.false_or, Bool.or_false, keptL, Bool.or_eq_true, Bool.not_eq_true'] at this
        rcases this with w1 | ha
        · rw [h2]; exact r5 w1 b o2 h2
        · unfold apartL at ha
          split at ha
          · rename_i la lb e1 e2
            cases e2
            have m1 := r6 la e1 b o2 h2
            rw [List.all_eq_true] at ha
            have := ha b m1
            simp only [List.all_cons, List.all_nil, Bool.and_true] at this
            rw [Nat.beq_refl, Bool.not_true, Bool.false_or, Bool.and_eq_true] at this
            rw [h2]; exact r7 b o2 (blt_lt this.1) h2
          · cases ha
  · intro b' hb'
    cases hb'
    exact ⟨_, List.mem_cons_self .., rfl, rfl, rfl, _, _, _, rfl, rfl, rfl⟩
theorem draw_skip {P : Program} {all : List Oper} {f0 f : AFr} {st0 st : ASt} {its : Nat → It} {j : Nat} {recs : List Rec} {o : Oper} (T : Tra P all f0 st0 its j f st recs) (hsl : slotsOk all = true) (ho : all[j]? = some o)
    (hw : wantedA all f o = some false) : ∃ its', Tra P all f0 st0 its' (j + 1) (f.put o.dst undef) st recs := by
  refine ⟨_, Tra.step (i := ⟨st.next, st.next, fun _ => none, fun _ => none, effD f0.n o.dst, undef, looksL all o, none, fun _ => True⟩) T hsl ho rfl (Nat.le_refl _) (fun x o' hx => by cases hx) (fun k hk hna x o' hx => by cases hx) rfl rfl ?_ ?_ rfl T.wf (LoS.refl _) (fun b hb => by cases hb) (fun k _ _ b hb => by cases hb) (fun k _ _ b _ o' hx => by cases hx) (fun b hb => by cases hb) (fun r hr => hr) (.inl ⟨fun _ => rfl, rfl⟩)⟩
  · intro Q ρ w a K g hs hsz hdf _ _ hwr hfr hK
    have hs' : ∀ t ∈ looksL all o, ∀ v, f.tmps.get t = some v → ∃ v', a.tmps[t]? = some v' ∧ VR ρ v v' := by
      intro t ht v hv
      rw [T.slot] at hv
      exact hs t ht v hv
    unfold Wp
    rw [wanted_rel hw hs', if_neg (by simp)]
    exact hK ρ undef w (.tuple _ _ rfl (fun i x y hx => by simp at hx)) (Mv.refl (hwr.sub fun x o' e => by cases e) _)
  · refine upd_eq _ _ _ (fun x hd => ?_) (fun x hd => rfl)
    rcases hd with ⟨o', hd⟩ | hd
    · cases hd
    · simp only at hd; omega
/-- the whole walk of the one order -/
theorem draw_walk {P : Program} {self : Self} (hself : SelfS P self) {all : List Oper} {f0 : AFr} {st0 : ASt} (hsl : slotsOk all = true) : ∀ (l : List (Oper × Nat)) (j : Nat) (recs : List Rec) (f : AFr) (st : ASt) (its : Nat → It) (x : AX) (f' : AFr) (st' : ASt),
    (∀ (k : Nat) (o : Oper) (m : Nat), l[k]? = some (o, m) → all[j + k]? = some o ∧ m = maskOf all (j + k)) → Tra P all f0 st0 its j f st recs → evDraw P self all l j recs f st = .ok (x, f', st') →
    x = .normal ∧ ∃ its' recs', Tra P all f0 st0 its' (j + l.length) f' st' recs' := by
  intro l
  induction l with
  | nil =>
    intro j recs f st its x f' st' _ T h
    cases h
    exact ⟨rfl, its, recs, T⟩
  | cons p l ih =>
    intro j recs f st its x f' st' hl T h
    obtain ⟨o, m⟩ := p
    obtain ⟨ho, hm⟩ := hl 0 o m rfl
    simp only [Nat.add_zero] at ho hm
    subst hm
    have hl' : ∀ (k : Nat) (o : Oper) (m : Nat), l[k]? = some (o, m) → all[j + 1 + k]? = some o ∧ m = maskOf all (j + 1 + k) := by
      intro k o' m' hk
      have := hl (k + 1) o' m' (by simpa using hk)
      rw [show j + 1 + k = j + (k + 1) by omega]; exact this
    have hlen : j + (((o, maskOf all j) : Oper × Nat) :: l).length = j + 1 + l.length := by simp; omega
    rw [hlen]
    have step : ∀ (fp : Option (List Nat)) (v : Value) (st1 : ASt), wantedA all f o = some true → evVal P self ⟨f.n, restr f (looksL all o), f.defers⟩ ⟨st.next, footOf (maskOf all j) recs st.h fp, big⟩ o = .ok (v, st1) → (fp = none → st.next ≤ st1.lo ∨ (recs.all fun r => hasBit (maskOf all j) r.j) = true) →
        (cond (freeOf (maskOf all j) recs (!(Nat.ble st.next st1.lo)) st1.lo fp st1.h)
          (evDraw P self all l (j + 1) (cond (noRec fp st.next st1.next) recs (⟨j, st.next, st1.next, !(Nat.ble st.next st1.lo), st1.lo, fp, none⟩ :: recs)) (f.put o.dst v)
            ⟨st1.next, mergeOf (maskOf all j) recs st.h (footOf (maskOf all j) recs st.h fp) st1.h st.next st1.next fp, minN st.lo st1.lo⟩)
          (.er "draw: not apart" o.pos)) = .ok (x, f', st') → x = .normal ∧ ∃ its' recs', Tra P all f0 st0 its' (j + 1 + l.length) f' st' recs' := by
      intro fp v st1 hw he hfp hc
      obtain ⟨hfree, h1⟩ := cond_ok hc
      obtain ⟨its1, T1⟩ := draw_step hself T hsl ho hw he hfp hfree
      exact ih (j + 1) _ _ _ its1 x f' st' hl' T1 h1
    unfold evDraw at h
    simp only at h
    split at h
    · rename_i hw
      split at h
      · rename_i q hqq
        obtain ⟨v, a, n, lv⟩ := q
        obtain ⟨hfree, h1⟩ := cond_ok h
        obtain ⟨its1, T1⟩ := draw_load T hsl ho hw hqq hfree
        exact ih (j + 1) _ _ _ its1 x f' st' hl' T1 h1
      rename_i hqq
      split at h
      · rename_i lst hfp
        split at h
        · rename_i v st1 he
          exact step (some lst) v st1 hw he (fun e => by cases e) h
        · cases h
      · split at h
        · rename_i v st1 he
          cases hb : (Nat.ble st.next st1.lo || solo (maskOf all j) recs j l) with
          | true =>
            rw [hb] at h
            simp only [cond_true] at h
            refine step none v st1 hw he (fun _ => ?_) h
            rw [Bool.or_eq_true] at hb
            rcases hb with hb | hb
            · exact .inl (ble_le hb)
            · unfold solo at hb
              rw [Bool.and_eq_true] at hb
              exact .inr hb.1
          | false =>
            rw [hb] at h
            simp only [cond_false] at h
            split at h
            · rename_i v2 st2 he2
              exact step _ v2 st2 hw he2 (fun e => by cases e) h
            · cases h
        · cases h
    · rename_i hw
      obtain ⟨its1, T1⟩ := draw_skip T hsl ho hw
      exact ih (j + 1) _ _ _ its1 x f' st' hl' T1 h
    · cases h
theorem Tra.start (P : Program) (all : List Oper) (f : AFr) (st : ASt) (hwf : ∀ x o, st.h.get x = some o → x < st.next) (its : Nat → It) : Tra P all f st its 0 f st [] :=
  ⟨rfl, rfl, rfl, rfl, fun i h => by omega, ⟨fun k h => by omega, fun i j _ h => by omega, fun k h => by omega, fun k h => by omega, fun i j _ h => by omega, fun i j _ h => by omega, fun j h => by omega, fun i j _ h => by omega, fun i j _ h => by omega⟩, fun i o h => by omega, fun i h => by omega, fun i h => by omega, hwf, LoS.refl _⟩
end Go.Proofs.YtpogcoolgnjejaaGreatDoor.Ev
/-
  A region that draws its order: all orders.
-/
set_option linter.unusedVariables false
set_option linter.unusedSimpArgs false
namespace Go.Proofs.YtpogcoolgnjejaaGreatDoor.Ev
open Go

theorem Mv.frame {ρ ρ' : Rho} {i : It} {g : Mem} {w w' : World} (M : Mv ρ ρ' i.hb i.ha i.s i.e w w') (hw : WR ρ g w) (hsub : ∀ x o, i.hb x = some o → g x = some o) : Mv ρ ρ' g (i.upd g) i.s i.e w w' := by
  have hdom : ∀ x o, i.upd g x = some o → (i.dom x ∧ i.ha x = some o) ∨ (¬ i.dom x ∧ g x = some o) := by
    intro x o h
    unfold It.upd at h
    split at h
    · rename_i hd; exact .inl ⟨hd, h⟩
    · rename_i hd; exact .inr ⟨hd, h⟩
  have hown : ∀ b, Own i.hb ρ b → Own g ρ b := fun b ⟨x, o, s, h1, h0, h2, h3⟩ => ⟨x, o, s, hsub x o h1, h0, h2, h3⟩
  have hkeep : ∀ x o s, g x = some o → ¬ i.dom x → ρ x = some s → s.void = false → ¬ Own i.hb ρ s.blk := by
    intro x o s hx hd hs hv ⟨y, oy, sy, h1, h0, h2, hvy, h3⟩
    have := hw.inj y x oy o sy s (hsub y oy h1) hx (.inl h0) h2 hs hvy hv h3
    subst this
    exact hd (.inl ⟨oy, h1⟩)
  have hfz1 : ∀ b, Frz ρ b → b < w.heap.size ∧ ¬ Own i.hb ρ b := fun b hb => ⟨(hw.fz b hb).1, fun h => (hw.fz b hb).2 (hown b h)⟩
  refine ⟨M.nx, M.ext, M.new, M.size, fun b hb hno => M.frm b hb fun h => hno (hown b h), fun b hb => ?_, M.os, M.tape, M.output, ⟨M.wr.blk, fun x o hx => ?_, fun a b oa ob sa sb ea eb eo ra rb va vb heq => ?_, fun b hb => ?_, fun b hb => ?_⟩, fun x o hx => ?_, fun x o hx ho => ?_, fun b hb => ?_⟩
  · obtain ⟨x, o, s, h1, h0, h2, h3⟩ := hb
    rcases hdom x o h1 with ⟨_, h4⟩ | ⟨_, h4⟩
    · rcases M.own b ⟨x, o, s, h4, h0, h2, h3⟩ with h5 | h5
      · exact .inl h5
      · exact .inr (hown b h5)
    · obtain ⟨s', e1, _⟩ := hw.obj x o h4
      have := M.ext x s' e1
      rw [h2] at this; cases this
      exact .inr ⟨x, o, s, h4, h0, e1, h3⟩
  · rcases hdom x o hx with ⟨_, h4⟩ | ⟨hd, h4⟩
    · exact M.wr.obj x o h4
    · obtain ⟨s, e1, e2⟩ := hw.obj x o h4
      exact ⟨s, M.ext x s e1, e2.kept M.ext (fun hv => M.frm _ (hw.blk x s e1 hv) (hkeep x o s h4 hd e1 hv)) (fun b hb => M.frm b (hfz1 b hb).1 (hfz1 b hb).2)⟩
  · have back : ∀ c oc sc, g c = some oc → ρ' c = some sc → ρ c = some sc := by
      intro c oc sc h1 h2
      obtain ⟨s', e1, _⟩ := hw.obj c oc h1
      have := M.ext c s' e1
      rw [h2] at this; cases this
      exact e1
    have cross : ∀ c d oc od sc sd, i.ha c = some oc → g d = some od → (oc.isOwn = true ∨ od.isOwn = true) → ¬ i.dom d → ρ' c = some sc → ρ' d = some sd → sc.void = false → sd.void = false → sc.blk = sd.blk → False := by
      intro c d oc od sc sd h1 h2 h0 h3 h4 h5 vc vd h6
      have h7 := back d od sd h2 h5
      cases hoc : oc.isOwn with
      | true =>
        rcases M.own sc.blk ⟨c, oc, sc, h1, hoc, h4, vc, rfl⟩ with h8 | h8
        · have := hw.blk d sd h7 vd; omega
        · rw [h6] at h8; exact hkeep d od sd h2 h3 h7 vd h8
      | false =>
        rcases M.ro c oc h1 hoc with h9 | h9
        rotate_left
        · have hod : od.isOwn = true := by
            rcases h0 with h0 | h0
            · rw [hoc] at h0; cases h0
            · exact h0
          have hdf := h9 sc h4 vc
          rcases M.fzn sc.blk hdf with h8 | h8 | h8
          · exact (hw.fz _ h8).2 ⟨d, od, sd, h2, hod, h7, vd, h6.symm⟩
          · have := hw.blk d sd h7 vd; omega
          · rw [h6] at h8; exact hkeep d od sd h2 h3 h7 vd h8
        have h10 := back c oc sc (hsub c oc h9) h4
        have := hw.inj c d oc od sc sd (hsub c oc h9) h2 h0 h10 h7 vc vd h6
        subst this
        exact h3 (.inl ⟨oc, h9⟩)
    rcases hdom a oa ea with ⟨_, h4⟩ | ⟨hd, h4⟩
    · rcases hdom b ob eb with ⟨_, h5⟩ | ⟨hd5, h5⟩
      · exact M.wr.inj a b oa ob sa sb h4 h5 eo ra rb va vb heq
      · exact (cross a b oa ob sa sb h4 h5 eo hd5 ra rb va vb heq).elim
    · rcases hdom b ob eb with ⟨_, h5⟩ | ⟨hd5, h5⟩
      · exact (cross b a ob oa sb sa h5 h4 eo.symm hd rb ra vb va heq.symm).elim
      · exact hw.inj a b oa ob sa sb h4 h5 eo (back a oa sa h4 ra) (back b ob sb h5 rb) va vb heq
  · refine ⟨(M.wr.fz b hb).1, fun ⟨x, o, s, e1, e0, e2, e3, e4⟩ => ?_⟩
    rcases hdom x o e1 with ⟨_, h4⟩ | ⟨hd, h4⟩
    · exact (M.wr.fz b hb).2 ⟨x, o, s, h4, e0, e2, e3, e4⟩
    · obtain ⟨s', r1, _⟩ := hw.obj x o h4
      have hs2 : s' = s := Option.some.inj ((M.ext x s' r1).symm.trans e2)
      subst hs2
      rcases M.fzn b hb with h8 | h8 | h8
      · exact (hw.fz b h8).2 ⟨x, o, s', h4, e0, r1, e3, e4⟩
      · have := hw.blk x s' r1 e3; omega
      · rw [← e4] at h8; exact hkeep x o s' h4 hd r1 e3 h8
  · obtain ⟨k1, k2, k3⟩ := hw.gl b hb
    refine ⟨Nat.lt_of_lt_of_le k1 M.size, k2.kept (M.frm b k1 fun h => k3 (hown b h)), fun ⟨x, o, s, e1, e0, e2, e3, e4⟩ => ?_⟩
    rcases hdom x o e1 with ⟨_, h4⟩ | ⟨hd, h4⟩
    · rcases M.own b ⟨x, o, s, h4, e0, e2, e3, e4⟩ with h5 | h5
      · omega
      · exact k3 (hown b h5)
    · obtain ⟨s', r1, _⟩ := hw.obj x o h4
      have hs2 : s' = s := Option.some.inj ((M.ext x s' r1).symm.trans e2)
      subst hs2
      exact k3 ⟨x, o, s', h4, e0, r1, e3, e4⟩
  · rcases hdom x o hx with ⟨_, h4⟩ | ⟨_, h4⟩
    · rcases M.dom x o h4 with ⟨o', h5⟩ | h5
      · exact .inl ⟨o', hsub x o' h5⟩
      · exact .inr h5
    · exact .inl ⟨o, h4⟩
  · rcases hdom x o hx with ⟨_, h4⟩ | ⟨_, h4⟩
    · rcases M.ro x o h4 ho with h5 | h5
      · exact .inl (hsub x o h5)
      · exact .inr h5
    · exact .inl h4
  · rcases M.fzn b hb with h1 | h1 | h1
    · exact .inl h1
    · exact .inr (.inl h1)
    · exact .inr (.inr (hown b h1))
/-- two steps, the second one's numbers among the first one's -/
theorem Mv.within {ρ ρ1 ρ2 : Rho} {g g1 g2 : Mem} {n N s e : Nat} {w w1 w2 : World} (h : Mv ρ ρ1 g g1 n N w w1) (k : Mv ρ1 ρ2 g1 g2 s e w1 w2) (h1 : n ≤ s) (h2 : e ≤ N) : Mv ρ ρ2 g g2 n N w w2 where
  nx := h.nx
  ext := h.ext.trans k.ext
  new a t e' := by
    rcases k.new a t e' with e1 | e1
    · exact h.new a t e1
    · exact .inr ⟨by omega, by omega⟩
  size := Nat.le_trans h.size k.size
  frm b hb ho := by
    have h1 : ¬ Own g1 ρ1 b := fun h2 => by
      rcases h.own b h2 with h3 | h3
      · omega
      · exact ho h3
    rw [k.frm b (Nat.lt_of_lt_of_le hb h.size) h1, h.frm b hb ho]
  own b hb := by
    rcases k.own b hb with h1 | h1
    · exact .inl (Nat.le_trans h.size h1)
    · exact h.own b h1
  os := k.os.trans h.os
  tape := k.tape.trans h.tape
  output := k.output.trans h.output
  wr := k.wr
  dom a o e' := by
    rcases k.dom a o e' with ⟨o', e1⟩ | e1
    · exact h.dom a o' e1
    · exact .inr ⟨by omega, by omega⟩
  ro a o e' ho := by
    rcases k.ro a o e' ho with e1 | e1
    · rcases h.ro a o e1 ho with e2 | e2
      · exact .inl e2
      · obtain ⟨s1, r1, _⟩ := h.wr.obj a o e1
        refine .inr fun s hs hv => ?_
        have hq2 : s1 = s := Option.some.inj ((k.ext a s1 r1).symm.trans hs)
        have h9 := (e2 s1 r1 (by rw [hq2]; exact hv)).mono k.ext
        rw [hq2] at h9; exact h9
    · exact .inr e1
  fzn b hb := by
    rcases k.fzn b hb with h1 | h1 | h1
    · exact h.fzn b h1
    · exact .inr (.inl (Nat.le_trans h.size h1))
    · exact .inr (h.own b h1)

def cntF (L : Nat → Bool) : Nat → Nat
  | 0 => 0
  | n + 1 => cntF L n + (if L n then 0 else 1)
theorem cntF_zero {L : Nat → Bool} : ∀ {n : Nat}, cntF L n = 0 → ∀ i, i < n → L i = true := by
  intro n
  induction n with
  | zero => intro _ i h; omega
  | succ n ih =>
    intro h i hi
    simp only [cntF] at h
    cases hl : L n with
    | false => rw [hl] at h; simp at h
    | true =>
      rcases Nat.lt_or_ge i n with h1 | h1
      · exact ih (by omega) i h1
      · have : i = n := by omega
        subst this; exact hl
theorem cntF_all {L : Nat → Bool} : ∀ {n : Nat}, (∀ i, i < n → L i = true) → cntF L n = 0 := by
  intro n
  induction n with
  | zero => intro _; rfl
  | succ n ih => intro h; simp [cntF, ih (fun i hi => h i (by omega)), h n (by omega)]
theorem cntF_add {L : Nat → Bool} {j : Nat} (hL : L j = false) : ∀ (n : Nat), cntF L n = cntF (addL L j) n + (if j < n then 1 else 0) := by
  intro n
  induction n with
  | zero => rfl
  | succ n ih =>
    simp only [cntF]
    rw [ih]
    rcases Nat.lt_trichotomy j n with h | h | h
    · have : addL L j n = L n := if_neg (by omega)
      rw [this]
      simp only [h, show j < n + 1 by omega, if_true]
      omega
    · subst h
      have : addL L j j = true := if_pos rfl
      rw [this, hL]
      simp only [Nat.lt_irrefl, if_false, Bool.false_eq_true, if_true, show j < j + 1 by omega]
    · have : addL L j n = L n := if_neg (by omega)
      rw [this]
      simp only [show ¬ j < n by omega, show ¬ j < n + 1 by omega, if_false]
      omega
theorem gK_L {it : Nat → It} {g0 : Mem} {L L' : Nat → Bool} : ∀ {n : Nat}, (∀ k, k < n → L k = L' k) → gK it g0 L n = gK it g0 L' n := by
  intro n
  induction n with
  | zero => intro _; rfl
  | succ n ih =>
    intro h
    have h1 := ih fun k hk => h k (by omega)
    cases hl : L n with
    | true => rw [gK_on it g0 hl, gK_on it g0 ((h n (by omega)) ▸ hl), h1]
    | false => rw [gK_off it g0 hl, gK_off it g0 ((h n (by omega)) ▸ hl), h1]
theorem slK_L {it : Nat → It} {s0 : Nat → Option Value} {L L' : Nat → Bool} : ∀ {n : Nat}, (∀ k, k < n → L k = L' k) → slK it s0 L n = slK it s0 L' n := by
  intro n
  induction n with
  | zero => intro _; rfl
  | succ n ih =>
    intro h
    funext t
    simp only [slK]
    rw [ih fun k hk => h k (by omega), h n (by omega)]

section
variable {P : Program} {all : List Oper} {f0 f' : AFr} {st0 st' : ASt} {its : Nat → It} {recs : List Rec} {Q : Exit → Act → World → Prop} {ρ0 : Rho} {w0 : World}

def lst (listed : Array Bool) : Nat → Bool := fun i => listed.getD i false
structure Inv (all : List Oper) (f0 : AFr) (st0 st' : ASt) (its : Nat → It) (ρ0 : Rho) (w0 : World) (fuel : Nat) (listed : Array Bool) (a : Act) (w : World) (ρ : Rho) : Prop where
  size : listed.size = all.length
  down : Down all.length (Anc all) (lst listed)
  cnt : cntF (lst listed) all.length = fuel
  asize : a.tmps.size = f0.n
  slot : ∀ t v, slK its f0.tmps.get (lst listed) all.length t = some v → ∃ v', a.tmps[t]? = some v' ∧ VR ρ v v'
  defs : DefsR ρ f0.defers a.defers
  mv : Mv ρ0 ρ st0.h.get (gK its st0.h.get (lst listed) all.length) st0.next st'.next w0 w
  fresh : ∀ i, i < all.length → lst listed i = false → Fresh ρ (its i).s (its i).e

theorem draw_all (T : Tra P all f0 st0 its all.length f' st' recs) (hsl : slotsOk all = true) (hQ : ∀ ρ' a' w', FrR ρ' f' a' → Mv ρ0 ρ' st0.h.get st'.h.get st0.next st'.next w0 w' → Q .normal a' w') :
    ∀ (fuel : Nat) (listed : Array Bool) (a : Act) (w : World) (ρ : Rho), Inv all f0 st0 st' its ρ0 w0 fuel listed a w ρ → wpAny P .any all.toArray Q fuel listed a w := by
  have hsp := slotsOk_spec hsl
  have hdone : ∀ (listed : Array Bool) (a : Act) (w : World) (ρ : Rho) fuel, Inv all f0 st0 st' its ρ0 w0 fuel listed a w ρ → (∀ i, i < all.length → lst listed i = true) → Q .normal a w := by
    intro listed a w ρ fuel I hL
    have hL' : ∀ k, k < all.length → lst listed k = allL k := fun k hk => hL k hk
    refine hQ ρ a w ⟨I.asize.trans T.fn.symm, fun t v hv => I.slot t v ?_, by rw [T.defs]; exact I.defs⟩ ?_
    · rw [T.slot] at hv; rw [slK_L hL']; exact hv
    · have := I.mv
      rw [gK_L hL', ← T.heap] at this
      exact this
  have hready : ∀ (listed : Array Bool), listed.size = all.length → Region.ready .any all.toArray listed = [] → ∀ i, i < all.length → lst listed i = true := by
    intro listed hs hr i
    induction i using Nat.strongRecOn with
    | _ i ih =>
      intro hi
      cases hl : lst listed i with
      | true => rfl
      | false =>
        exfalso
        have hm : i ∈ Region.ready .any all.toArray listed := by
          rw [mem_ready]
          have hoi : all[i]? = some all[i] := by simp [hi]
          refine ⟨?_, all[i], by simp [hi], fun e he hb => ?_⟩
          · unfold lst at hl
            simp only [Array.getD_eq_getD_getElem?] at hl ⊢
            have hlt : i < listed.size := by omega
            rw [Array.getElem?_eq_getElem hlt] at hl ⊢
            exact hl
          · have hlt := (hsp.1 |> backOk_spec) i _ hi hoi |>.1 e (by simpa using he) (by rw [bindsA_iff]; exact hb)
            exact ih e.on hlt (by omega)
        rw [hr] at hm; cases hm
  intro fuel
  induction fuel with
  | zero =>
    intro listed a w ρ I
    have hL := cntF_zero I.cnt
    refine ⟨?_, hdone listed a w ρ 0 I hL⟩
    cases hr : Region.ready .any all.toArray listed with
    | nil => rfl
    | cons i l =>
      exfalso
      have hm : i ∈ Region.ready .any all.toArray listed := by rw [hr]; simp
      rw [mem_ready] at hm
      obtain ⟨h1, o, h2, _⟩ := hm
      have hi : i < all.length := by have := (Array.getElem?_eq_some_iff.1 h2).1; simpa using this
      have := hL i hi
      unfold lst at this
      have hlt : i < listed.size := by rw [I.size]; exact hi
      simp only [Array.getD_eq_getD_getElem?, Array.getElem?_eq_getElem hlt] at h1 this
      simp at h1 this
      rw [h1] at this; cases this
  | succ fuel ih =>
    intro listed a w ρ I
    refine ⟨fun hr => hdone listed a w ρ _ I (hready listed I.size hr), fun j hj => ?_⟩
    rw [mem_ready] at hj
    obtain ⟨h1, o, h2, h3⟩ := hj
    have hjl : j < all.length := by have := (Array.getElem?_eq_some_iff.1 h2).1; simpa using this
    have hoj : all[j]? = some o := by simpa using h2
    have hLj : lst listed j = false := by
      unfold lst
      have hlt : j < listed.size := by rw [I.size]; exact hjl
      simp only [Array.getD_eq_getD_getElem?, Array.getElem?_eq_getElem hlt] at h1 ⊢
      exact h1
    have hbk := (backOk_spec hsp.1 j o hjl hoj).1
    have hanc : ∀ k, k < j → Anc all j k → lst listed k = true := by
      intro k hk hA
      obtain ⟨e, e1, e2, e3⟩ := anc_edge hoj hA hbk
      have hl : lst listed e.on = true := h3 e (by simpa using e1) (by rw [← bindsA_iff]; exact e2)
      rcases e3 with e3 | e3
      · rw [e3]; exact hl
      · have h4 := hbk e e1 e2
        exact I.down e.on (by omega) hl k (anc_lt hsp.1 e.on (by omega) k e3) e3
    obtain ⟨d1, d2, hsem⟩ := T.sem j o hjl hoj
    have hls : lst (listed.setIfInBounds j true) = addL (lst listed) j := by
      funext i
      unfold lst addL
      by_cases hi : i = j
      · subst hi
        have hlt : i < listed.size := by rw [I.size]; exact hjl
        simp [hlt]
      · rw [if_neg hi, getD_set_ne false (Ne.symm hi)]
    have hat : ∀ x o', (its j).hb x = some o' → gK its st0.h.get (lst listed) all.length x = some o' := fun x o' hx => T.run.at hjl hLj I.down hanc hx all.length (Nat.le_of_lt hjl) (Nat.le_refl _)
    have hrd : ∀ b, (its j).rb = some b → ∃ o', gK its st0.h.get (lst listed) all.length b = some o' ∧ (its j).rp o' := fun b hb => T.run.at_rd hjl hLj I.down hanc hb all.length (Nat.le_of_lt hjl) (Nat.le_refl _)
    have hslots : ∀ t ∈ (its j).looks, ∀ v, slK its f0.tmps.get allL j t = some v → ∃ v', a.tmps[t]? = some v' ∧ VR ρ v v' := by
      intro t ht v hv
      refine I.slot t v ?_
      rw [T.run.slot_at hjl hLj I.down hanc ht all.length (Nat.le_of_lt hjl) (Nat.le_refl _)]
      exact hv
    have main := hsem Q ρ w a (fun a' w' => wpAny P .any all.toArray Q fuel (listed.setIfInBounds j true) a' w') _ hslots I.asize I.defs hat hrd I.mv.wr (I.fresh j hjl hLj) ?_
    · unfold Wp at main
      unfold wpOp
      rw [h2]
      simp only
      split
      · rename_i hw'; rw [if_pos hw'] at main; exact .inl main
      · rename_i hw'; rw [if_neg hw'] at main; exact main
    · intro ρ' v' w' hv hM
      have hM2 := hM.frame I.mv.wr hat
      obtain ⟨b1, b2⟩ := T.eN j hjl
      refine ih (listed.setIfInBounds j true) _ w' ρ' ⟨by simp [I.size], ?_, ?_, ?_, ?_, ?_, ?_, ?_⟩
      · rw [hls]
        intro q hq hLq i hi hA
        unfold addL at hLq ⊢
        by_cases hij : i = j
        · rw [if_pos hij]
        · rw [if_neg hij]
          by_cases hqj : q = j
          · subst hqj; exact hanc i hi hA
          · rw [if_neg hqj] at hLq
            exact I.down q hq hLq i hi hA
      · rw [hls]
        have := cntF_add hLj all.length
        rw [I.cnt, if_pos hjl] at this
        omega
      · rw [← I.asize]
        cases o.dst <;> simp [Act.put]
      · intro t v hv'
        rw [hls, T.run.slot_add hjl hLj I.down all.length (Nat.le_refl _) t] at hv'
        by_cases hd : (its j).dst = some t
        · rw [if_pos ⟨hjl, hd⟩] at hv'
          cases hv'
          rw [d1] at hd
          obtain ⟨e1, e2⟩ := effD_some hd
          refine ⟨v', ?_, hv⟩
          rw [e1]
          simp [Act.put, I.asize, e2]
        · rw [if_neg (by simp [hd])] at hv'
          obtain ⟨u, u1, u2⟩ := I.slot t v hv'
          refine ⟨u, ?_, u2.mono hM.ext⟩
          have hlt : t < f0.n := by
            have := (Array.getElem?_eq_some_iff.1 u1).1
            rw [I.asize] at this; exact this
          cases hod : o.dst with
          | none => exact u1
          | some q =>
            have hqt : q ≠ t := by
              intro e
              apply hd
              rw [d1, hod, e]
              have hb : Nat.blt t f0.n = true := by simpa using hlt
              simp only [effD, hb, cond_true]
            simp only [Act.put]
            rw [Array.getElem?_setIfInBounds_ne hqt]; exact u1
      · have : (a.put o.dst v').defers = a.defers := by cases o.dst <;> rfl
        rw [this]; exact I.defs.mono hM.ext
      · rw [hls, T.run.add hjl hLj I.down hanc all.length (Nat.le_refl _), if_pos hjl]
        exact I.mv.within hM2 b1 b2
      · rw [hls]
        intro i hi hLi
        unfold addL at hLi
        by_cases hij : i = j
        · rw [if_pos hij] at hLi; cases hLi
        · rw [if_neg hij] at hLi
          have hf := I.fresh i hi hLi
          intro x h4 h5
          cases hx : ρ' x with
          | none => rfl
          | some s =>
            rcases hM.new x s hx with h6 | h6
            · rw [hf x h4 h5] at h6; cases h6
            · exfalso
              rcases Nat.lt_trichotomy i j with h7 | h7 | h7
              · have := T.run.mono i j h7 hjl; omega
              · exact hij h7
              · have := T.run.mono j i h7 hi; omega
/-- **a region that draws its order** -/
theorem draw_region {self : Self} (hself : SelfS P self) {ops : List Oper} {f : AFr} {st : ASt} {x : AX} {id : Nat} (hm : P.follows .mixedOrders = true) (hwf : ∀ x o, st.h.get x = some o → x < st.next) (hsl : slotsOk ops = true)
    (h : evDraw P self ops (ops.zip (ancL ops [])) 0 [] f st = .ok (x, f', st')) :
    x = .normal ∧ LoS st st' ∧ ∀ (Q : Exit → Act → World → Prop) ρ w a, FrR ρ f a → WR ρ st.h.get w → Fresh ρ st.next st'.next → (∀ ρ' a' w', FrR ρ' f' a' → Mv ρ ρ' st.h.get st'.h.get st.next st'.next w w' → Q .normal a' w') → (Code.region id ops.toArray true).wp P Q a w := by
  have hl : ∀ (k : Nat) (o : Oper) (m : Nat), (ops.zip (ancL ops []))[k]? = some (o, m) → ops[0 + k]? = some o ∧ m = maskOf ops (0 + k) := by
    intro k o m hk
    rw [Nat.zero_add]
    have hz := hk
    rw [List.getElem?_zip_eq_some] at hz
    obtain ⟨h1, h2⟩ := hz
    refine ⟨h1, ?_⟩
    unfold maskOf
    rw [List.getD_eq_getElem?_getD, h2]; rfl
  have hlen : (ops.zip (ancL ops [])).length = ops.length := by
    rw [List.length_zip, (ancL_spec ops []).1]; simp
  obtain ⟨e1, its, recs, T⟩ := draw_walk hself hsl _ 0 [] f st (fun _ => ⟨0, 0, fun _ => none, fun _ => none, none, undef, [], none, fun _ => True⟩) x f' st' hl (Tra.start P ops f st hwf _) h
  rw [hlen, Nat.zero_add] at T
  refine ⟨e1, T.los, fun Q ρ w a hf hw hfr hQ => ?_⟩
  refine wp_region_any hm ?_
  have hM0 : Mv ρ ρ st.h.get st.h.get st.next st.next w { w with drawn := w.drawn + 1 } := Mv.same hw _ rfl rfl rfl rfl
  have hfalse : ∀ i, lst (Array.replicate ops.toArray.size false) i = false := by
    intro i
    unfold lst
    simp only [Array.getD_eq_getD_getElem?, Array.getElem?_replicate]
    split <;> rfl
  have hlf : lst (Array.replicate ops.toArray.size false) = fun _ => false := funext hfalse
  have hg0 : ∀ n, gK its st.h.get (fun _ => false) n = st.h.get := by
    intro n; induction n with
    | zero => rfl
    | succ n ih => rw [gK_off its _ rfl, ih]
  have hs0 : ∀ n, slK its f.tmps.get (fun _ => false) n = f.tmps.get := by
    intro n; induction n with
    | zero => rfl
    | succ n ih => funext t; simp only [slK]; rw [ih]; simp
  have hc0 : ∀ n, cntF (fun _ => false) n = n := by
    intro n; induction n with
    | zero => rfl
    | succ n ih => simp only [cntF]; rw [ih]; simp
  refine draw_all (ρ0 := ρ) (w0 := w) T hsl hQ ops.toArray.size _ a _ ρ ⟨by simp, ?_, ?_, hf.size, ?_, hf.defs, ?_, ?_⟩
  · rw [hlf]; intro j _ h; cases h
  · rw [hlf, hc0]; simp
  · rw [hlf, hs0]; exact hf.tmp
  · rw [hlf, hg0]
    refine ⟨T.los.1, hM0.ext, fun a s e => .inl e, hM0.size, hM0.frm, hM0.own, hM0.os, hM0.tape, hM0.output, hM0.wr, fun a o e => .inl ⟨o, e⟩, fun _ _ e _ => .inl e, fun _ e => .inl e⟩
  · intro i hi _ x h1 h2
    obtain ⟨b1, b2⟩ := T.eN i hi
    exact hfr x (by omega) (by omega)
end
end Go.Proofs.YtpogcoolgnjejaaGreatDoor.Ev
/-
  A deferred function that begins with recover(): what is owed of it is one plain walk of what stands behind the recover. No function of the program is spoken of.
-/
namespace Go.Proofs.YtpogcoolgnjejaaGreatDoor
open Go.RowKit

section
variable {P : Program} {Q : Exit → Act → List Frame → World → Prop} {a : Act} {cs : List Frame} {w : World}

theorem wpS_region_recover {id : Nat} {o : Oper} {l : List Oper} {v : Value} {cs' : List Frame} (hg : o.guard = none) (hrun : (execOp a.eval o).run P w = .ok .recover w)
    (h0 : recoverD cs = some (v, cs') ∨ (recoverD cs = none ∧ v = .nilIface ∧ cs' = cs))
    {Q1 : Exit → Act → World → Prop} (hq : ∀ e a w, Q1 e a w → Q e a cs' w)
    (h : wpList P (o :: l).toArray Q1 l (a.put o.dst v) w) : (Code.region id (o :: l).toArray false).wpS P Q a cs w := by
  intro b k hb hr
  have h2 : wpOps P (o :: l).toArray Q1 (List.range' 1 l.length) (a.put o.dst v) w := by
    rw [wpOps_eq_wpList l 1 (by intro j; simp [Nat.add_comm 1 j])]
    exact h
  obtain ⟨e, a', w', q, r⟩ := wp_ops _ _ w h2 b k cs'
  have hrange : List.range (o :: l).toArray.size = 0 :: List.range' 1 l.length := by
    rw [List.range_eq_range']
    simp [List.range'_succ]
  refine ⟨e, a', cs', w', hq _ _ _ q, .of_steps (.one step_region) (.of_steps (.one (?_ : step P _ = .next _)) r)⟩
  rw [hrange]
  have ho : (o :: l).toArray[0]? = some o := rfl
  have hw : Region.wanted o (yielded (o :: l).toArray a.tmps) = true := by simp [Region.wanted, hg]
  have hst := stepG_op (P := P) (b := b) (k := k) (cs := cs) (w := w) (rest := List.range' 1 l.length) ho hw
  have hfin : ∀ u, (b.at a (.inRegion (o :: l).toArray (0 :: List.range' 1 l.length) :: k)).finish u = b.at (a.put o.dst u) (.inRegion (o :: l).toArray (List.range' 1 l.length) :: k) := by
    intro u; rw [Frame.finish_at, ho]; rfl
  refine step_lone_go ?_
  have hk : (b.at a (.inRegion (o :: l).toArray (0 :: List.range' 1 l.length) :: k)).kind = .deferred := hb
  have htr := tryRecover_deferred hk cs
  rw [hst, ← hfin]
  rcases h0 with hrec | ⟨hrec, rfl, rfl⟩
  · simp only [Frame.at] at htr ⊢
    simp [stepG.apply, hrun, htr, hrec]
  · simp only [Frame.at] at htr ⊢
    simp [stepG.apply, hrun, htr, hrec]

theorem recover_tail {fn : Func} {id : Nat} {o : Oper} {l : List Oper} {c2 : Code} {a : Act} {u u' : FrameMode} {v : Value} {w : World} {R : Ending → World → Prop} {c₀ : Frame} {cs : List Frame}
    (hg : o.guard = none) (hrun : ∀ ρ, (execOp ρ o).run P w = .ok .recover w)
    (h0 : (∃ older, u = .panicking ({ v, recovered := false } :: older) ∧ u' = .panicking ({ v, recovered := true } :: older)) ∨ (u = .returning ∧ u' = .returning ∧ v = .nilIface)) (hu : c₀.mode = u)
    (h : wpList P (o :: l).toArray (Exit.then (c2.wp P (bodyPost P fn R)) (bodyPost P fn R)) l (a.put o.dst v) w) :
    (Code.seq (.region id (o :: l).toArray false) c2).wpS P (bodyPostS P fn c₀ cs (fun e u'' w' => u'' = u' ∧ R e w')) a (c₀ :: cs) w := by
  apply wpS_seq
  refine wpS_region_recover (v := v) (cs' := { c₀ with mode := u' } :: cs) hg (hrun _) ?_ ?_ h
  · rcases h0 with ⟨older, rfl, rfl⟩ | ⟨rfl, rfl, rfl⟩
    · left
      simp [recoverD, hu]
    · right
      refine ⟨by simp [recoverD, hu], rfl, ?_⟩
      cases c₀
      simp_all
  · intro e a' w' hq
    have key : ∀ e a' w', bodyPost P fn R e a' w' → bodyPostS P fn c₀ cs (fun e u'' w' => u'' = u' ∧ R e w') e a' ({ c₀ with mode := u' } :: cs) w' := by
      intro e a' w' hq
      cases e <;> simp only [bodyPost, bodyPostS] at hq ⊢
      case normal => obtain ⟨h1, x, h2, h3⟩ := hq; exact ⟨h1, u', rfl, x, h2, rfl, h3⟩
      case ret => obtain ⟨h1, x, h2, h3⟩ := hq; exact ⟨h1, u', rfl, x, h2, rfl, h3⟩
      case panic => obtain ⟨h1, h2⟩ := hq; exact ⟨h1, u', rfl, rfl, h2⟩
      case outgrown => exact ⟨u', rfl, hq⟩
    cases e
    case normal => exact wpS_of_wp (Code.wp_mono (fun e a' w' => key e a' w') hq)
    case exit id => exact key (.exit id) a' w' hq
    case goto id => exact key (.goto id) a' w' hq
    case ret => exact key .ret a' w' hq
    case panic ch => exact key (.panic ch) a' w' hq
    case outgrown => exact key .outgrown a' w' hq
/-- A deferred function whose body is a region that begins with recover(), and more behind it. -/
theorem callsD_recover {f : FuncId} {fn : Func} {id : Nat} {o : Oper} {l : List Oper} {c2 : Code} {args : Array Value} {u u' : FrameMode} {v : Value} {w : World} {R : Ending → World → Prop}
    (hf : P.funcs[f]? = some fn) (hb : fn.body = some (.seq (.region id (o :: l).toArray false) c2)) (hg : o.guard = none) (hrun : ∀ ρ, (execOp ρ o).run P w = .ok .recover w)
    (h0 : (∃ older, u = .panicking ({ v, recovered := false } :: older) ∧ u' = .panicking ({ v, recovered := true } :: older)) ∨ (u = .returning ∧ u' = .returning ∧ v = .nilIface))
    (h : wpList P (o :: l).toArray (Exit.then (c2.wp P (bodyPost P fn R)) (bodyPost P fn R)) l (({ tmps := args ++ Array.replicate (fn.ntmps - args.size) undef, defers := [] } : Act).put o.dst v) w) :
    CallsD P f args u w fun e u'' w' => u'' = u' ∧ R e w' := by
  refine callsD_of_wpS hf hb fun c₀ cs hu => ?_
  exact recover_tail hg hrun h0 hu h
/-- A deferred function whose body is a region, one that begins with recover(), and more behind it. -/
theorem callsD_recover2 {f : FuncId} {fn : Func} {id id0 : Nat} {ops0 : Array Oper} {o : Oper} {l : List Oper} {c2 : Code} {args : Array Value} {u u' : FrameMode} {v : Value} {w : World} {R : Ending → World → Prop}
    (hf : P.funcs[f]? = some fn) (hb : fn.body = some (.seq (.region id0 ops0 false) (.seq (.region id (o :: l).toArray false) c2))) (hg : o.guard = none) (hrun : ∀ ρ w, (execOp ρ o).run P w = .ok .recover w)
    (h0 : (∃ older, u = .panicking ({ v, recovered := false } :: older) ∧ u' = .panicking ({ v, recovered := true } :: older)) ∨ (u = .returning ∧ u' = .returning ∧ v = .nilIface))
    (h : (Code.region id0 ops0 false).wp P (fun e a1 w1 => e = .normal ∧ wpList P (o :: l).toArray (Exit.then (c2.wp P (bodyPost P fn R)) (bodyPost P fn R)) l (a1.put o.dst v) w1) ({ tmps := args ++ Array.replicate (fn.ntmps - args.size) undef, defers := [] } : Act) w) :
    CallsD P f args u w fun e u'' w' => u'' = u' ∧ R e w' := by
  refine callsD_of_wpS hf hb fun c₀ cs hu => ?_
  apply wpS_seq
  refine wpS_of_wp (Code.wp_mono (fun e a1 w1 hq => ?_) h)
  obtain ⟨rfl, hq⟩ := hq
  exact recover_tail (u := u) hg (fun ρ => hrun ρ w1) h0 hu hq
end
end Go.Proofs.YtpogcoolgnjejaaGreatDoor
/-
  What the evaluator says of code and of functions holds of every run.
-/
set_option linter.unusedVariables false
set_option linter.unusedSimpArgs false
namespace Go.Proofs.YtpogcoolgnjejaaGreatDoor.Ev
open Go

def XR (ρ : Rho) : AX → Exit → Prop
  | .normal, e => e = .normal
  | .exit id, e => e = .exit id
  | .ret, e => e = .ret
  | .panic v, e => ∃ v', e = .panic [{ v := v', recovered := false }] ∧ VR ρ v v'
/-- what is owed of a piece of code -/
def Goal (ρ : Rho) (st st' : ASt) (f' : AFr) (x : AX) (w : World) (Q : Exit → Act → World → Prop) : Prop :=
  ∀ ρ' e' a' w', XR ρ' x e' → FrR ρ' f' a' → Mv ρ ρ' st.h.get st'.h.get st.next st'.next w w' → Q e' a' w'
def Snd (P : Program) (c : Code) (f : AFr) (st : ASt) (x : AX) (f' : AFr) (st' : ASt) : Prop :=
  LoS st st' ∧ ∀ (Q : Exit → Act → World → Prop) ρ w a, FrR ρ f a → WR ρ st.h.get w → Fresh ρ st.next st'.next → Goal ρ st st' f' x w Q → c.wp P Q a w

theorem evOp_sound {P : Program} {self : Self} (hs : SelfS P self) {f f' : AFr} {st st' : ASt} {o : Oper} {x : AX} (hwf : Wf st) (h : evOp P self f st o = .ok (x, f', st')) : LoS st st' ∧ ∀ ρ w a, FrR ρ f a → WR ρ st.h.get w → Fresh ρ st.next st'.next →
    ∀ (K : Act → World → Prop) (Q : Exit → Act → World → Prop), (x = .normal → ∀ ρ' a' w', FrR ρ' f' a' → Mv ρ ρ' st.h.get st'.h.get st.next st'.next w w' → K a' w') → (x ≠ .normal → Goal ρ st st' f' x w Q) → o.wp P a w K Q := by
  unfold evOp at h
  split at h
  · rename_i v st1 ha
    cases h
    obtain ⟨h1, h2⟩ := aOp_sound ha
    refine ⟨h1, fun ρ w a hf hw hfr K Q hK _ => ?_⟩
    obtain ⟨ρ', v', w', hr, hv, hm⟩ := h2 ρ w a hf hw hfr
    have := hK rfl ρ' (a.put o.dst v') w' ((hf.mono hm.ext).put hv) hm
    unfold Oper.wp
    rcases hr with hr | ⟨hr, rfl⟩
    · rw [hr]; exact this
    · rw [hr]; exact this
  · rename_i g args ha
    have h2 := aOp_sound ha
    split at h
    · rename_i v st1 hg
      cases h
      obtain ⟨k1, k2⟩ := hs g args st _ _ hwf hg
      refine ⟨k1, fun ρ w a hf hw hfr K Q hK _ => ?_⟩
      obtain ⟨args', hr, hv⟩ := h2 ρ w a hf hw
      unfold Oper.wp
      rw [hr]
      refine (k2 ρ w args' hv hw hfr).mono fun e w' he => ?_
      obtain ⟨ρ', ⟨v', rfl, hv'⟩, hm⟩ := he
      exact hK rfl ρ' _ w' ((hf.mono hm.ext).put hv') hm
    · rename_i v st1 hg
      cases h
      obtain ⟨k1, k2⟩ := hs g args st _ _ hwf hg
      refine ⟨k1, fun ρ w a hf hw hfr K Q _ hQ => ?_⟩
      obtain ⟨args', hr, hv⟩ := h2 ρ w a hf hw
      unfold Oper.wp
      rw [hr]
      refine (k2 ρ w args' hv hw hfr).mono fun e w' he => ?_
      obtain ⟨ρ', ⟨v', rfl, hv'⟩, hm⟩ := he
      exact hQ (by intro e; cases e) ρ' _ a w' ⟨v', rfl, hv'⟩ (hf.mono hm.ext) hm
    · cases h
  · rename_i d ha
    cases h
    have h2 := aOp_sound ha
    refine ⟨LoS.refl _, fun ρ w a hf hw hfr K Q hK _ => ?_⟩
    obtain ⟨d', hr, hd⟩ := h2 ρ w a hf hw
    unfold Oper.wp
    rw [hr]
    refine hK rfl ρ _ w ?_ (Mv.refl hw _)
    have : FrR ρ ({ f with defers := d :: f.defers } : AFr) ({ a with defers := d' :: a.defers } : Act) := ⟨hf.size, hf.tmp, hd, hf.defs⟩
    exact this.put (.tuple _ _ rfl (fun i x y hx => by simp at hx))
  · rename_i v ha
    cases h
    have h2 := aOp_sound ha
    refine ⟨LoS.refl _, fun ρ w a hf hw hfr K Q _ hQ => ?_⟩
    obtain ⟨v', hr, hv⟩ := h2 ρ w a hf hw
    unfold Oper.wp
    rw [hr]
    exact hQ (by intro e; cases e) ρ _ a w ⟨v', rfl, hv⟩ hf (Mv.refl hw _)
  · cases h
theorem evOps_sound {P : Program} {self : Self} (hs : SelfS P self) (all : List Oper) : ∀ (l : List Oper) (f : AFr) (st : ASt) (x : AX) (f' : AFr) (st' : ASt), Wf st → evOps P self all l f st = .ok (x, f', st') →
    LoS st st' ∧ ∀ (Q : Exit → Act → World → Prop) ρ w a, FrR ρ f a → WR ρ st.h.get w → Fresh ρ st.next st'.next → Goal ρ st st' f' x w Q → wpList P all.toArray Q l a w := by
  intro l
  induction l with
  | nil =>
    intro f st x f' st' _ h
    cases h
    exact ⟨LoS.refl _, fun Q ρ w a hf hw hfr hQ => wpList_nil (hQ ρ _ a w rfl hf (Mv.refl hw _))⟩
  | cons o l ih =>
    intro f st x f' st' hwf h
    simp only [evOps] at h
    split at h
    · rename_i hwa
      split at h
      · rename_i f1 st1 he
        obtain ⟨h1, h2⟩ := evOp_sound hs hwf he
        obtain ⟨h3, h4⟩ := ih f1 st1 x f' st' (h1.wf hwf) h
        refine ⟨h1.trans h3, fun Q ρ w a hf hw hfr hQ => ?_⟩
        have hwant := wanted_rel (ρ := ρ) (a := a) hwa (fun t _ v hv => hf.tmp t v hv)
        unfold wpList
        rw [hwant, if_pos rfl]
        left
        refine h2 ρ w a hf hw (hfr.left h3.1) _ _ (fun _ ρ' a' w' hf' hm => ?_) (fun hne => absurd rfl hne)
        exact h4 Q ρ' w' a' hf' hm.wr (hm.fresh hfr) fun ρ2 e2 a2 w2 hx hf2 hm2 => hQ ρ2 e2 a2 w2 hx hf2 (hm.trans hm2)
      · rename_i hne
        obtain ⟨h1, h2⟩ := evOp_sound hs hwf h
        refine ⟨h1, fun Q ρ w a hf hw hfr hQ => ?_⟩
        have hwant := wanted_rel (ρ := ρ) (a := a) hwa (fun t _ v hv => hf.tmp t v hv)
        unfold wpList
        rw [hwant, if_pos rfl]
        left
        exact h2 ρ w a hf hw hfr _ _ (fun hx => by subst hx; exact absurd h (hne f' st')) (fun _ => hQ)
    · rename_i hwa
      obtain ⟨h3, h4⟩ := ih _ st x f' st' hwf h
      refine ⟨h3, fun Q ρ w a hf hw hfr hQ => ?_⟩
      have hwant := wanted_rel (ρ := ρ) (a := a) hwa (fun t _ v hv => hf.tmp t v hv)
      unfold wpList
      rw [hwant, if_neg (by simp)]
      exact h4 Q ρ w _ (hf.put (.tuple _ _ rfl (fun i x y hx => by simp at hx))) hw hfr hQ
    · cases h
theorem evCode_sound {P : Program} {self : Self} (hs : SelfS P self) (hm : P.follows .mixedOrders = true) (fuel : Nat) : ∀ (c : Code) (f : AFr) (st : ASt) (x : AX) (f' : AFr) (st' : ASt), Wf st → evCode P self fuel c f st = .ok (x, f', st') → Snd P c f st x f' st' := by
  intro c
  induction c with
  | skip =>
    intro f st x f' st' _ h
    cases h
    exact ⟨LoS.refl _, fun Q ρ w a hf hw hfr hQ => wp_skip (hQ ρ _ a w rfl hf (Mv.refl hw _))⟩
  | region id ops draw =>
    intro f st x f' st' hwf h
    simp only [evCode, evRegion] at h
    cases draw with
    | true =>
      simp only [cond_true] at h
      obtain ⟨hsl, h⟩ := cond_ok h
      obtain ⟨e1, e2, e3⟩ := draw_region (id := id) hs hm hwf hsl h
      subst e1
      refine ⟨e2, fun Q ρ w a hf hw hfr hQ => ?_⟩
      have := e3 Q ρ w a hf hw hfr (fun ρ' a' w' hf' hm' => hQ ρ' _ a' w' rfl hf' hm')
      simpa using this
    | false =>
      simp only [cond_false] at h
      obtain ⟨e1, e2⟩ := evOps_sound hs ops.toList ops.toList f st x f' st' hwf h
      refine ⟨e1, fun Q ρ w a hf hw hfr hQ => wp_region_list ?_⟩
      have := e2 Q ρ w a hf hw hfr hQ
      simpa using this
  | seq c d ihc ihd =>
    intro f st x f' st' hwf h
    simp only [evCode] at h
    split at h
    · rename_i f1 st1 he
      obtain ⟨h1, h2⟩ := ihc f st _ f1 st1 hwf he
      obtain ⟨h3, h4⟩ := ihd f1 st1 x f' st' (h1.wf hwf) h
      refine ⟨h1.trans h3, fun Q ρ w a hf hw hfr hQ => wp_seq ?_⟩
      refine h2 _ ρ w a hf hw (hfr.left h3.1) fun ρ' e' a' w' hx hf' hm' => ?_
      cases hx
      exact h4 Q ρ' w' a' hf' hm'.wr (hm'.fresh hfr) fun ρ2 e2 a2 w2 hx2 hf2 hm2 => hQ ρ2 e2 a2 w2 hx2 hf2 (hm'.trans hm2)
    · rename_i hne
      obtain ⟨h1, h2⟩ := ihc f st x f' st' hwf h
      refine ⟨h1, fun Q ρ w a hf hw hfr hQ => wp_seq ?_⟩
      refine h2 _ ρ w a hf hw hfr fun ρ' e' a' w' hx hf' hm' => ?_
      have hq := hQ ρ' e' a' w' hx hf' hm'
      cases x with
      | normal => exact absurd h (hne f' st')
      | exit id => cases hx; exact hq
      | ret => cases hx; exact hq
      | panic v => obtain ⟨v', rfl, _⟩ := hx; exact hq
  | cond b c d ihc ihd =>
    intro f st x f' st' hwf h
    simp only [evCode] at h
    split at h
    · rename_i hb
      obtain ⟨h1, h2⟩ := ihc f st x f' st' hwf h
      refine ⟨h1, fun Q ρ w a hf hw hfr hQ => ?_⟩
      have hc := hf.ev b
      rw [hb] at hc
      have : a.eval b = .bool true := by cases hA : a.eval b <;> (rw [hA] at hc; cases hc) ; rfl
      exact wp_cond_true this (h2 Q ρ w a hf hw hfr hQ)
    · rename_i hb
      obtain ⟨h1, h2⟩ := ihd f st x f' st' hwf h
      refine ⟨h1, fun Q ρ w a hf hw hfr hQ => ?_⟩
      have hc := hf.ev b
      rw [hb] at hc
      have : a.eval b = .bool false := by cases hA : a.eval b <;> (rw [hA] at hc; cases hc) ; rfl
      exact wp_cond_false this (h2 Q ρ w a hf hw hfr hQ)
    · cases h
  | block id c ih =>
    intro f st x f' st' hwf h
    simp only [evCode] at h
    split at h
    · rename_i i f1 st1 he
      obtain ⟨h1, h2⟩ := ih f st _ f1 st1 hwf he
      cases hb : Nat.beq i id with
      | true =>
        rw [hb] at h
        cases h
        have hid := Nat.eq_of_beq_eq_true hb
        subst hid
        refine ⟨h1, fun Q ρ w a hf hw hfr hQ => wp_block ?_⟩
        refine h2 _ ρ w a hf hw hfr fun ρ' e' a' w' hx hf' hm' => ?_
        cases hx
        simp only [Exit.inBlock, if_true]
        exact hQ ρ' _ a' w' rfl hf' hm'
      | false =>
        rw [hb] at h
        cases h
        have hid := Nat.ne_of_beq_eq_false hb
        refine ⟨h1, fun Q ρ w a hf hw hfr hQ => wp_block ?_⟩
        refine h2 _ ρ w a hf hw hfr fun ρ' e' a' w' hx hf' hm' => ?_
        cases hx
        simp only [Exit.inBlock, if_neg hid]
        exact hQ ρ' _ a' w' rfl hf' hm'
    · rename_i hne
      obtain ⟨h1, h2⟩ := ih f st x f' st' hwf h
      refine ⟨h1, fun Q ρ w a hf hw hfr hQ => wp_block ?_⟩
      refine h2 _ ρ w a hf hw hfr fun ρ' e' a' w' hx hf' hm' => ?_
      have hq := hQ ρ' e' a' w' hx hf' hm'
      cases x with
      | normal => cases hx; exact hq
      | exit id => exact absurd h (hne id f' st')
      | ret => cases hx; exact hq
      | panic v => obtain ⟨v', rfl, _⟩ := hx; exact hq
  | loop c ih =>
    intro f st x f' st' hwf h
    simp only [evCode] at h
    have key : ∀ (n : Nat) (f : AFr) (st : ASt), Wf st → iter (evCode P self fuel c) n f st = .ok (x, f', st') →
        LoS st st' ∧ ∀ (Q : Exit → Act → World → Prop) ρ w a, FrR ρ f a → WR ρ st.h.get w → Fresh ρ st.next st'.next → Goal ρ st st' f' x w Q → Code.rounds P c Q n a w := by
      intro n
      induction n with
      | zero => intro f st _ h; cases h
      | succ n ihn =>
        intro f st hwf h
        simp only [iter] at h
        split at h
        · rename_i f1 st1 he
          obtain ⟨h1, h2⟩ := ih f st _ f1 st1 hwf he
          obtain ⟨h3, h4⟩ := ihn f1 st1 (h1.wf hwf) h
          refine ⟨h1.trans h3, fun Q ρ w a hf hw hfr hQ => ?_⟩
          rw [rounds_succ]
          refine h2 _ ρ w a hf hw (hfr.left h3.1) fun ρ' e' a' w' hx hf' hm' => ?_
          cases hx
          exact h4 Q ρ' w' a' hf' hm'.wr (hm'.fresh hfr) fun ρ2 e2 a2 w2 hx2 hf2 hm2 => hQ ρ2 e2 a2 w2 hx2 hf2 (hm'.trans hm2)
        · rename_i hne
          obtain ⟨h1, h2⟩ := ih f st x f' st' hwf h
          refine ⟨h1, fun Q ρ w a hf hw hfr hQ => ?_⟩
          rw [rounds_succ]
          refine h2 _ ρ w a hf hw hfr fun ρ' e' a' w' hx hf' hm' => ?_
          have hq := hQ ρ' e' a' w' hx hf' hm'
          cases x with
          | normal => exact absurd h (hne f' st')
          | exit id => cases hx; exact hq
          | ret => cases hx; exact hq
          | panic v => obtain ⟨v', rfl, _⟩ := hx; exact hq
    obtain ⟨h1, h2⟩ := key fuel f st hwf h
    exact ⟨h1, fun Q ρ w a hf hw hfr hQ => wp_loop_rounds fuel (h2 Q ρ w a hf hw hfr hQ)⟩
  | exit id =>
    intro f st x f' st' _ h
    cases h
    exact ⟨LoS.refl _, fun Q ρ w a hf hw hfr hQ => wp_exit (hQ ρ _ a w rfl hf (Mv.refl hw _))⟩
  | ret =>
    intro f st x f' st' _ h
    cases h
    exact ⟨LoS.refl _, fun Q ρ w a hf hw hfr hQ => wp_ret (hQ ρ _ a w rfl hf (Mv.refl hw _))⟩
  | _ => intros; rename_i h; cases h
end Go.Proofs.YtpogcoolgnjejaaGreatDoor.Ev
/-
  What the evaluator says of functions holds of every run; the answer of a closed call.
-/
set_option linter.unusedVariables false
set_option linter.unusedSimpArgs false
namespace Go.Proofs.YtpogcoolgnjejaaGreatDoor.Ev
open Go

theorem args0_get : ∀ (l : List Value) (i : Nat) (t : Tr Value) (k : Nat), (args0 l i t).get k = if i ≤ k ∧ k < i + l.length then l[k - i]? else t.get k := by
  intro l
  induction l with
  | nil => intro i t k; rw [if_neg (by simp)]; rfl
  | cons v l ih =>
    intro i t k
    simp only [args0, ih, set_get]
    by_cases hk : k = i
    · subst hk
      rw [if_neg (by omega), upd_same, if_pos (by simp)]
      simp
    · rw [upd_ne _ _ hk]
      by_cases h2 : i + 1 ≤ k ∧ k < i + 1 + l.length
      · rw [if_pos h2, if_pos (by simp; omega), show k - i = (k - (i + 1)) + 1 by omega]
        simp
      · rw [if_neg h2, if_neg (by simp; omega)]
theorem maxN_eq (a b : Nat) : maxN a b = max a b := by
  unfold maxN
  rcases Bool.eq_false_or_eq_true (Nat.ble a b) with h | h
  · rw [h]; have := ble_le h; simp only [cond_true]; omega
  · rw [h]
    have : ¬ a ≤ b := fun h2 => by rw [Nat.ble_eq_true_of_le h2] at h; cases h
    simp only [cond_false]; omega
theorem enter_rel {ρ : Rho} {args : List Value} {args' : Array Value} (n : Nat) (h : VRL ρ args args'.toList) : FrR ρ ⟨maxN args.length n, args0 args 0 .leaf, []⟩ { tmps := args' ++ Array.replicate (n - args'.size) undef, defers := [] } := by
  have hl : args.length = args'.size := by have := h.1; simpa using this
  refine ⟨by rw [maxN_eq]; simp; omega, fun t v e => ?_, trivial⟩
  simp only [args0_get, Nat.sub_zero, Nat.zero_add] at e
  split at e
  · rename_i ht
    obtain ⟨y, hy, hv⟩ := h.get e
    refine ⟨y, ?_, hv⟩
    simp only
    rw [Array.getElem?_append_left (by omega)]
    simpa using hy
  · cases e

/-- one result -/
def resS (tmps : Array Value) : ResultVar → Sem Value
  | .tmp t => pure (tmps.getD t undef)
  | .cell a t => (asAddr (tmps.getD a undef)).bind fun x => loadVar t x
theorem results_eq (fn : Func) (tmps : Array Value) : results fn tmps = ((fn.results.mapM (resS tmps)).bind fun vs => pure (if h : vs.size = 1 then vs[0] else .tuple vs)) := by
  unfold results
  have : (fun (x : ResultVar) => (match x with
      | .tmp t => pure (tmps.getD t undef)
      | .cell a t => do loadVar t (← asAddr (tmps.getD a undef)) : Sem Value)) = resS tmps := by
    funext x
    cases x <;> rfl
  rw [← this]
  rfl
theorem resL_run {P : Program} {ρ : Rho} {f : AFr} {st : ASt} {tmps : Array Value} {w : World} (hf : FrR ρ ⟨f.n, f.tmps, []⟩ ⟨tmps, []⟩) (hw : WR ρ st.h.get w) : ∀ {l : List ResultVar} {vs : List Value}, resL P st f l = .ok vs →
    ∃ vs', (l.mapM (resS tmps)).run P w = .ok vs' w ∧ VRL ρ vs vs' := by
  intro l
  have hev : ∀ t, VR ρ (f.tmp t) (tmps.getD t undef) := fun t => hf.ev (.tmp t)
  induction l with
  | nil => intro vs h; cases h; exact ⟨[], rfl, VRL.nil ρ⟩
  | cons x l ih =>
    intro vs h
    cases x with
    | tmp t =>
      simp only [resL] at h
      obtain ⟨r, h1, h2⟩ := bnd_ok h
      cases h2
      obtain ⟨vs', e1, e2⟩ := ih h1
      refine ⟨tmps.getD t undef :: vs', ?_, VRL.cons (hev t) e2⟩
      have e0 : (resS tmps (.tmp t)).run P w = .ok (tmps.getD t undef) w := rfl
      simp only [List.mapM_cons, Sem.run_bind, Sem.run_pure, Result.andThen_ok, e0, e1]
    | cell x t =>
      simp only [resL] at h
      split at h
      · rename_i a0 hx
        obtain ⟨n, h1, h2⟩ := bnd_ok h
        obtain ⟨cs, h3, h4⟩ := bnd_ok h2
        obtain ⟨v, h5, h6⟩ := bnd_ok h4
        obtain ⟨r, h7, h8⟩ := bnd_ok h6
        cases h8
        obtain ⟨vs', e1, e2⟩ := ih h7
        have hX := hev x
        rw [hx] at hX
        obtain ⟨s, g2, g3⟩ := hX.ptr_loc
        obtain ⟨l', r1, r2, r3⟩ := readC_rel h3 hw g2
        have main : ∃ y, (loadVar t ⟨s.blk, locOf s a0, none⟩).run P w = .ok y w ∧ VR ρ v y := by
          rcases shutL_run h5 with ⟨k8, rfl⟩ | ⟨k8, rfl⟩
          · refine ⟨.agg l'.toArray, ?_, VR.agg' r1⟩
            have := run_loadCells_list (P := P) (w := w) ⟨s.blk, locOf s a0, none⟩ l' r3
            rw [r2] at this
            simp [loadVar, run_aggL k8, run_sizeL h1, this]
          · obtain ⟨y, m, rfl, hy, hm⟩ := r1.uncons
            refine ⟨y, ?_, hy⟩
            have := r3 0 y (by simp)
            simp only [add_at, Nat.add_zero] at this
            simp [loadVar, run_aggL k8, this]
        obtain ⟨y, m1, m2⟩ := main
        refine ⟨y :: vs', ?_, VRL.cons m2 e2⟩
        have e0 : (resS tmps (.cell x t)).run P w = .ok y w := by
          show ((asAddr (tmps.getD x undef)).bind fun z => loadVar t z).run P w = _
          rw [g3]
          exact m1
        simp only [List.mapM_cons, Sem.run_bind, Sem.run_pure, Result.andThen_ok, e0, e1]
      · cases h
theorem resOf_run {P : Program} {ρ : Rho} {fn : Func} {f : AFr} {st : ASt} {tmps : Array Value} {w : World} {v : Value} (hf : FrR ρ ⟨f.n, f.tmps, []⟩ ⟨tmps, []⟩) (hw : WR ρ st.h.get w) (h : resOf P fn st f = .ok v) :
    ∃ v', (results fn tmps).run P w = .ok v' w ∧ VR ρ v v' := by
  unfold resOf at h
  obtain ⟨vs, h1, h2⟩ := bnd_ok h
  obtain ⟨vs', e1, e2⟩ := resL_run hf hw h1
  have hrun : (results fn tmps).run P w = .ok (if h : vs'.toArray.size = 1 then vs'.toArray[0] else .tuple vs'.toArray) w := by
    rw [results_eq, Array.mapM_eq_mapM_toList]
    show (((List.toArray <$> fn.results.toList.mapM (resS tmps)) >>= fun vs => pure (if h : vs.size = 1 then vs[0] else .tuple vs) : Sem Value)).run P w = _
    simp only [Sem.run_bind, Sem.run_map, e1, Result.andThen_ok, Sem.run_pure]
  split at h2
  · cases h2
    obtain ⟨y, m, rfl, hy, hm⟩ := e2.uncons
    have := hm.nil_inv
    subst this
    exact ⟨y, by rw [hrun]; rfl, hy⟩
  · rename_i hne
    cases h2
    refine ⟨.tuple vs'.toArray, ?_, VR.tuple' e2⟩
    rw [hrun, dif_neg]
    intro h1
    have hl : vs.length = 1 := by rw [e2.1]; simpa using h1
    match vs, hl with
    | [x], _ => exact hne x rfl

/-! ### what is deferred -/
def ModeR (ρ : Rho) : Option Value → FrameMode → Prop
  | none, u => u = .returning
  | some v, u => ∃ v', u = .panicking [{ v := v', recovered := false }] ∧ VR ρ v v'
theorem ModeR.mono {ρ ρ' : Rho} (hs : Sub ρ ρ') {p : Option Value} {u : FrameMode} (h : ModeR ρ p u) : ModeR ρ' p u := by
  cases p with
  | none => exact h
  | some v => obtain ⟨v', h1, h2⟩ := h; exact ⟨v', h1, h2.mono hs⟩
theorem ModeR.settle {ρ : Rho} {p : Option Value} {u : FrameMode} (h : ModeR ρ p u) : ModeR ρ p (settle u) ∧ u ≠ .run := by
  cases p with
  | none => cases h; exact ⟨rfl, by simp⟩
  | some v => obtain ⟨v', rfl, h2⟩ := h; exact ⟨⟨v', rfl, h2⟩, by simp⟩
def SelfD (P : Program) (selfD : FuncId → List Value → Option Value → ASt → Rs (Option Value × ASt)) : Prop := ∀ g args p st p' st', Wf st → selfD g args p st = .ok (p', st') → LoS st st' ∧ ∀ ρ w (args' : Array Value) u, VRL ρ args args'.toList → WR ρ st.h.get w → Fresh ρ st.next st'.next → ModeR ρ p u →
  CallsD P g args' u w fun e u' w' => ∃ ρ', (∃ v, e = .returned v) ∧ ModeR ρ' p' (settle u') ∧ Mv ρ ρ' st.h.get st'.h.get st.next st'.next w w'
theorem leave_sound {P : Program} {selfD : FuncId → List Value → Option Value → ASt → Rs (Option Value × ASt)} (hsd : SelfD P selfD) {fn : Func} {f : AFr} : ∀ (ds : List ADef) (p : Option Value) (st : ASt) (r : AE) (st' : ASt), Wf st → leave P selfD fn f ds p st = .ok (r, st') →
    LoS st st' ∧ ∀ (R : Ending → World → Prop) ρ w (tmps : Array Value) ds' u, DefsR ρ ds ds' → FrR ρ ⟨f.n, f.tmps, []⟩ ⟨tmps, []⟩ → WR ρ st.h.get w → Fresh ρ st.next st'.next → ModeR ρ p u →
      (∀ ρ' e w', EndR ρ' r e → Mv ρ ρ' st.h.get st'.h.get st.next st'.next w w' → R e w') → Leaves P fn tmps R ds' u w := by
  intro ds
  induction ds with
  | nil =>
    intro p st r st' hwf h
    cases p with
    | none =>
      simp only [leave] at h
      obtain ⟨v, h1, h2⟩ := bnd_ok h
      cases h2
      refine ⟨LoS.refl _, fun R ρ w tmps ds' u hd hf hw _ hm hR => ?_⟩
      cases ds' with
      | cons => exact hd.elim
      | nil =>
        cases hm
        obtain ⟨v', k1, k2⟩ := resOf_run hf hw h1
        exact ⟨v', k1, hR ρ _ w ⟨v', rfl, k2⟩ (Mv.refl hw _)⟩
    | some v =>
      simp only [leave] at h
      cases h
      refine ⟨LoS.refl _, fun R ρ w tmps ds' u hd hf hw _ hm hR => ?_⟩
      cases ds' with
      | cons => exact hd.elim
      | nil =>
        obtain ⟨v', rfl, k2⟩ := hm
        exact hR ρ _ w ⟨v', rfl, k2⟩ (Mv.refl hw _)
  | cons d ds ih =>
    intro p st r st' hwf h
    simp only [leave] at h
    split at h
    · rename_i g args hi
      split at h
      · rename_i p1 st1 hg
        obtain ⟨h1, h2⟩ := hsd g args p st p1 st1 hwf hg
        obtain ⟨h3, h4⟩ := ih p1 st1 r st' (h1.wf hwf) h
        refine ⟨h1.trans h3, fun R ρ w tmps ds' u hd hf hw hfr hm hR => ?_⟩
        cases ds' with
        | nil => exact hd.elim
        | cons d' ds' =>
          obtain ⟨⟨cap', args', rfl, hcap, hargs⟩, hd2⟩ := hd
          unfold aInvoke at hi
          split at hi
          · rename_i fid hfn
            rcases aCall_run hi with ⟨e, hcall⟩ | ⟨v, e, _⟩
            · cases e
              refine ⟨hm.settle.2, d.fn, cap', g, args' ++ cap', rfl, ?_, ?_⟩
              · simp only [hfn, invoke]
                exact hcall _ w
              · refine (h2 ρ w (args' ++ cap') u (by simpa using hargs.append hcap) hw (hfr.left h3.1) hm).mono fun e u' w' he => ?_
                obtain ⟨ρ', ⟨v, rfl⟩, hm', hmv⟩ := he
                exact h4 R ρ' w' tmps ds' _ (hd2.mono hmv.ext) (hf.mono hmv.ext) hmv.wr (hmv.fresh hfr) hm' fun ρ2 e2 w2 he2 hm2 => hR ρ2 e2 w2 he2 (hmv.trans hm2)
            · cases e
          · cases hi
      · cases h
    · cases h
theorem fr_bare {ρ : Rho} {f : AFr} {a : Act} (h : FrR ρ f a) : FrR ρ ⟨f.n, f.tmps, []⟩ ⟨a.tmps, []⟩ := ⟨h.size, h.tmp, trivial⟩
theorem defs_nil {ρ : Rho} {ds : List Deferred} (h : DefsR ρ [] ds) : ds = [] := by
  cases ds with
  | nil => rfl
  | cons => exact h.elim
/-- the end of a deferred function -/
theorem finD_ok {P : Program} {fn : Func} {p p' : Option Value} {r : Rs (AX × AFr × ASt)} {st' : ASt} (h : finD P fn p r = .ok (p', st')) : ∃ x f v, r = .ok (x, f, st') ∧ (x = .normal ∨ x = .ret) ∧ f.defers = [] ∧ p' = p ∧ resOf P fn st' f = .ok v := by
  unfold finD at h
  split at h
  · rename_i f st1
    split at h
    · rename_i hd
      obtain ⟨v, h1, h2⟩ := bnd_ok h
      cases h2
      exact ⟨_, f, v, rfl, .inl rfl, hd, rfl, h1⟩
    · cases h
  · rename_i f st1
    split at h
    · rename_i hd
      obtain ⟨v, h1, h2⟩ := bnd_ok h
      cases h2
      exact ⟨_, f, v, rfl, .inr rfl, hd, rfl, h1⟩
    · cases h
  · cases h
  · cases h
theorem finD_post {P : Program} {fn : Func} {ρ : Rho} {x : AX} {e : Exit} {f : AFr} {a : Act} {st' : ASt} {w : World} {v : Value} {R : Ending → World → Prop} (hx : x = .normal ∨ x = .ret) (hxe : XR ρ x e) (hf : FrR ρ f a) (hd : f.defers = []) (hw : WR ρ st'.h.get w) (hr : resOf P fn st' f = .ok v)
    (hR : ∀ v', R (.returned v') w) : bodyPost P fn R e a w := by
  obtain ⟨v', k1, k2⟩ := resOf_run (fr_bare hf) hw hr
  have hdn : a.defers = [] := by have := hf.defs; rw [hd] at this; exact defs_nil this
  rcases hx with rfl | rfl <;> cases hxe <;> exact ⟨hdn, v', k1, hR v'⟩
theorem evOp_ends {P : Program} {self : Self} {f f' : AFr} {st st' : ASt} {o : Oper} {x : AX} (h : evOp P self f st o = .ok (x, f', st')) : x ≠ .ret := by
  unfold evOp at h
  split at h
  · cases h; simp
  · split at h
    · cases h; simp
    · cases h; simp
    · cases h
  · cases h; simp
  · cases h; simp
  · cases h
theorem evOps_ends {P : Program} {self : Self} {all : List Oper} : ∀ (l : List Oper) {f f' : AFr} {st st' : ASt} {x : AX}, evOps P self all l f st = .ok (x, f', st') → x ≠ .ret := by
  intro l
  induction l with
  | nil => intro f f' st st' x h; cases h; simp
  | cons o l ih =>
    intro f f' st st' x h
    simp only [evOps] at h
    split at h
    · split at h
      · exact ih h
      · exact evOp_ends h
    · exact ih h
    · cases h
theorem evD_sound {P : Program} {self : Self} (hs : SelfS P self) (hm : P.follows .mixedOrders = true) (fuel : Nat) : SelfD P (evD P self fuel) := by
  intro g args p st p' st' hwf h
  unfold evD at h
  split at h
  · rename_i fn hfn
    have hfn' : P.funcs[g]? = some fn := by simpa using hfn
    split at h
    · rename_i body hb
      have plain : finD P fn p (evCode P self fuel body ⟨maxN args.length fn.ntmps, args0 args 0 .leaf, []⟩ st) = .ok (p', st') → LoS st st' ∧ ∀ ρ w (args' : Array Value) u, VRL ρ args args'.toList → WR ρ st.h.get w → Fresh ρ st.next st'.next → ModeR ρ p u →
          CallsD P g args' u w fun e u' w' => ∃ ρ', (∃ v, e = .returned v) ∧ ModeR ρ' p' (settle u') ∧ Mv ρ ρ' st.h.get st'.h.get st.next st'.next w w' := by
        intro h
        obtain ⟨x, f, v, h1, h2, h3, h4, h5⟩ := finD_ok h
        subst h4
        obtain ⟨k1, k2⟩ := evCode_sound hs hm fuel body _ st x f st' hwf h1
        refine ⟨k1, fun ρ w args' u hv hw hfr hmo => ?_⟩
        refine CallsD.mono (callsD_of_wp (R := fun e w' => ∃ ρ', (∃ v, e = .returned v) ∧ Sub ρ ρ' ∧ Mv ρ ρ' st.h.get st'.h.get st.next st'.next w w') hfn' hb ?_) ?_
        · refine k2 _ ρ w _ (enter_rel fn.ntmps hv) hw hfr fun ρ' e' a' w' hxr hf' hmv => ?_
          exact finD_post h2 hxr hf' h3 hmv.wr h5 fun v' => ⟨ρ', ⟨v', rfl⟩, hmv.ext, hmv⟩
        · rintro e u' w' ⟨rfl, ρ', h6, h7, h8⟩
          exact ⟨ρ', h6, (hmo.mono h7).settle.1, h8⟩
      split at h
      · rename_i id ops c2
        split at h
        · rename_i o l hops
          cases hrec : isRecover o with
          | false =>
            rw [hrec] at h
            simp only [cond_false] at h
            split at h
            rotate_left
            · exact plain h
            rename_i id2 ops2 c3
            split at h
            rotate_left
            · cases h
            rename_i o2 l2 hops2
            cases hrec2 : isRecover o2 with
            | false => rw [hrec2] at h; exact plain h
            | true =>
              rw [hrec2] at h
              simp only [cond_true] at h
              obtain ⟨x, f, v, h1, h2, h3, h4, h5⟩ := finD_ok h
              subst h4
              have hopsA : ops2 = (o2 :: l2).toArray := by rw [← hops2]
              subst hopsA
              have hopsB : ops = (o :: l).toArray := by rw [← hops]
              subst hopsB
              obtain ⟨hgd, hrun⟩ : o2.guard = none ∧ ∀ (ρv : Operand → Value) (w : World), (execOp ρv o2).run P w = .ok .recover w := by
                unfold isRecover at hrec2
                split at hrec2
                · rename_i hop hgd
                  refine ⟨hgd, fun ρv w => ?_⟩
                  simp only [execOp, hop, resolve]
                  rw [LawfulMonad.pure_bind]
                  simp [invoke, builtin]
                · cases hrec2
              split at h1
              · rename_i f0 st0 he0
                obtain ⟨j1, j2⟩ := evOps_sound hs (o :: l) (o :: l) _ st _ f0 st0 hwf he0
                split at h1
                · rename_i f1 st1 he
                  obtain ⟨k1, k2⟩ := evOps_sound hs (o2 :: l2) l2 _ st0 _ f1 st1 (j1.wf hwf) he
                  obtain ⟨k3, k4⟩ := evCode_sound hs hm fuel c3 f1 st1 x f st' (k1.wf (j1.wf hwf)) h1
                  refine ⟨j1.trans (k1.trans k3), fun ρ w args' u hv hw hfr hmo => ?_⟩
                  obtain ⟨rv, u', hrv, hu', h0⟩ : ∃ rv u', (∀ ρ', Sub ρ ρ' → VR ρ' (recoverOf p) rv) ∧ settle u' = .returning ∧ ((∃ older, u = .panicking ({ v := rv, recovered := false } :: older) ∧ u' = .panicking ({ v := rv, recovered := true } :: older)) ∨ (u = .returning ∧ u' = .returning ∧ rv = .nilIface)) := by
                    cases p with
                    | none => cases hmo; exact ⟨.nilIface, .returning, fun _ _ => .nilIface, rfl, .inr ⟨rfl, rfl, rfl⟩⟩
                    | some pv => obtain ⟨v', rfl, hv'⟩ := hmo; exact ⟨v', .panicking [{ v := v', recovered := true }], fun _ hsb => hv'.mono hsb, rfl, .inl ⟨[], rfl, rfl⟩⟩
                  refine CallsD.mono (callsD_recover2 (R := fun e w' => ∃ ρ', (∃ v, e = .returned v) ∧ Mv ρ ρ' st.h.get st'.h.get st.next st'.next w w') (u' := u') (v := rv) hfn' hb hgd hrun h0 ?_) ?_
                  · refine wp_region_list ?_
                    refine j2 _ ρ w _ (enter_rel fn.ntmps hv) hw (hfr.left (Nat.le_trans k1.1 k3.1)) fun ρ0 e0 a0 w0 hx0 hf0 hm0 => ?_
                    cases hx0
                    refine ⟨rfl, ?_⟩
                    refine k2 _ ρ0 w0 _ (hf0.put (hrv ρ0 hm0.ext)) hm0.wr ((hm0.fresh hfr).left k3.1) fun ρ1 e1 a1 w1 hx1 hf1 hm1 => ?_
                    cases hx1
                    show Code.wp P c3 _ a1 w1
                    refine k4 _ ρ1 w1 a1 hf1 hm1.wr (hm1.fresh (hm0.fresh hfr)) fun ρ2 e2 a2 w2 hx2 hf2 hm2 => ?_
                    exact finD_post h2 hx2 hf2 h3 hm2.wr h5 fun v' => ⟨ρ2, ⟨v', rfl⟩, hm0.trans (hm1.trans hm2)⟩
                  · rintro e u'' w' ⟨rfl, ρ', h6, h8⟩
                    exact ⟨ρ', h6, hu', h8⟩
                · rename_i hne
                  exfalso
                  have : x ≠ .normal := fun e => by subst e; exact hne f st' h1
                  rcases h2 with rfl | rfl
                  · exact this rfl
                  · exact evOps_ends l2 h1 rfl
              · rename_i hne
                exfalso
                have : x ≠ .normal := fun e => by subst e; exact hne f st' h1
                rcases h2 with rfl | rfl
                · exact this rfl
                · exact evOps_ends (o :: l) h1 rfl
          | true =>
            rw [hrec] at h
            simp only [cond_true] at h
            obtain ⟨x, f, v, h1, h2, h3, h4, h5⟩ := finD_ok h
            subst h4
            have hopsA : ops = (o :: l).toArray := by rw [← hops]
            subst hopsA
            obtain ⟨hgd, hrun⟩ : o.guard = none ∧ ∀ (ρv : Operand → Value) (w : World), (execOp ρv o).run P w = .ok .recover w := by
              unfold isRecover at hrec
              split at hrec
              · rename_i hop hgd
                refine ⟨hgd, fun ρv w => ?_⟩
                simp only [execOp, hop, resolve]
                rw [LawfulMonad.pure_bind]
                simp [invoke, builtin]
              · cases hrec
            split at h1
            · rename_i f1 st1 he
              obtain ⟨k1, k2⟩ := evOps_sound hs (o :: l) l _ st _ f1 st1 hwf he
              obtain ⟨k3, k4⟩ := evCode_sound hs hm fuel c2 f1 st1 x f st' (k1.wf hwf) h1
              refine ⟨k1.trans k3, fun ρ w args' u hv hw hfr hmo => ?_⟩
              obtain ⟨rv, u', hrv, hu', h0⟩ : ∃ rv u', VR ρ (recoverOf p) rv ∧ settle u' = .returning ∧ ((∃ older, u = .panicking ({ v := rv, recovered := false } :: older) ∧ u' = .panicking ({ v := rv, recovered := true } :: older)) ∨ (u = .returning ∧ u' = .returning ∧ rv = .nilIface)) := by
                cases p with
                | none => cases hmo; exact ⟨.nilIface, .returning, .nilIface, rfl, .inr ⟨rfl, rfl, rfl⟩⟩
                | some pv => obtain ⟨v', rfl, hv'⟩ := hmo; exact ⟨v', .panicking [{ v := v', recovered := true }], hv', rfl, .inl ⟨[], rfl, rfl⟩⟩
              refine CallsD.mono (callsD_recover (R := fun e w' => ∃ ρ', (∃ v, e = .returned v) ∧ Mv ρ ρ' st.h.get st'.h.get st.next st'.next w w') (u' := u') (v := rv) hfn' hb hgd (fun ρv => hrun ρv w) h0 ?_) ?_
              · refine k2 _ ρ w _ ((enter_rel fn.ntmps hv).put hrv) hw (hfr.left k3.1) fun ρ1 e1 a1 w1 hx1 hf1 hm1 => ?_
                cases hx1
                show Code.wp P c2 _ a1 w1
                refine k4 _ ρ1 w1 a1 hf1 hm1.wr (hm1.fresh hfr) fun ρ2 e2 a2 w2 hx2 hf2 hm2 => ?_
                exact finD_post h2 hx2 hf2 h3 hm2.wr h5 fun v' => ⟨ρ2, ⟨v', rfl⟩, hm1.trans hm2⟩
              · rintro e u'' w' ⟨rfl, ρ', h6, h8⟩
                exact ⟨ρ', h6, hu', h8⟩
            · rename_i hne
              exfalso
              have : x ≠ .normal := fun e => by subst e; exact hne f st' h1
              rcases h2 with rfl | rfl
              · exact this rfl
              · exact evOps_ends l h1 rfl
        · cases h
      · exact plain h
    · cases h
  · cases h
theorem evFun1_sound {P : Program} (hm : P.follows .mixedOrders = true) (fuel : Nat) {self : Self} (ih : SelfS P self) : SelfS P (evFun1 P fuel self) := by
    intro g args st r st' hwf h
    simp only [evFun1] at h
    split at h
    · rename_i fn hfn
      have hfn' : P.funcs[g]? = some fn := by simpa using hfn
      split at h
      · rename_i body hb
        have ret : ∀ (x : AX) (f : AFr) (st1 : ASt), (x = .normal ∨ x = .ret) → evCode P self fuel body ⟨maxN args.length fn.ntmps, args0 args 0 .leaf, []⟩ st = .ok (x, f, st1) →
            (match f.defers with
              | [] => (resOf P fn st1 f).bnd fun v => .ok (.returned v, st1)
              | ds => leave P (evD P self fuel) fn f ds none st1 : Rs (AE × ASt)) = .ok (r, st') →
            LoS st st' ∧ ∀ ρ w (args' : Array Value), VRL ρ args args'.toList → WR ρ st.h.get w → Fresh ρ st.next st'.next → Calls P g args' w fun e w' => ∃ ρ', EndR ρ' r e ∧ Mv ρ ρ' st.h.get st'.h.get st.next st'.next w w' := by
          intro x f st1 hx he h
          obtain ⟨k1, k2⟩ := evCode_sound ih hm fuel body _ st x f st1 hwf he
          split at h
          · rename_i hd
            obtain ⟨v, h1, h2⟩ := bnd_ok h
            cases h2
            refine ⟨k1, fun ρ w args' hv hw hfr => calls_of_wp hfn' hb (k2 _ ρ w _ (enter_rel fn.ntmps hv) hw hfr fun ρ' e' a' w' hxr hf' hmv => ?_)⟩
            obtain ⟨v', m1, m2⟩ := resOf_run (fr_bare hf') hmv.wr h1
            have hdn : a'.defers = [] := by have := hf'.defs; rw [hd] at this; exact defs_nil this
            rcases hx with rfl | rfl <;> cases hxr <;> exact ⟨hdn, v', m1, ρ', ⟨v', rfl, m2⟩, hmv⟩
          · obtain ⟨k3, k4⟩ := leave_sound (evD_sound ih hm fuel) _ none st1 r st' (k1.wf hwf) h
            refine ⟨k1.trans k3, fun ρ w args' hv hw hfr => calls_of_wp_defers hfn' hb (k2 _ ρ w _ (enter_rel fn.ntmps hv) hw (hfr.left k3.1) fun ρ' e' a' w' hxr hf' hmv => ?_)⟩
            have hl := k4 (fun e w' => ∃ ρ', EndR ρ' r e ∧ Mv ρ ρ' st.h.get st'.h.get st.next st'.next w w') ρ' w' a'.tmps a'.defers .returning hf'.defs (fr_bare hf') hmv.wr (hmv.fresh hfr) rfl fun ρ2 e2 w2 he2 hm2 => ⟨ρ2, he2, hmv.trans hm2⟩
            rcases hx with rfl | rfl <;> cases hxr <;> exact hl
        split at h
        · rename_i f st1 he; exact ret _ f st1 (.inl rfl) he h
        · rename_i f st1 he; exact ret _ f st1 (.inr rfl) he h
        · rename_i v f st1 he
          obtain ⟨k1, k2⟩ := evCode_sound ih hm fuel body _ st _ f st1 hwf he
          split at h
          · rename_i hd
            cases h
            refine ⟨k1, fun ρ w args' hv hw hfr => calls_of_wp hfn' hb (k2 _ ρ w _ (enter_rel fn.ntmps hv) hw hfr fun ρ' e' a' w' hxr hf' hmv => ?_)⟩
            have hdn : a'.defers = [] := by have := hf'.defs; rw [hd] at this; exact defs_nil this
            obtain ⟨v', rfl, hv'⟩ := hxr
            exact ⟨hdn, ρ', ⟨v', rfl, hv'⟩, hmv⟩
          · obtain ⟨k3, k4⟩ := leave_sound (evD_sound ih hm fuel) _ (some v) st1 r st' (k1.wf hwf) h
            refine ⟨k1.trans k3, fun ρ w args' hv hw hfr => calls_of_wp_defers hfn' hb (k2 _ ρ w _ (enter_rel fn.ntmps hv) hw (hfr.left k3.1) fun ρ' e' a' w' hxr hf' hmv => ?_)⟩
            obtain ⟨v', rfl, hv'⟩ := hxr
            exact k4 (fun e w' => ∃ ρ', EndR ρ' r e ∧ Mv ρ ρ' st.h.get st'.h.get st.next st'.next w w') ρ' w' a'.tmps a'.defers _ hf'.defs (fr_bare hf') hmv.wr (hmv.fresh hfr) ⟨v', rfl, hv'⟩ fun ρ2 e2 w2 he2 hm2 => ⟨ρ2, he2, hmv.trans hm2⟩
        · cases h
        · cases h
      · cases h
    · cases h

theorem evFun_sound {P : Program} (hm : P.follows .mixedOrders = true) (fuel : Nat) : ∀ n, SelfS P (evFun P fuel n) := by
  intro n
  induction n with
  | zero => intro g args st r st' _ h; cases h
  | succ n ih => exact evFun1_sound hm fuel ih
/-- what is told of a function holds -/
def ToldS (P : Program) (C : Told) : Prop := ∀ g c, C g = some c → ∀ args st r st', Wf st → c.run args st = .ok (r, st') → LoS st st' ∧ ∀ ρ w (args' : Array Value), VRL ρ args args'.toList → WR ρ st.h.get w → Fresh ρ st.next st'.next → Calls P g args' w fun e w' => ∃ ρ', EndR ρ' r e ∧ Mv ρ ρ' st.h.get st'.h.get st.next st'.next w w'
theorem evFunC_sound {P : Program} (hm : P.follows .mixedOrders = true) {C : Told} (hC : ToldS P C) (fuel : Nat) : ∀ n, SelfS P (evFunC P C fuel n) := by
  intro n
  induction n with
  | zero => intro g args st r st' _ h; cases h
  | succ n ih =>
    intro g args st r st' hwf h
    simp only [evFunC] at h
    split at h
    · rename_i c hc
      exact hC g c hc args st r st' hwf h
    · exact evFun1_sound hm fuel ih g args st r st' hwf h

/-- **a closed call that the evaluator says is true, is true** in whatever world, and leaves what there was as it was -/
theorem closed_true {P : Program} {g : FuncId} (hm : P.follows .mixedOrders = true) (h : isTrue P g = true) (w : World) (hgl : GlA w := by first | assumption | exact fun b hb => by cases hb) : Calls P g #[] w fun e w' => e = .returned (.bool true) ∧ RowKit.Below w.heap.size w w' := by
  unfold isTrue at h
  split at h
  · rename_i st' he
    have hwf : Wf st0 := fun x o e => by cases e
    obtain ⟨_, h2⟩ := evFun_sound hm 100000 100 g [] st0 _ st' hwf he
    have hw : WR (fun _ => none) st0.h.get w := by
      refine ⟨?_, ?_, ?_, ?_, fun b hb => ⟨(hgl b hb).1, (hgl b hb).2, fun ⟨a, o, s, e, _⟩ => by cases e⟩⟩
      · intro a s e; cases e
      · intro a o e; cases e
      · intro a b oa ob sa sb e; cases e
      · intro b hb; obtain ⟨a, s, e, _⟩ := hb; cases e
    refine (h2 (fun _ => none) w #[] (VRL.nil _) hw (fun _ _ _ => rfl)).mono fun e w' he => ?_
    obtain ⟨ρ', ⟨v', rfl, hv⟩, hmv⟩ := he
    cases hv
    exact ⟨rfl, hmv.os, hmv.tape, hmv.output, hmv.size, fun k hk => hmv.frm k hk fun ⟨a, o, s, e1, _⟩ => by cases e1⟩
  · cases h
end Go.Proofs.YtpogcoolgnjejaaGreatDoor.Ev
