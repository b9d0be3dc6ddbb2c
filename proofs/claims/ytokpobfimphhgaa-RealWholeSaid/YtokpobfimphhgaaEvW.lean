/-
  What the evaluator says of code and of functions holds of every run.
-/
import Derived.Test.YtokpobfimphhgaaEvL
import Derived.LoopN
import Derived.Defers
import Derived.Test.YtokpobfimphhgaaRecov
set_option linter.unusedVariables false
set_option linter.unusedSimpArgs false
namespace Go.Proofs.Ytokpobfimphhgaa.Ev
open Go

def XR (ρ : Rho) : AX → Exit → Prop
  | .normal, e => e = .normal
  | .exit id, e => e = .exit id
  | .ret, e => e = .ret
  | .panic v, e => ∃ v', e = .panic [{ v := v', recovered := false }] ∧ VR ρ v v'
/-- what is owed of a piece of code -/
def Goal (ρ : Rho) (st st' : ASt) (f' : AFr) (x : AX) (w : World) (Q : Exit → Act → World → Prop) : Prop :=
  ∀ ρ' e' a' w', XR ρ' x e' → FrR ρ' f' a' → Mv ρ ρ' st.h.get st'.h.get st.next st'.next w w' → Q e' a' w'
def Snd (P : Program) (c : Code) (f : AFr) (st : ASt) (x : AX) (f' : AFr) (st' : ASt) : Prop :=
  LoS st st' ∧ ∀ (Q : Exit → Act → World → Prop) ρ w a, FrR ρ f a → WR ρ st.h.get w → Fresh ρ st.next st'.next → Goal ρ st st' f' x w Q → c.wp P Q a w

theorem evOp_sound {P : Program} {self : Self} (hs : SelfS P self) {f f' : AFr} {st st' : ASt} {o : Oper} {x : AX} (hwf : Wf st) (h : evOp P self f st o = .ok (x, f', st')) : LoS st st' ∧ ∀ ρ w a, FrR ρ f a → WR ρ st.h.get w → Fresh ρ st.next st'.next →
    ∀ (K : Act → World → Prop) (Q : Exit → Act → World → Prop), (x = .normal → ∀ ρ' a' w', FrR ρ' f' a' → Mv ρ ρ' st.h.get st'.h.get st.next st'.next w w' → K a' w') → (x ≠ .normal → Goal ρ st st' f' x w Q) → o.wp P a w K Q := by
  unfold evOp at h
  split at h
  · rename_i v st1 ha
    cases h
    obtain ⟨h1, h2⟩ := aOp_sound ha
    refine ⟨h1, fun ρ w a hf hw hfr K Q hK _ => ?_⟩
    obtain ⟨ρ', v', w', hr, hv, hm⟩ := h2 ρ w a hf hw hfr
    have := hK rfl ρ' (a.put o.dst v') w' ((hf.mono hm.ext).put hv) hm
    unfold Oper.wp
    rcases hr with hr | ⟨hr, rfl⟩
    · rw [hr]; exact this
    · rw [hr]; exact this
  · rename_i g args ha
    have h2 := aOp_sound ha
    split at h
    · rename_i v st1 hg
      cases h
      obtain ⟨k1, k2⟩ := hs g args st _ _ hwf hg
      refine ⟨k1, fun ρ w a hf hw hfr K Q hK _ => ?_⟩
      obtain ⟨args', hr, hv⟩ := h2 ρ w a hf hw
      unfold Oper.wp
      rw [hr]
      refine (k2 ρ w args' hv hw hfr).mono fun e w' he => ?_
      obtain ⟨ρ', ⟨v', rfl, hv'⟩, hm⟩ := he
      exact hK rfl ρ' _ w' ((hf.mono hm.ext).put hv') hm
    · rename_i v st1 hg
      cases h
      obtain ⟨k1, k2⟩ := hs g args st _ _ hwf hg
      refine ⟨k1, fun ρ w a hf hw hfr K Q _ hQ => ?_⟩
      obtain ⟨args', hr, hv⟩ := h2 ρ w a hf hw
      unfold Oper.wp
      rw [hr]
      refine (k2 ρ w args' hv hw hfr).mono fun e w' he => ?_
      obtain ⟨ρ', ⟨v', rfl, hv'⟩, hm⟩ := he
      exact hQ (by intro e; cases e) ρ' _ a w' ⟨v', rfl, hv'⟩ (hf.mono hm.ext) hm
    · cases h
  · rename_i d ha
    cases h
    have h2 := aOp_sound ha
    refine ⟨LoS.refl _, fun ρ w a hf hw hfr K Q hK _ => ?_⟩
    obtain ⟨d', hr, hd⟩ := h2 ρ w a hf hw
    unfold Oper.wp
    rw [hr]
    refine hK rfl ρ _ w ?_ (Mv.refl hw _)
    have : FrR ρ ({ f with defers := d :: f.defers } : AFr) ({ a with defers := d' :: a.defers } : Act) := ⟨hf.size, hf.tmp, hd, hf.defs⟩
    exact this.put (.tuple _ _ rfl (fun i x y hx => by simp at hx))
  · rename_i v ha
    cases h
    have h2 := aOp_sound ha
    refine ⟨LoS.refl _, fun ρ w a hf hw hfr K Q _ hQ => ?_⟩
    obtain ⟨v', hr, hv⟩ := h2 ρ w a hf hw
    unfold Oper.wp
    rw [hr]
    exact hQ (by intro e; cases e) ρ _ a w ⟨v', rfl, hv⟩ hf (Mv.refl hw _)
  · cases h
theorem evOps_sound {P : Program} {self : Self} (hs : SelfS P self) (all : List Oper) : ∀ (l : List Oper) (f : AFr) (st : ASt) (x : AX) (f' : AFr) (st' : ASt), Wf st → evOps P self all l f st = .ok (x, f', st') →
    LoS st st' ∧ ∀ (Q : Exit → Act → World → Prop) ρ w a, FrR ρ f a → WR ρ st.h.get w → Fresh ρ st.next st'.next → Goal ρ st st' f' x w Q → wpList P all.toArray Q l a w := by
  intro l
  induction l with
  | nil =>
    intro f st x f' st' _ h
    cases h
    exact ⟨LoS.refl _, fun Q ρ w a hf hw hfr hQ => wpList_nil (hQ ρ _ a w rfl hf (Mv.refl hw _))⟩
  | cons o l ih =>
    intro f st x f' st' hwf h
    simp only [evOps] at h
    split at h
    · rename_i hwa
      split at h
      · rename_i f1 st1 he
        obtain ⟨h1, h2⟩ := evOp_sound hs hwf he
        obtain ⟨h3, h4⟩ := ih f1 st1 x f' st' (h1.wf hwf) h
        refine ⟨h1.trans h3, fun Q ρ w a hf hw hfr hQ => ?_⟩
        have hwant := wanted_rel (ρ := ρ) (a := a) hwa (fun t _ v hv => hf.tmp t v hv)
        unfold wpList
        rw [hwant, if_pos rfl]
        left
        refine h2 ρ w a hf hw (hfr.left h3.1) _ _ (fun _ ρ' a' w' hf' hm => ?_) (fun hne => absurd rfl hne)
        exact h4 Q ρ' w' a' hf' hm.wr (hm.fresh hfr) fun ρ2 e2 a2 w2 hx hf2 hm2 => hQ ρ2 e2 a2 w2 hx hf2 (hm.trans hm2)
      · rename_i hne
        obtain ⟨h1, h2⟩ := evOp_sound hs hwf h
        refine ⟨h1, fun Q ρ w a hf hw hfr hQ => ?_⟩
        have hwant := wanted_rel (ρ := ρ) (a := a) hwa (fun t _ v hv => hf.tmp t v hv)
        unfold wpList
        rw [hwant, if_pos rfl]
        left
        exact h2 ρ w a hf hw hfr _ _ (fun hx => by subst hx; exact absurd h (hne f' st')) (fun _ => hQ)
    · rename_i hwa
      obtain ⟨h3, h4⟩ := ih _ st x f' st' hwf h
      refine ⟨h3, fun Q ρ w a hf hw hfr hQ => ?_⟩
      have hwant := wanted_rel (ρ := ρ) (a := a) hwa (fun t _ v hv => hf.tmp t v hv)
      unfold wpList
      rw [hwant, if_neg (by simp)]
      exact h4 Q ρ w _ (hf.put (.tuple _ _ rfl (fun i x y hx => by simp at hx))) hw hfr hQ
    · cases h
theorem evCode_sound {P : Program} {self : Self} (hs : SelfS P self) (hm : P.follows .mixedOrders = true) (fuel : Nat) : ∀ (c : Code) (f : AFr) (st : ASt) (x : AX) (f' : AFr) (st' : ASt), Wf st → evCode P self fuel c f st = .ok (x, f', st') → Snd P c f st x f' st' := by
  intro c
  induction c with
  | skip =>
    intro f st x f' st' _ h
    cases h
    exact ⟨LoS.refl _, fun Q ρ w a hf hw hfr hQ => wp_skip (hQ ρ _ a w rfl hf (Mv.refl hw _))⟩
  | region id ops draw =>
    intro f st x f' st' hwf h
    simp only [evCode, evRegion] at h
    cases draw with
    | true =>
      simp only [cond_true] at h
      obtain ⟨hsl, h⟩ := cond_ok h
      obtain ⟨e1, e2, e3⟩ := draw_region (id := id) hs hm hwf hsl h
      subst e1
      refine ⟨e2, fun Q ρ w a hf hw hfr hQ => ?_⟩
      have := e3 Q ρ w a hf hw hfr (fun ρ' a' w' hf' hm' => hQ ρ' _ a' w' rfl hf' hm')
      simpa using this
    | false =>
      simp only [cond_false] at h
      obtain ⟨e1, e2⟩ := evOps_sound hs ops.toList ops.toList f st x f' st' hwf h
      refine ⟨e1, fun Q ρ w a hf hw hfr hQ => wp_region_list ?_⟩
      have := e2 Q ρ w a hf hw hfr hQ
      simpa using this
  | seq c d ihc ihd =>
    intro f st x f' st' hwf h
    simp only [evCode] at h
    split at h
    · rename_i f1 st1 he
      obtain ⟨h1, h2⟩ := ihc f st _ f1 st1 hwf he
      obtain ⟨h3, h4⟩ := ihd f1 st1 x f' st' (h1.wf hwf) h
      refine ⟨h1.trans h3, fun Q ρ w a hf hw hfr hQ => wp_seq ?_⟩
      refine h2 _ ρ w a hf hw (hfr.left h3.1) fun ρ' e' a' w' hx hf' hm' => ?_
      cases hx
      exact h4 Q ρ' w' a' hf' hm'.wr (hm'.fresh hfr) fun ρ2 e2 a2 w2 hx2 hf2 hm2 => hQ ρ2 e2 a2 w2 hx2 hf2 (hm'.trans hm2)
    · rename_i hne
      obtain ⟨h1, h2⟩ := ihc f st x f' st' hwf h
      refine ⟨h1, fun Q ρ w a hf hw hfr hQ => wp_seq ?_⟩
      refine h2 _ ρ w a hf hw hfr fun ρ' e' a' w' hx hf' hm' => ?_
      have hq := hQ ρ' e' a' w' hx hf' hm'
      cases x with
      | normal => exact absurd h (hne f' st')
      | exit id => cases hx; exact hq
      | ret => cases hx; exact hq
      | panic v => obtain ⟨v', rfl, _⟩ := hx; exact hq
  | cond b c d ihc ihd =>
    intro f st x f' st' hwf h
    simp only [evCode] at h
    split at h
    · rename_i hb
      obtain ⟨h1, h2⟩ := ihc f st x f' st' hwf h
      refine ⟨h1, fun Q ρ w a hf hw hfr hQ => ?_⟩
      have hc := hf.ev b
      rw [hb] at hc
      have : a.eval b = .bool true := by cases hA : a.eval b <;> (rw [hA] at hc; cases hc) ; rfl
      exact wp_cond_true this (h2 Q ρ w a hf hw hfr hQ)
    · rename_i hb
      obtain ⟨h1, h2⟩ := ihd f st x f' st' hwf h
      refine ⟨h1, fun Q ρ w a hf hw hfr hQ => ?_⟩
      have hc := hf.ev b
      rw [hb] at hc
      have : a.eval b = .bool false := by cases hA : a.eval b <;> (rw [hA] at hc; cases hc) ; rfl
      exact wp_cond_false this (h2 Q ρ w a hf hw hfr hQ)
    · cases h
  | block id c ih =>
    intro f st x f' st' hwf h
    simp only [evCode] at h
    split at h
    · rename_i i f1 st1 he
      obtain ⟨h1, h2⟩ := ih f st _ f1 st1 hwf he
      cases hb : Nat.beq i id with
      | true =>
        rw [hb] at h
        cases h
        have hid := Nat.eq_of_beq_eq_true hb
        subst hid
        refine ⟨h1, fun Q ρ w a hf hw hfr hQ => wp_block ?_⟩
        refine h2 _ ρ w a hf hw hfr fun ρ' e' a' w' hx hf' hm' => ?_
        cases hx
        simp only [Exit.inBlock, if_true]
        exact hQ ρ' _ a' w' rfl hf' hm'
      | false =>
        rw [hb] at h
        cases h
        have hid := Nat.ne_of_beq_eq_false hb
        refine ⟨h1, fun Q ρ w a hf hw hfr hQ => wp_block ?_⟩
        refine h2 _ ρ w a hf hw hfr fun ρ' e' a' w' hx hf' hm' => ?_
        cases hx
        simp only [Exit.inBlock, if_neg hid]
        exact hQ ρ' _ a' w' rfl hf' hm'
    · rename_i hne
      obtain ⟨h1, h2⟩ := ih f st x f' st' hwf h
      refine ⟨h1, fun Q ρ w a hf hw hfr hQ => wp_block ?_⟩
      refine h2 _ ρ w a hf hw hfr fun ρ' e' a' w' hx hf' hm' => ?_
      have hq := hQ ρ' e' a' w' hx hf' hm'
      cases x with
      | normal => cases hx; exact hq
      | exit id => exact absurd h (hne id f' st')
      | ret => cases hx; exact hq
      | panic v => obtain ⟨v', rfl, _⟩ := hx; exact hq
  | loop c ih =>
    intro f st x f' st' hwf h
    simp only [evCode] at h
    have key : ∀ (n : Nat) (f : AFr) (st : ASt), Wf st → iter (evCode P self fuel c) n f st = .ok (x, f', st') →
        LoS st st' ∧ ∀ (Q : Exit → Act → World → Prop) ρ w a, FrR ρ f a → WR ρ st.h.get w → Fresh ρ st.next st'.next → Goal ρ st st' f' x w Q → Code.rounds P c Q n a w := by
      intro n
      induction n with
      | zero => intro f st _ h; cases h
      | succ n ihn =>
        intro f st hwf h
        simp only [iter] at h
        split at h
        · rename_i f1 st1 he
          obtain ⟨h1, h2⟩ := ih f st _ f1 st1 hwf he
          obtain ⟨h3, h4⟩ := ihn f1 st1 (h1.wf hwf) h
          refine ⟨h1.trans h3, fun Q ρ w a hf hw hfr hQ => ?_⟩
          rw [rounds_succ]
          refine h2 _ ρ w a hf hw (hfr.left h3.1) fun ρ' e' a' w' hx hf' hm' => ?_
          cases hx
          exact h4 Q ρ' w' a' hf' hm'.wr (hm'.fresh hfr) fun ρ2 e2 a2 w2 hx2 hf2 hm2 => hQ ρ2 e2 a2 w2 hx2 hf2 (hm'.trans hm2)
        · rename_i hne
          obtain ⟨h1, h2⟩ := ih f st x f' st' hwf h
          refine ⟨h1, fun Q ρ w a hf hw hfr hQ => ?_⟩
          rw [rounds_succ]
          refine h2 _ ρ w a hf hw hfr fun ρ' e' a' w' hx hf' hm' => ?_
          have hq := hQ ρ' e' a' w' hx hf' hm'
          cases x with
          | normal => exact absurd h (hne f' st')
          | exit id => cases hx; exact hq
          | ret => cases hx; exact hq
          | panic v => obtain ⟨v', rfl, _⟩ := hx; exact hq
    obtain ⟨h1, h2⟩ := key fuel f st hwf h
    exact ⟨h1, fun Q ρ w a hf hw hfr hQ => wp_loop_rounds fuel (h2 Q ρ w a hf hw hfr hQ)⟩
  | exit id =>
    intro f st x f' st' _ h
    cases h
    exact ⟨LoS.refl _, fun Q ρ w a hf hw hfr hQ => wp_exit (hQ ρ _ a w rfl hf (Mv.refl hw _))⟩
  | ret =>
    intro f st x f' st' _ h
    cases h
    exact ⟨LoS.refl _, fun Q ρ w a hf hw hfr hQ => wp_ret (hQ ρ _ a w rfl hf (Mv.refl hw _))⟩
  | _ => intros; rename_i h; cases h
end Go.Proofs.Ytokpobfimphhgaa.Ev
