/-
  A deferred function that begins with recover(): what is owed of it is one plain walk of what stands behind the recover. No function of the program is spoken of.
-/
import Derived.Test.YtpbnlbbieaokoaaGreatDoorRows
import Derived.WalkKit
import Derived.Defers
import Derived.Recover
import Derived.Test.YtpbnlbbieaokoaaGreatDoorGg
import Derived.LoopN
namespace Go.Proofs.YtpbnlbbieaokoaaGreatDoor
open Go.RowKit

section
variable {P : Program} {Q : Exit → Act → List Frame → World → Prop} {a : Act} {cs : List Frame} {w : World}

theorem wpS_region_recover {id : Nat} {o : Oper} {l : List Oper} {v : Value} {cs' : List Frame} (hg : o.guard = none) (hrun : (execOp a.eval o).run P w = .ok .recover w)
    (h0 : recoverD cs = some (v, cs') ∨ (recoverD cs = none ∧ v = .nilIface ∧ cs' = cs))
    {Q1 : Exit → Act → World → Prop} (hq : ∀ e a w, Q1 e a w → Q e a cs' w)
    (h : wpList P (o :: l).toArray Q1 l (a.put o.dst v) w) : (Code.region id (o :: l).toArray false).wpS P Q a cs w := by
  intro b k hb hr
  have h2 : wpOps P (o :: l).toArray Q1 (List.range' 1 l.length) (a.put o.dst v) w := by
    rw [wpOps_eq_wpList l 1 (by intro j; simp [Nat.add_comm 1 j])]
    exact h
  obtain ⟨e, a', w', q, r⟩ := wp_ops _ _ w h2 b k cs'
  have hrange : List.range (o :: l).toArray.size = 0 :: List.range' 1 l.length := by
    rw [List.range_eq_range']
    simp [List.range'_succ]
  refine ⟨e, a', cs', w', hq _ _ _ q, .of_steps (.one step_region) (.of_steps (.one (?_ : step P _ = .next _)) r)⟩
  rw [hrange]
  have ho : (o :: l).toArray[0]? = some o := rfl
  have hw : Region.wanted o (yielded (o :: l).toArray a.tmps) = true := by simp [Region.wanted, hg]
  have hst := stepG_op (P := P) (b := b) (k := k) (cs := cs) (w := w) (rest := List.range' 1 l.length) ho hw
  have hfin : ∀ u, (b.at a (.inRegion (o :: l).toArray (0 :: List.range' 1 l.length) :: k)).finish u = b.at (a.put o.dst u) (.inRegion (o :: l).toArray (List.range' 1 l.length) :: k) := by
    intro u; rw [Frame.finish_at, ho]; rfl
  refine step_lone_go ?_
  have hk : (b.at a (.inRegion (o :: l).toArray (0 :: List.range' 1 l.length) :: k)).kind = .deferred := hb
  have htr := tryRecover_deferred hk cs
  rw [hst, ← hfin]
  rcases h0 with hrec | ⟨hrec, rfl, rfl⟩
  · simp only [Frame.at] at htr ⊢
    simp [stepG.apply, hrun, htr, hrec]
  · simp only [Frame.at] at htr ⊢
    simp [stepG.apply, hrun, htr, hrec]

theorem recover_tail {fn : Func} {id : Nat} {o : Oper} {l : List Oper} {c2 : Code} {a : Act} {u u' : FrameMode} {v : Value} {w : World} {R : Ending → World → Prop} {c₀ : Frame} {cs : List Frame}
    (hg : o.guard = none) (hrun : ∀ ρ, (execOp ρ o).run P w = .ok .recover w)
    (h0 : (∃ older, u = .panicking ({ v, recovered := false } :: older) ∧ u' = .panicking ({ v, recovered := true } :: older)) ∨ (u = .returning ∧ u' = .returning ∧ v = .nilIface)) (hu : c₀.mode = u)
    (h : wpList P (o :: l).toArray (Exit.then (c2.wp P (bodyPost P fn R)) (bodyPost P fn R)) l (a.put o.dst v) w) :
    (Code.seq (.region id (o :: l).toArray false) c2).wpS P (bodyPostS P fn c₀ cs (fun e u'' w' => u'' = u' ∧ R e w')) a (c₀ :: cs) w := by
  apply wpS_seq
  refine wpS_region_recover (v := v) (cs' := { c₀ with mode := u' } :: cs) hg (hrun _) ?_ ?_ h
  · rcases h0 with ⟨older, rfl, rfl⟩ | ⟨rfl, rfl, rfl⟩
    · left
      simp [recoverD, hu]
    · right
      refine ⟨by simp [recoverD, hu], rfl, ?_⟩
      cases c₀
      simp_all
  · intro e a' w' hq
    have key : ∀ e a' w', bodyPost P fn R e a' w' → bodyPostS P fn c₀ cs (fun e u'' w' => u'' = u' ∧ R e w') e a' ({ c₀ with mode := u' } :: cs) w' := by
      intro e a' w' hq
      cases e <;> simp only [bodyPost, bodyPostS] at hq ⊢
      case normal => obtain ⟨h1, x, h2, h3⟩ := hq; exact ⟨h1, u', rfl, x, h2, rfl, h3⟩
      case ret => obtain ⟨h1, x, h2, h3⟩ := hq; exact ⟨h1, u', rfl, x, h2, rfl, h3⟩
      case panic => obtain ⟨h1, h2⟩ := hq; exact ⟨h1, u', rfl, rfl, h2⟩
      case outgrown => exact ⟨u', rfl, hq⟩
    cases e
    case normal => exact wpS_of_wp (Code.wp_mono (fun e a' w' => key e a' w') hq)
    case exit id => exact key (.exit id) a' w' hq
    case goto id => exact key (.goto id) a' w' hq
    case ret => exact key .ret a' w' hq
    case panic ch => exact key (.panic ch) a' w' hq
    case outgrown => exact key .outgrown a' w' hq
/-- A deferred function whose body is a region that begins with recover(), and more behind it. -/
theorem callsD_recover {f : FuncId} {fn : Func} {id : Nat} {o : Oper} {l : List Oper} {c2 : Code} {args : Array Value} {u u' : FrameMode} {v : Value} {w : World} {R : Ending → World → Prop}
    (hf : P.funcs[f]? = some fn) (hb : fn.body = some (.seq (.region id (o :: l).toArray false) c2)) (hg : o.guard = none) (hrun : ∀ ρ, (execOp ρ o).run P w = .ok .recover w)
    (h0 : (∃ older, u = .panicking ({ v, recovered := false } :: older) ∧ u' = .panicking ({ v, recovered := true } :: older)) ∨ (u = .returning ∧ u' = .returning ∧ v = .nilIface))
    (h : wpList P (o :: l).toArray (Exit.then (c2.wp P (bodyPost P fn R)) (bodyPost P fn R)) l (({ tmps := args ++ Array.replicate (fn.ntmps - args.size) undef, defers := [] } : Act).put o.dst v) w) :
    CallsD P f args u w fun e u'' w' => u'' = u' ∧ R e w' := by
  refine callsD_of_wpS hf hb fun c₀ cs hu => ?_
  exact recover_tail hg hrun h0 hu h
/-- A deferred function whose body is a region, one that begins with recover(), and more behind it. -/
theorem callsD_recover2 {f : FuncId} {fn : Func} {id id0 : Nat} {ops0 : Array Oper} {o : Oper} {l : List Oper} {c2 : Code} {args : Array Value} {u u' : FrameMode} {v : Value} {w : World} {R : Ending → World → Prop}
    (hf : P.funcs[f]? = some fn) (hb : fn.body = some (.seq (.region id0 ops0 false) (.seq (.region id (o :: l).toArray false) c2))) (hg : o.guard = none) (hrun : ∀ ρ w, (execOp ρ o).run P w = .ok .recover w)
    (h0 : (∃ older, u = .panicking ({ v, recovered := false } :: older) ∧ u' = .panicking ({ v, recovered := true } :: older)) ∨ (u = .returning ∧ u' = .returning ∧ v = .nilIface))
    (h : (Code.region id0 ops0 false).wp P (fun e a1 w1 => e = .normal ∧ wpList P (o :: l).toArray (Exit.then (c2.wp P (bodyPost P fn R)) (bodyPost P fn R)) l (a1.put o.dst v) w1) ({ tmps := args ++ Array.replicate (fn.ntmps - args.size) undef, defers := [] } : Act) w) :
    CallsD P f args u w fun e u'' w' => u'' = u' ∧ R e w' := by
  refine callsD_of_wpS hf hb fun c₀ cs hu => ?_
  apply wpS_seq
  refine wpS_of_wp (Code.wp_mono (fun e a1 w1 hq => ?_) h)
  obtain ⟨rfl, hq⟩ := hq
  exact recover_tail (u := u) hg (fun ρ => hrun ρ w1) h0 hu hq
end
end Go.Proofs.YtpbnlbbieaokoaaGreatDoor
/-
  What the evaluator says of code and of functions holds of every run.
-/
set_option linter.unusedVariables false
set_option linter.unusedSimpArgs false
namespace Go.Proofs.YtpbnlbbieaokoaaGreatDoor.Ev
open Go

def XR (ρ : Rho) : AX → Exit → Prop
  | .normal, e => e = .normal
  | .exit id, e => e = .exit id
  | .ret, e => e = .ret
  | .panic v, e => ∃ v', e = .panic [{ v := v', recovered := false }] ∧ VR ρ v v'
/-- what is owed of a piece of code -/
def Goal (ρ : Rho) (st st' : ASt) (f' : AFr) (x : AX) (w : World) (Q : Exit → Act → World → Prop) : Prop :=
  ∀ ρ' e' a' w', XR ρ' x e' → FrR ρ' f' a' → Mv ρ ρ' st.h.get st'.h.get st.next st'.next w w' → Q e' a' w'
def Snd (P : Program) (c : Code) (f : AFr) (st : ASt) (x : AX) (f' : AFr) (st' : ASt) : Prop :=
  LoS st st' ∧ ∀ (Q : Exit → Act → World → Prop) ρ w a, FrR ρ f a → WR ρ st.h.get w → Fresh ρ st.next st'.next → Goal ρ st st' f' x w Q → c.wp P Q a w

theorem evOp_sound {P : Program} {self : Self} (hs : SelfS P self) {f f' : AFr} {st st' : ASt} {o : Oper} {x : AX} (hwf : Wf st) (h : evOp P self f st o = .ok (x, f', st')) : LoS st st' ∧ ∀ ρ w a, FrR ρ f a → WR ρ st.h.get w → Fresh ρ st.next st'.next →
    ∀ (K : Act → World → Prop) (Q : Exit → Act → World → Prop), (x = .normal → ∀ ρ' a' w', FrR ρ' f' a' → Mv ρ ρ' st.h.get st'.h.get st.next st'.next w w' → K a' w') → (x ≠ .normal → Goal ρ st st' f' x w Q) → o.wp P a w K Q := by
  unfold evOp at h
  split at h
  · rename_i v st1 ha
    cases h
    obtain ⟨h1, h2⟩ := aOp_sound ha
    refine ⟨h1, fun ρ w a hf hw hfr K Q hK _ => ?_⟩
    obtain ⟨ρ', v', w', hr, hv, hm⟩ := h2 ρ w a hf hw hfr
    have := hK rfl ρ' (a.put o.dst v') w' ((hf.mono hm.ext).put hv) hm
    unfold Oper.wp
    rcases hr with hr | ⟨hr, rfl⟩
    · rw [hr]; exact this
    · rw [hr]; exact this
  · rename_i g args ha
    have h2 := aOp_sound ha
    split at h
    · rename_i v st1 hg
      cases h
      obtain ⟨k1, k2⟩ := hs g args st _ _ hwf hg
      refine ⟨k1, fun ρ w a hf hw hfr K Q hK _ => ?_⟩
      obtain ⟨args', hr, hv⟩ := h2 ρ w a hf hw
      unfold Oper.wp
      rw [hr]
      refine (k2 ρ w args' hv hw hfr).mono fun e w' he => ?_
      obtain ⟨ρ', ⟨v', rfl, hv'⟩, hm⟩ := he
      exact hK rfl ρ' _ w' ((hf.mono hm.ext).put hv') hm
    · rename_i v st1 hg
      cases h
      obtain ⟨k1, k2⟩ := hs g args st _ _ hwf hg
      refine ⟨k1, fun ρ w a hf hw hfr K Q _ hQ => ?_⟩
      obtain ⟨args', hr, hv⟩ := h2 ρ w a hf hw
      unfold Oper.wp
      rw [hr]
      refine (k2 ρ w args' hv hw hfr).mono fun e w' he => ?_
      obtain ⟨ρ', ⟨v', rfl, hv'⟩, hm⟩ := he
      exact hQ (by intro e; cases e) ρ' _ a w' ⟨v', rfl, hv'⟩ (hf.mono hm.ext) hm
    · cases h
  · rename_i d ha
    cases h
    have h2 := aOp_sound ha
    refine ⟨LoS.refl _, fun ρ w a hf hw hfr K Q hK _ => ?_⟩
    obtain ⟨d', hr, hd⟩ := h2 ρ w a hf hw
    unfold Oper.wp
    rw [hr]
    refine hK rfl ρ _ w ?_ (Mv.refl hw _)
    have : FrR ρ ({ f with defers := d :: f.defers } : AFr) ({ a with defers := d' :: a.defers } : Act) := ⟨hf.size, hf.tmp, hd, hf.defs⟩
    exact this.put (.tuple _ _ rfl (fun i x y hx => by simp at hx))
  · rename_i v ha
    cases h
    have h2 := aOp_sound ha
    refine ⟨LoS.refl _, fun ρ w a hf hw hfr K Q _ hQ => ?_⟩
    obtain ⟨v', hr, hv⟩ := h2 ρ w a hf hw
    unfold Oper.wp
    rw [hr]
    exact hQ (by intro e; cases e) ρ _ a w ⟨v', rfl, hv⟩ hf (Mv.refl hw _)
  · cases h
theorem evOps_sound {P : Program} {self : Self} (hs : SelfS P self) (all : List Oper) : ∀ (l : List Oper) (f : AFr) (st : ASt) (x : AX) (f' : AFr) (st' : ASt), Wf st → evOps P self all l f st = .ok (x, f', st') →
    LoS st st' ∧ ∀ (Q : Exit → Act → World → Prop) ρ w a, FrR ρ f a → WR ρ st.h.get w → Fresh ρ st.next st'.next → Goal ρ st st' f' x w Q → wpList P all.toArray Q l a w := by
  intro l
  induction l with
  | nil =>
    intro f st x f' st' _ h
    cases h
    exact ⟨LoS.refl _, fun Q ρ w a hf hw hfr hQ => wpList_nil (hQ ρ _ a w rfl hf (Mv.refl hw _))⟩
  | cons o l ih =>
    intro f st x f' st' hwf h
    simp only [evOps] at h
    split at h
    · rename_i hwa
      split at h
      · rename_i f1 st1 he
        obtain ⟨h1, h2⟩ := evOp_sound hs hwf he
        obtain ⟨h3, h4⟩ := ih f1 st1 x f' st' (h1.wf hwf) h
        refine ⟨h1.trans h3, fun Q ρ w a hf hw hfr hQ => ?_⟩
        have hwant := wanted_rel (ρ := ρ) (a := a) hwa (fun t _ v hv => hf.tmp t v hv)
        unfold wpList
        rw [hwant, if_pos rfl]
        left
        refine h2 ρ w a hf hw (hfr.left h3.1) _ _ (fun _ ρ' a' w' hf' hm => ?_) (fun hne => absurd rfl hne)
        exact h4 Q ρ' w' a' hf' hm.wr (hm.fresh hfr) fun ρ2 e2 a2 w2 hx hf2 hm2 => hQ ρ2 e2 a2 w2 hx hf2 (hm.trans hm2)
      · rename_i hne
        obtain ⟨h1, h2⟩ := evOp_sound hs hwf h
        refine ⟨h1, fun Q ρ w a hf hw hfr hQ => ?_⟩
        have hwant := wanted_rel (ρ := ρ) (a := a) hwa (fun t _ v hv => hf.tmp t v hv)
        unfold wpList
        rw [hwant, if_pos rfl]
        left
        exact h2 ρ w a hf hw hfr _ _ (fun hx => by subst hx; exact absurd h (hne f' st')) (fun _ => hQ)
    · rename_i hwa
      obtain ⟨h3, h4⟩ := ih _ st x f' st' hwf h
      refine ⟨h3, fun Q ρ w a hf hw hfr hQ => ?_⟩
      have hwant := wanted_rel (ρ := ρ) (a := a) hwa (fun t _ v hv => hf.tmp t v hv)
      unfold wpList
      rw [hwant, if_neg (by simp)]
      exact h4 Q ρ w _ (hf.put (.tuple _ _ rfl (fun i x y hx => by simp at hx))) hw hfr hQ
    · cases h
theorem evCode_sound {P : Program} {self : Self} (hs : SelfS P self) (hm : P.follows .mixedOrders = true) (fuel : Nat) : ∀ (c : Code) (f : AFr) (st : ASt) (x : AX) (f' : AFr) (st' : ASt), Wf st → evCode P self fuel c f st = .ok (x, f', st') → Snd P c f st x f' st' := by
  intro c
  induction c with
  | skip =>
    intro f st x f' st' _ h
    cases h
    exact ⟨LoS.refl _, fun Q ρ w a hf hw hfr hQ => wp_skip (hQ ρ _ a w rfl hf (Mv.refl hw _))⟩
  | region id ops draw =>
    intro f st x f' st' hwf h
    simp only [evCode, evRegion] at h
    cases draw with
    | true =>
      simp only [cond_true] at h
      obtain ⟨hsl, h⟩ := cond_ok h
      obtain ⟨e1, e2, e3⟩ := draw_region (id := id) hs hm hwf hsl h
      subst e1
      refine ⟨e2, fun Q ρ w a hf hw hfr hQ => ?_⟩
      have := e3 Q ρ w a hf hw hfr (fun ρ' a' w' hf' hm' => hQ ρ' _ a' w' rfl hf' hm')
      simpa using this
    | false =>
      simp only [cond_false] at h
      obtain ⟨e1, e2⟩ := evOps_sound hs ops.toList ops.toList f st x f' st' hwf h
      refine ⟨e1, fun Q ρ w a hf hw hfr hQ => wp_region_list ?_⟩
      have := e2 Q ρ w a hf hw hfr hQ
      simpa using this
  | seq c d ihc ihd =>
    intro f st x f' st' hwf h
    simp only [evCode] at h
    split at h
    · rename_i f1 st1 he
      obtain ⟨h1, h2⟩ := ihc f st _ f1 st1 hwf he
      obtain ⟨h3, h4⟩ := ihd f1 st1 x f' st' (h1.wf hwf) h
      refine ⟨h1.trans h3, fun Q ρ w a hf hw hfr hQ => wp_seq ?_⟩
      refine h2 _ ρ w a hf hw (hfr.left h3.1) fun ρ' e' a' w' hx hf' hm' => ?_
      cases hx
      exact h4 Q ρ' w' a' hf' hm'.wr (hm'.fresh hfr) fun ρ2 e2 a2 w2 hx2 hf2 hm2 => hQ ρ2 e2 a2 w2 hx2 hf2 (hm'.trans hm2)
    · rename_i hne
      obtain ⟨h1, h2⟩ := ihc f st x f' st' hwf h
      refine ⟨h1, fun Q ρ w a hf hw hfr hQ => wp_seq ?_⟩
      refine h2 _ ρ w a hf hw hfr fun ρ' e' a' w' hx hf' hm' => ?_
      have hq := hQ ρ' e' a' w' hx hf' hm'
      cases x with
      | normal => exact absurd h (hne f' st')
      | exit id => cases hx; exact hq
      | ret => cases hx; exact hq
      | panic v => obtain ⟨v', rfl, _⟩ := hx; exact hq
  | cond b c d ihc ihd =>
    intro f st x f' st' hwf h
    simp only [evCode] at h
    split at h
    · rename_i hb
      obtain ⟨h1, h2⟩ := ihc f st x f' st' hwf h
      refine ⟨h1, fun Q ρ w a hf hw hfr hQ => ?_⟩
      have hc := hf.ev b
      rw [hb] at hc
      have : a.eval b = .bool true := by cases hA : a.eval b <;> (rw [hA] at hc; cases hc) ; rfl
      exact wp_cond_true this (h2 Q ρ w a hf hw hfr hQ)
    · rename_i hb
      obtain ⟨h1, h2⟩ := ihd f st x f' st' hwf h
      refine ⟨h1, fun Q ρ w a hf hw hfr hQ => ?_⟩
      have hc := hf.ev b
      rw [hb] at hc
      have : a.eval b = .bool false := by cases hA : a.eval b <;> (rw [hA] at hc; cases hc) ; rfl
      exact wp_cond_false this (h2 Q ρ w a hf hw hfr hQ)
    · cases h
  | block id c ih =>
    intro f st x f' st' hwf h
    simp only [evCode] at h
    split at h
    · rename_i i f1 st1 he
      obtain ⟨h1, h2⟩ := ih f st _ f1 st1 hwf he
      cases hb : Nat.beq i id with
      | true =>
        rw [hb] at h
        cases h
        have hid := Nat.eq_of_beq_eq_true hb
        subst hid
        refine ⟨h1, fun Q ρ w a hf hw hfr hQ => wp_block ?_⟩
        refine h2 _ ρ w a hf hw hfr fun ρ' e' a' w' hx hf' hm' => ?_
        cases hx
        simp only [Exit.inBlock, if_true]
        exact hQ ρ' _ a' w' rfl hf' hm'
      | false =>
        rw [hb] at h
        cases h
        have hid := Nat.ne_of_beq_eq_false hb
        refine ⟨h1, fun Q ρ w a hf hw hfr hQ => wp_block ?_⟩
        refine h2 _ ρ w a hf hw hfr fun ρ' e' a' w' hx hf' hm' => ?_
        cases hx
        simp only [Exit.inBlock, if_neg hid]
        exact hQ ρ' _ a' w' rfl hf' hm'
    · rename_i hne
      obtain ⟨h1, h2⟩ := ih f st x f' st' hwf h
      refine ⟨h1, fun Q ρ w a hf hw hfr hQ => wp_block ?_⟩
      refine h2 _ ρ w a hf hw hfr fun ρ' e' a' w' hx hf' hm' => ?_
      have hq := hQ ρ' e' a' w' hx hf' hm'
      cases x with
      | normal => cases hx; exact hq
      | exit id => exact absurd h (hne id f' st')
      | ret => cases hx; exact hq
      | panic v => obtain ⟨v', rfl, _⟩ := hx; exact hq
  | loop c ih =>
    intro f st x f' st' hwf h
    simp only [evCode] at h
    have key : ∀ (n : Nat) (f : AFr) (st : ASt), Wf st → iter (evCode P self fuel c) n f st = .ok (x, f', st') →
        LoS st st' ∧ ∀ (Q : Exit → Act → World → Prop) ρ w a, FrR ρ f a → WR ρ st.h.get w → Fresh ρ st.next st'.next → Goal ρ st st' f' x w Q → Code.rounds P c Q n a w := by
      intro n
      induction n with
      | zero => intro f st _ h; cases h
      | succ n ihn =>
        intro f st hwf h
        simp only [iter] at h
        split at h
        · rename_i f1 st1 he
          obtain ⟨h1, h2⟩ := ih f st _ f1 st1 hwf he
          obtain ⟨h3, h4⟩ := ihn f1 st1 (h1.wf hwf) h
          refine ⟨h1.trans h3, fun Q ρ w a hf hw hfr hQ => ?_⟩
          rw [rounds_succ]
          refine h2 _ ρ w a hf hw (hfr.left h3.1) fun ρ' e' a' w' hx hf' hm' => ?_
          cases hx
          exact h4 Q ρ' w' a' hf' hm'.wr (hm'.fresh hfr) fun ρ2 e2 a2 w2 hx2 hf2 hm2 => hQ ρ2 e2 a2 w2 hx2 hf2 (hm'.trans hm2)
        · rename_i hne
          obtain ⟨h1, h2⟩ := ih f st x f' st' hwf h
          refine ⟨h1, fun Q ρ w a hf hw hfr hQ => ?_⟩
          rw [rounds_succ]
          refine h2 _ ρ w a hf hw hfr fun ρ' e' a' w' hx hf' hm' => ?_
          have hq := hQ ρ' e' a' w' hx hf' hm'
          cases x with
          | normal => exact absurd h (hne f' st')
          | exit id => cases hx; exact hq
          | ret => cases hx; exact hq
          | panic v => obtain ⟨v', rfl, _⟩ := hx; exact hq
    obtain ⟨h1, h2⟩ := key fuel f st hwf h
    exact ⟨h1, fun Q ρ w a hf hw hfr hQ => wp_loop_rounds fuel (h2 Q ρ w a hf hw hfr hQ)⟩
  | exit id =>
    intro f st x f' st' _ h
    cases h
    exact ⟨LoS.refl _, fun Q ρ w a hf hw hfr hQ => wp_exit (hQ ρ _ a w rfl hf (Mv.refl hw _))⟩
  | ret =>
    intro f st x f' st' _ h
    cases h
    exact ⟨LoS.refl _, fun Q ρ w a hf hw hfr hQ => wp_ret (hQ ρ _ a w rfl hf (Mv.refl hw _))⟩
  | _ => intros; rename_i h; cases h
end Go.Proofs.YtpbnlbbieaokoaaGreatDoor.Ev
/-
  What the evaluator says of functions holds of every run; the answer of a closed call.
-/
set_option linter.unusedVariables false
set_option linter.unusedSimpArgs false
namespace Go.Proofs.YtpbnlbbieaokoaaGreatDoor.Ev
open Go

theorem args0_get : ∀ (l : List Value) (i : Nat) (t : Tr Value) (k : Nat), (args0 l i t).get k = if i ≤ k ∧ k < i + l.length then l[k - i]? else t.get k := by
  intro l
  induction l with
  | nil => intro i t k; rw [if_neg (by simp)]; rfl
  | cons v l ih =>
    intro i t k
    simp only [args0, ih, set_get]
    by_cases hk : k = i
    · subst hk
      rw [if_neg (by omega), upd_same, if_pos (by simp)]
      simp
    · rw [upd_ne _ _ hk]
      by_cases h2 : i + 1 ≤ k ∧ k < i + 1 + l.length
      · rw [if_pos h2, if_pos (by simp; omega), show k - i = (k - (i + 1)) + 1 by omega]
        simp
      · rw [if_neg h2, if_neg (by simp; omega)]
theorem maxN_eq (a b : Nat) : maxN a b = max a b := by
  unfold maxN
  rcases Bool.eq_false_or_eq_true (Nat.ble a b) with h | h
  · rw [h]; have := ble_le h; simp only [cond_true]; omega
  · rw [h]
    have : ¬ a ≤ b := fun h2 => by rw [Nat.ble_eq_true_of_le h2] at h; cases h
    simp only [cond_false]; omega
theorem enter_rel {ρ : Rho} {args : List Value} {args' : Array Value} (n : Nat) (h : VRL ρ args args'.toList) : FrR ρ ⟨maxN args.length n, args0 args 0 .leaf, []⟩ { tmps := args' ++ Array.replicate (n - args'.size) undef, defers := [] } := by
  have hl : args.length = args'.size := by have := h.1; simpa using this
  refine ⟨by rw [maxN_eq]; simp; omega, fun t v e => ?_, trivial⟩
  simp only [args0_get, Nat.sub_zero, Nat.zero_add] at e
  split at e
  · rename_i ht
    obtain ⟨y, hy, hv⟩ := h.get e
    refine ⟨y, ?_, hv⟩
    simp only
    rw [Array.getElem?_append_left (by omega)]
    simpa using hy
  · cases e

/-- one result -/
def resS (tmps : Array Value) : ResultVar → Sem Value
  | .tmp t => pure (tmps.getD t undef)
  | .cell a t => (asAddr (tmps.getD a undef)).bind fun x => loadVar t x
theorem results_eq (fn : Func) (tmps : Array Value) : results fn tmps = ((fn.results.mapM (resS tmps)).bind fun vs => pure (if h : vs.size = 1 then vs[0] else .tuple vs)) := by
  unfold results
  have : (fun (x : ResultVar) => (match x with
      | .tmp t => pure (tmps.getD t undef)
      | .cell a t => do loadVar t (← asAddr (tmps.getD a undef)) : Sem Value)) = resS tmps := by
    funext x
    cases x <;> rfl
  rw [← this]
  rfl
theorem resL_run {P : Program} {ρ : Rho} {f : AFr} {st : ASt} {tmps : Array Value} {w : World} (hf : FrR ρ ⟨f.n, f.tmps, []⟩ ⟨tmps, []⟩) (hw : WR ρ st.h.get w) : ∀ {l : List ResultVar} {vs : List Value}, resL P st f l = .ok vs →
    ∃ vs', (l.mapM (resS tmps)).run P w = .ok vs' w ∧ VRL ρ vs vs' := by
  intro l
  have hev : ∀ t, VR ρ (f.tmp t) (tmps.getD t undef) := fun t => hf.ev (.tmp t)
  induction l with
  | nil => intro vs h; cases h; exact ⟨[], rfl, VRL.nil ρ⟩
  | cons x l ih =>
    intro vs h
    cases x with
    | tmp t =>
      simp only [resL] at h
      obtain ⟨r, h1, h2⟩ := bnd_ok h
      cases h2
      obtain ⟨vs', e1, e2⟩ := ih h1
      refine ⟨tmps.getD t undef :: vs', ?_, VRL.cons (hev t) e2⟩
      have e0 : (resS tmps (.tmp t)).run P w = .ok (tmps.getD t undef) w := rfl
      simp only [List.mapM_cons, Sem.run_bind, Sem.run_pure, Result.andThen_ok, e0, e1]
    | cell x t =>
      simp only [resL] at h
      split at h
      · rename_i a0 hx
        obtain ⟨n, h1, h2⟩ := bnd_ok h
        obtain ⟨cs, h3, h4⟩ := bnd_ok h2
        obtain ⟨v, h5, h6⟩ := bnd_ok h4
        obtain ⟨r, h7, h8⟩ := bnd_ok h6
        cases h8
        obtain ⟨vs', e1, e2⟩ := ih h7
        have hX := hev x
        rw [hx] at hX
        obtain ⟨s, g2, g3⟩ := hX.ptr_loc
        obtain ⟨l', r1, r2, r3⟩ := readC_rel h3 hw g2
        have main : ∃ y, (loadVar t ⟨s.blk, locOf s a0, none⟩).run P w = .ok y w ∧ VR ρ v y := by
          rcases shutL_run h5 with ⟨k8, rfl⟩ | ⟨k8, rfl⟩
          · refine ⟨.agg l'.toArray, ?_, VR.agg' r1⟩
            have := run_loadCells_list (P := P) (w := w) ⟨s.blk, locOf s a0, none⟩ l' r3
            rw [r2] at this
            simp [loadVar, run_aggL k8, run_sizeL h1, this]
          · obtain ⟨y, m, rfl, hy, hm⟩ := r1.uncons
            refine ⟨y, ?_, hy⟩
            have := r3 0 y (by simp)
            simp only [add_at, Nat.add_zero] at this
            simp [loadVar, run_aggL k8, this]
        obtain ⟨y, m1, m2⟩ := main
        refine ⟨y :: vs', ?_, VRL.cons m2 e2⟩
        have e0 : (resS tmps (.cell x t)).run P w = .ok y w := by
          show ((asAddr (tmps.getD x undef)).bind fun z => loadVar t z).run P w = _
          rw [g3]
          exact m1
        simp only [List.mapM_cons, Sem.run_bind, Sem.run_pure, Result.andThen_ok, e0, e1]
      · cases h
theorem resOf_run {P : Program} {ρ : Rho} {fn : Func} {f : AFr} {st : ASt} {tmps : Array Value} {w : World} {v : Value} (hf : FrR ρ ⟨f.n, f.tmps, []⟩ ⟨tmps, []⟩) (hw : WR ρ st.h.get w) (h : resOf P fn st f = .ok v) :
    ∃ v', (results fn tmps).run P w = .ok v' w ∧ VR ρ v v' := by
  unfold resOf at h
  obtain ⟨vs, h1, h2⟩ := bnd_ok h
  obtain ⟨vs', e1, e2⟩ := resL_run hf hw h1
  have hrun : (results fn tmps).run P w = .ok (if h : vs'.toArray.size = 1 then vs'.toArray[0] else .tuple vs'.toArray) w := by
    rw [results_eq, Array.mapM_eq_mapM_toList]
    show (((List.toArray <$> fn.results.toList.mapM (resS tmps)) >>= fun vs => pure (if h : vs.size = 1 then vs[0] else .tuple vs) : Sem Value)).run P w = _
    simp only [Sem.run_bind, Sem.run_map, e1, Result.andThen_ok, Sem.run_pure]
  split at h2
  · cases h2
    obtain ⟨y, m, rfl, hy, hm⟩ := e2.uncons
    have := hm.nil_inv
    subst this
    exact ⟨y, by rw [hrun]; rfl, hy⟩
  · rename_i hne
    cases h2
    refine ⟨.tuple vs'.toArray, ?_, VR.tuple' e2⟩
    rw [hrun, dif_neg]
    intro h1
    have hl : vs.length = 1 := by rw [e2.1]; simpa using h1
    match vs, hl with
    | [x], _ => exact hne x rfl

/-! ### what is deferred -/
def ModeR (ρ : Rho) : Option Value → FrameMode → Prop
  | none, u => u = .returning
  | some v, u => ∃ v', u = .panicking [{ v := v', recovered := false }] ∧ VR ρ v v'
theorem ModeR.mono {ρ ρ' : Rho} (hs : Sub ρ ρ') {p : Option Value} {u : FrameMode} (h : ModeR ρ p u) : ModeR ρ' p u := by
  cases p with
  | none => exact h
  | some v => obtain ⟨v', h1, h2⟩ := h; exact ⟨v', h1, h2.mono hs⟩
theorem ModeR.settle {ρ : Rho} {p : Option Value} {u : FrameMode} (h : ModeR ρ p u) : ModeR ρ p (settle u) ∧ u ≠ .run := by
  cases p with
  | none => cases h; exact ⟨rfl, by simp⟩
  | some v => obtain ⟨v', rfl, h2⟩ := h; exact ⟨⟨v', rfl, h2⟩, by simp⟩
def SelfD (P : Program) (selfD : FuncId → List Value → Option Value → ASt → Rs (Option Value × ASt)) : Prop := ∀ g args p st p' st', Wf st → selfD g args p st = .ok (p', st') → LoS st st' ∧ ∀ ρ w (args' : Array Value) u, VRL ρ args args'.toList → WR ρ st.h.get w → Fresh ρ st.next st'.next → ModeR ρ p u →
  CallsD P g args' u w fun e u' w' => ∃ ρ', (∃ v, e = .returned v) ∧ ModeR ρ' p' (settle u') ∧ Mv ρ ρ' st.h.get st'.h.get st.next st'.next w w'
theorem leave_sound {P : Program} {selfD : FuncId → List Value → Option Value → ASt → Rs (Option Value × ASt)} (hsd : SelfD P selfD) {fn : Func} {f : AFr} : ∀ (ds : List ADef) (p : Option Value) (st : ASt) (r : AE) (st' : ASt), Wf st → leave P selfD fn f ds p st = .ok (r, st') →
    LoS st st' ∧ ∀ (R : Ending → World → Prop) ρ w (tmps : Array Value) ds' u, DefsR ρ ds ds' → FrR ρ ⟨f.n, f.tmps, []⟩ ⟨tmps, []⟩ → WR ρ st.h.get w → Fresh ρ st.next st'.next → ModeR ρ p u →
      (∀ ρ' e w', EndR ρ' r e → Mv ρ ρ' st.h.get st'.h.get st.next st'.next w w' → R e w') → Leaves P fn tmps R ds' u w := by
  intro ds
  induction ds with
  | nil =>
    intro p st r st' hwf h
    cases p with
    | none =>
      simp only [leave] at h
      obtain ⟨v, h1, h2⟩ := bnd_ok h
      cases h2
      refine ⟨LoS.refl _, fun R ρ w tmps ds' u hd hf hw _ hm hR => ?_⟩
      cases ds' with
      | cons => exact hd.elim
      | nil =>
        cases hm
        obtain ⟨v', k1, k2⟩ := resOf_run hf hw h1
        exact ⟨v', k1, hR ρ _ w ⟨v', rfl, k2⟩ (Mv.refl hw _)⟩
    | some v =>
      simp only [leave] at h
      cases h
      refine ⟨LoS.refl _, fun R ρ w tmps ds' u hd hf hw _ hm hR => ?_⟩
      cases ds' with
      | cons => exact hd.elim
      | nil =>
        obtain ⟨v', rfl, k2⟩ := hm
        exact hR ρ _ w ⟨v', rfl, k2⟩ (Mv.refl hw _)
  | cons d ds ih =>
    intro p st r st' hwf h
    simp only [leave] at h
    split at h
    · rename_i g args hi
      split at h
      · rename_i p1 st1 hg
        obtain ⟨h1, h2⟩ := hsd g args p st p1 st1 hwf hg
        obtain ⟨h3, h4⟩ := ih p1 st1 r st' (h1.wf hwf) h
        refine ⟨h1.trans h3, fun R ρ w tmps ds' u hd hf hw hfr hm hR => ?_⟩
        cases ds' with
        | nil => exact hd.elim
        | cons d' ds' =>
          obtain ⟨⟨cap', args', rfl, hcap, hargs⟩, hd2⟩ := hd
          unfold aInvoke at hi
          split at hi
          · rename_i fid hfn
            rcases aCall_run hi with ⟨e, hcall⟩ | ⟨v, e, _⟩
            · cases e
              refine ⟨hm.settle.2, d.fn, cap', g, args' ++ cap', rfl, ?_, ?_⟩
              · simp only [hfn, invoke]
                exact hcall _ w
              · refine (h2 ρ w (args' ++ cap') u (by simpa using hargs.append hcap) hw (hfr.left h3.1) hm).mono fun e u' w' he => ?_
                obtain ⟨ρ', ⟨v, rfl⟩, hm', hmv⟩ := he
                exact h4 R ρ' w' tmps ds' _ (hd2.mono hmv.ext) (hf.mono hmv.ext) hmv.wr (hmv.fresh hfr) hm' fun ρ2 e2 w2 he2 hm2 => hR ρ2 e2 w2 he2 (hmv.trans hm2)
            · cases e
          · cases hi
      · cases h
    · cases h
theorem fr_bare {ρ : Rho} {f : AFr} {a : Act} (h : FrR ρ f a) : FrR ρ ⟨f.n, f.tmps, []⟩ ⟨a.tmps, []⟩ := ⟨h.size, h.tmp, trivial⟩
theorem defs_nil {ρ : Rho} {ds : List Deferred} (h : DefsR ρ [] ds) : ds = [] := by
  cases ds with
  | nil => rfl
  | cons => exact h.elim
/-- the end of a deferred function -/
theorem finD_ok {P : Program} {fn : Func} {p p' : Option Value} {r : Rs (AX × AFr × ASt)} {st' : ASt} (h : finD P fn p r = .ok (p', st')) : ∃ x f v, r = .ok (x, f, st') ∧ (x = .normal ∨ x = .ret) ∧ f.defers = [] ∧ p' = p ∧ resOf P fn st' f = .ok v := by
  unfold finD at h
  split at h
  · rename_i f st1
    split at h
    · rename_i hd
      obtain ⟨v, h1, h2⟩ := bnd_ok h
      cases h2
      exact ⟨_, f, v, rfl, .inl rfl, hd, rfl, h1⟩
    · cases h
  · rename_i f st1
    split at h
    · rename_i hd
      obtain ⟨v, h1, h2⟩ := bnd_ok h
      cases h2
      exact ⟨_, f, v, rfl, .inr rfl, hd, rfl, h1⟩
    · cases h
  · cases h
  · cases h
theorem finD_post {P : Program} {fn : Func} {ρ : Rho} {x : AX} {e : Exit} {f : AFr} {a : Act} {st' : ASt} {w : World} {v : Value} {R : Ending → World → Prop} (hx : x = .normal ∨ x = .ret) (hxe : XR ρ x e) (hf : FrR ρ f a) (hd : f.defers = []) (hw : WR ρ st'.h.get w) (hr : resOf P fn st' f = .ok v)
    (hR : ∀ v', R (.returned v') w) : bodyPost P fn R e a w := by
  obtain ⟨v', k1, k2⟩ := resOf_run (fr_bare hf) hw hr
  have hdn : a.defers = [] := by have := hf.defs; rw [hd] at this; exact defs_nil this
  rcases hx with rfl | rfl <;> cases hxe <;> exact ⟨hdn, v', k1, hR v'⟩
theorem evOp_ends {P : Program} {self : Self} {f f' : AFr} {st st' : ASt} {o : Oper} {x : AX} (h : evOp P self f st o = .ok (x, f', st')) : x ≠ .ret := by
  unfold evOp at h
  split at h
  · cases h; simp
  · split at h
    · cases h; simp
    · cases h; simp
    · cases h
  · cases h; simp
  · cases h; simp
  · cases h
theorem evOps_ends {P : Program} {self : Self} {all : List Oper} : ∀ (l : List Oper) {f f' : AFr} {st st' : ASt} {x : AX}, evOps P self all l f st = .ok (x, f', st') → x ≠ .ret := by
  intro l
  induction l with
  | nil => intro f f' st st' x h; cases h; simp
  | cons o l ih =>
    intro f f' st st' x h
    simp only [evOps] at h
    split at h
    · split at h
      · exact ih h
      · exact evOp_ends h
    · exact ih h
    · cases h
theorem evD_sound {P : Program} {self : Self} (hs : SelfS P self) (hm : P.follows .mixedOrders = true) (fuel : Nat) : SelfD P (evD P self fuel) := by
  intro g args p st p' st' hwf h
  unfold evD at h
  split at h
  · rename_i fn hfn
    have hfn' : P.funcs[g]? = some fn := by simpa using hfn
    split at h
    · rename_i body hb
      have plain : finD P fn p (evCode P self fuel body ⟨maxN args.length fn.ntmps, args0 args 0 .leaf, []⟩ st) = .ok (p', st') → LoS st st' ∧ ∀ ρ w (args' : Array Value) u, VRL ρ args args'.toList → WR ρ st.h.get w → Fresh ρ st.next st'.next → ModeR ρ p u →
          CallsD P g args' u w fun e u' w' => ∃ ρ', (∃ v, e = .returned v) ∧ ModeR ρ' p' (settle u') ∧ Mv ρ ρ' st.h.get st'.h.get st.next st'.next w w' := by
        intro h
        obtain ⟨x, f, v, h1, h2, h3, h4, h5⟩ := finD_ok h
        subst h4
        obtain ⟨k1, k2⟩ := evCode_sound hs hm fuel body _ st x f st' hwf h1
        refine ⟨k1, fun ρ w args' u hv hw hfr hmo => ?_⟩
        refine CallsD.mono (callsD_of_wp (R := fun e w' => ∃ ρ', (∃ v, e = .returned v) ∧ Sub ρ ρ' ∧ Mv ρ ρ' st.h.get st'.h.get st.next st'.next w w') hfn' hb ?_) ?_
        · refine k2 _ ρ w _ (enter_rel fn.ntmps hv) hw hfr fun ρ' e' a' w' hxr hf' hmv => ?_
          exact finD_post h2 hxr hf' h3 hmv.wr h5 fun v' => ⟨ρ', ⟨v', rfl⟩, hmv.ext, hmv⟩
        · rintro e u' w' ⟨rfl, ρ', h6, h7, h8⟩
          exact ⟨ρ', h6, (hmo.mono h7).settle.1, h8⟩
      split at h
      · rename_i id ops c2
        split at h
        · rename_i o l hops
          cases hrec : isRecover o with
          | false =>
            rw [hrec] at h
            simp only [cond_false] at h
            split at h
            rotate_left
            · exact plain h
            rename_i id2 ops2 c3
            split at h
            rotate_left
            · cases h
            rename_i o2 l2 hops2
            cases hrec2 : isRecover o2 with
            | false => rw [hrec2] at h; exact plain h
            | true =>
              rw [hrec2] at h
              simp only [cond_true] at h
              obtain ⟨x, f, v, h1, h2, h3, h4, h5⟩ := finD_ok h
              subst h4
              have hopsA : ops2 = (o2 :: l2).toArray := by rw [← hops2]
              subst hopsA
              have hopsB : ops = (o :: l).toArray := by rw [← hops]
              subst hopsB
              obtain ⟨hgd, hrun⟩ : o2.guard = none ∧ ∀ (ρv : Operand → Value) (w : World), (execOp ρv o2).run P w = .ok .recover w := by
                unfold isRecover at hrec2
                split at hrec2
                · rename_i hop hgd
                  refine ⟨hgd, fun ρv w => ?_⟩
                  simp only [execOp, hop, resolve]
                  rw [LawfulMonad.pure_bind]
                  simp [invoke, builtin]
                · cases hrec2
              split at h1
              · rename_i f0 st0 he0
                obtain ⟨j1, j2⟩ := evOps_sound hs (o :: l) (o :: l) _ st _ f0 st0 hwf he0
                split at h1
                · rename_i f1 st1 he
                  obtain ⟨k1, k2⟩ := evOps_sound hs (o2 :: l2) l2 _ st0 _ f1 st1 (j1.wf hwf) he
                  obtain ⟨k3, k4⟩ := evCode_sound hs hm fuel c3 f1 st1 x f st' (k1.wf (j1.wf hwf)) h1
                  refine ⟨j1.trans (k1.trans k3), fun ρ w args' u hv hw hfr hmo => ?_⟩
                  obtain ⟨rv, u', hrv, hu', h0⟩ : ∃ rv u', (∀ ρ', Sub ρ ρ' → VR ρ' (recoverOf p) rv) ∧ settle u' = .returning ∧ ((∃ older, u = .panicking ({ v := rv, recovered := false } :: older) ∧ u' = .panicking ({ v := rv, recovered := true } :: older)) ∨ (u = .returning ∧ u' = .returning ∧ rv = .nilIface)) := by
                    cases p with
                    | none => cases hmo; exact ⟨.nilIface, .returning, fun _ _ => .nilIface, rfl, .inr ⟨rfl, rfl, rfl⟩⟩
                    | some pv => obtain ⟨v', rfl, hv'⟩ := hmo; exact ⟨v', .panicking [{ v := v', recovered := true }], fun _ hsb => hv'.mono hsb, rfl, .inl ⟨[], rfl, rfl⟩⟩
                  refine CallsD.mono (callsD_recover2 (R := fun e w' => ∃ ρ', (∃ v, e = .returned v) ∧ Mv ρ ρ' st.h.get st'.h.get st.next st'.next w w') (u' := u') (v := rv) hfn' hb hgd hrun h0 ?_) ?_
                  · refine wp_region_list ?_
                    refine j2 _ ρ w _ (enter_rel fn.ntmps hv) hw (hfr.left (Nat.le_trans k1.1 k3.1)) fun ρ0 e0 a0 w0 hx0 hf0 hm0 => ?_
                    cases hx0
                    refine ⟨rfl, ?_⟩
                    refine k2 _ ρ0 w0 _ (hf0.put (hrv ρ0 hm0.ext)) hm0.wr ((hm0.fresh hfr).left k3.1) fun ρ1 e1 a1 w1 hx1 hf1 hm1 => ?_
                    cases hx1
                    show Code.wp P c3 _ a1 w1
                    refine k4 _ ρ1 w1 a1 hf1 hm1.wr (hm1.fresh (hm0.fresh hfr)) fun ρ2 e2 a2 w2 hx2 hf2 hm2 => ?_
                    exact finD_post h2 hx2 hf2 h3 hm2.wr h5 fun v' => ⟨ρ2, ⟨v', rfl⟩, hm0.trans (hm1.trans hm2)⟩
                  · rintro e u'' w' ⟨rfl, ρ', h6, h8⟩
                    exact ⟨ρ', h6, hu', h8⟩
                · rename_i hne
                  exfalso
                  have : x ≠ .normal := fun e => by subst e; exact hne f st' h1
                  rcases h2 with rfl | rfl
                  · exact this rfl
                  · exact evOps_ends l2 h1 rfl
              · rename_i hne
                exfalso
                have : x ≠ .normal := fun e => by subst e; exact hne f st' h1
                rcases h2 with rfl | rfl
                · exact this rfl
                · exact evOps_ends (o :: l) h1 rfl
          | true =>
            rw [hrec] at h
            simp only [cond_true] at h
            obtain ⟨x, f, v, h1, h2, h3, h4, h5⟩ := finD_ok h
            subst h4
            have hopsA : ops = (o :: l).toArray := by rw [← hops]
            subst hopsA
            obtain ⟨hgd, hrun⟩ : o.guard = none ∧ ∀ (ρv : Operand → Value) (w : World), (execOp ρv o).run P w = .ok .recover w := by
              unfold isRecover at hrec
              split at hrec
              · rename_i hop hgd
                refine ⟨hgd, fun ρv w => ?_⟩
                simp only [execOp, hop, resolve]
                rw [LawfulMonad.pure_bind]
                simp [invoke, builtin]
              · cases hrec
            split at h1
            · rename_i f1 st1 he
              obtain ⟨k1, k2⟩ := evOps_sound hs (o :: l) l _ st _ f1 st1 hwf he
              obtain ⟨k3, k4⟩ := evCode_sound hs hm fuel c2 f1 st1 x f st' (k1.wf hwf) h1
              refine ⟨k1.trans k3, fun ρ w args' u hv hw hfr hmo => ?_⟩
              obtain ⟨rv, u', hrv, hu', h0⟩ : ∃ rv u', VR ρ (recoverOf p) rv ∧ settle u' = .returning ∧ ((∃ older, u = .panicking ({ v := rv, recovered := false } :: older) ∧ u' = .panicking ({ v := rv, recovered := true } :: older)) ∨ (u = .returning ∧ u' = .returning ∧ rv = .nilIface)) := by
                cases p with
                | none => cases hmo; exact ⟨.nilIface, .returning, .nilIface, rfl, .inr ⟨rfl, rfl, rfl⟩⟩
                | some pv => obtain ⟨v', rfl, hv'⟩ := hmo; exact ⟨v', .panicking [{ v := v', recovered := true }], hv', rfl, .inl ⟨[], rfl, rfl⟩⟩
              refine CallsD.mono (callsD_recover (R := fun e w' => ∃ ρ', (∃ v, e = .returned v) ∧ Mv ρ ρ' st.h.get st'.h.get st.next st'.next w w') (u' := u') (v := rv) hfn' hb hgd (fun ρv => hrun ρv w) h0 ?_) ?_
              · refine k2 _ ρ w _ ((enter_rel fn.ntmps hv).put hrv) hw (hfr.left k3.1) fun ρ1 e1 a1 w1 hx1 hf1 hm1 => ?_
                cases hx1
                show Code.wp P c2 _ a1 w1
                refine k4 _ ρ1 w1 a1 hf1 hm1.wr (hm1.fresh hfr) fun ρ2 e2 a2 w2 hx2 hf2 hm2 => ?_
                exact finD_post h2 hx2 hf2 h3 hm2.wr h5 fun v' => ⟨ρ2, ⟨v', rfl⟩, hm1.trans hm2⟩
              · rintro e u'' w' ⟨rfl, ρ', h6, h8⟩
                exact ⟨ρ', h6, hu', h8⟩
            · rename_i hne
              exfalso
              have : x ≠ .normal := fun e => by subst e; exact hne f st' h1
              rcases h2 with rfl | rfl
              · exact this rfl
              · exact evOps_ends l h1 rfl
        · cases h
      · exact plain h
    · cases h
  · cases h
theorem evFun1_sound {P : Program} (hm : P.follows .mixedOrders = true) (fuel : Nat) {self : Self} (ih : SelfS P self) : SelfS P (evFun1 P fuel self) := by
    intro g args st r st' hwf h
    simp only [evFun1] at h
    split at h
    · rename_i fn hfn
      have hfn' : P.funcs[g]? = some fn := by simpa using hfn
      split at h
      · rename_i body hb
        have ret : ∀ (x : AX) (f : AFr) (st1 : ASt), (x = .normal ∨ x = .ret) → evCode P self fuel body ⟨maxN args.length fn.ntmps, args0 args 0 .leaf, []⟩ st = .ok (x, f, st1) →
            (match f.defers with
              | [] => (resOf P fn st1 f).bnd fun v => .ok (.returned v, st1)
              | ds => leave P (evD P self fuel) fn f ds none st1 : Rs (AE × ASt)) = .ok (r, st') →
            LoS st st' ∧ ∀ ρ w (args' : Array Value), VRL ρ args args'.toList → WR ρ st.h.get w → Fresh ρ st.next st'.next → Calls P g args' w fun e w' => ∃ ρ', EndR ρ' r e ∧ Mv ρ ρ' st.h.get st'.h.get st.next st'.next w w' := by
          intro x f st1 hx he h
          obtain ⟨k1, k2⟩ := evCode_sound ih hm fuel body _ st x f st1 hwf he
          split at h
          · rename_i hd
            obtain ⟨v, h1, h2⟩ := bnd_ok h
            cases h2
            refine ⟨k1, fun ρ w args' hv hw hfr => calls_of_wp hfn' hb (k2 _ ρ w _ (enter_rel fn.ntmps hv) hw hfr fun ρ' e' a' w' hxr hf' hmv => ?_)⟩
            obtain ⟨v', m1, m2⟩ := resOf_run (fr_bare hf') hmv.wr h1
            have hdn : a'.defers = [] := by have := hf'.defs; rw [hd] at this; exact defs_nil this
            rcases hx with rfl | rfl <;> cases hxr <;> exact ⟨hdn, v', m1, ρ', ⟨v', rfl, m2⟩, hmv⟩
          · obtain ⟨k3, k4⟩ := leave_sound (evD_sound ih hm fuel) _ none st1 r st' (k1.wf hwf) h
            refine ⟨k1.trans k3, fun ρ w args' hv hw hfr => calls_of_wp_defers hfn' hb (k2 _ ρ w _ (enter_rel fn.ntmps hv) hw (hfr.left k3.1) fun ρ' e' a' w' hxr hf' hmv => ?_)⟩
            have hl := k4 (fun e w' => ∃ ρ', EndR ρ' r e ∧ Mv ρ ρ' st.h.get st'.h.get st.next st'.next w w') ρ' w' a'.tmps a'.defers .returning hf'.defs (fr_bare hf') hmv.wr (hmv.fresh hfr) rfl fun ρ2 e2 w2 he2 hm2 => ⟨ρ2, he2, hmv.trans hm2⟩
            rcases hx with rfl | rfl <;> cases hxr <;> exact hl
        split at h
        · rename_i f st1 he; exact ret _ f st1 (.inl rfl) he h
        · rename_i f st1 he; exact ret _ f st1 (.inr rfl) he h
        · rename_i v f st1 he
          obtain ⟨k1, k2⟩ := evCode_sound ih hm fuel body _ st _ f st1 hwf he
          split at h
          · rename_i hd
            cases h
            refine ⟨k1, fun ρ w args' hv hw hfr => calls_of_wp hfn' hb (k2 _ ρ w _ (enter_rel fn.ntmps hv) hw hfr fun ρ' e' a' w' hxr hf' hmv => ?_)⟩
            have hdn : a'.defers = [] := by have := hf'.defs; rw [hd] at this; exact defs_nil this
            obtain ⟨v', rfl, hv'⟩ := hxr
            exact ⟨hdn, ρ', ⟨v', rfl, hv'⟩, hmv⟩
          · obtain ⟨k3, k4⟩ := leave_sound (evD_sound ih hm fuel) _ (some v) st1 r st' (k1.wf hwf) h
            refine ⟨k1.trans k3, fun ρ w args' hv hw hfr => calls_of_wp_defers hfn' hb (k2 _ ρ w _ (enter_rel fn.ntmps hv) hw (hfr.left k3.1) fun ρ' e' a' w' hxr hf' hmv => ?_)⟩
            obtain ⟨v', rfl, hv'⟩ := hxr
            exact k4 (fun e w' => ∃ ρ', EndR ρ' r e ∧ Mv ρ ρ' st.h.get st'.h.get st.next st'.next w w') ρ' w' a'.tmps a'.defers _ hf'.defs (fr_bare hf') hmv.wr (hmv.fresh hfr) ⟨v', rfl, hv'⟩ fun ρ2 e2 w2 he2 hm2 => ⟨ρ2, he2, hmv.trans hm2⟩
        · cases h
        · cases h
      · cases h
    · cases h

theorem evFun_sound {P : Program} (hm : P.follows .mixedOrders = true) (fuel : Nat) : ∀ n, SelfS P (evFun P fuel n) := by
  intro n
  induction n with
  | zero => intro g args st r st' _ h; cases h
  | succ n ih => exact evFun1_sound hm fuel ih
/-- what is told of a function holds -/
def ToldS (P : Program) (C : Told) : Prop := ∀ g c, C g = some c → ∀ args st r st', Wf st → c.run args st = .ok (r, st') → LoS st st' ∧ ∀ ρ w (args' : Array Value), VRL ρ args args'.toList → WR ρ st.h.get w → Fresh ρ st.next st'.next → Calls P g args' w fun e w' => ∃ ρ', EndR ρ' r e ∧ Mv ρ ρ' st.h.get st'.h.get st.next st'.next w w'
theorem evFunC_sound {P : Program} (hm : P.follows .mixedOrders = true) {C : Told} (hC : ToldS P C) (fuel : Nat) : ∀ n, SelfS P (evFunC P C fuel n) := by
  intro n
  induction n with
  | zero => intro g args st r st' _ h; cases h
  | succ n ih =>
    intro g args st r st' hwf h
    simp only [evFunC] at h
    split at h
    · rename_i c hc
      exact hC g c hc args st r st' hwf h
    · exact evFun1_sound hm fuel ih g args st r st' hwf h

/-- **a closed call that the evaluator says is true, is true** in whatever world, and leaves what there was as it was -/
theorem closed_true {P : Program} {g : FuncId} (hm : P.follows .mixedOrders = true) (h : isTrue P g = true) (w : World) (hgl : GlA w := by first | assumption | exact fun b hb => by cases hb) : Calls P g #[] w fun e w' => e = .returned (.bool true) ∧ RowKit.Below w.heap.size w w' := by
  unfold isTrue at h
  split at h
  · rename_i st' he
    have hwf : Wf st0 := fun x o e => by cases e
    obtain ⟨_, h2⟩ := evFun_sound hm 100000 100 g [] st0 _ st' hwf he
    have hw : WR (fun _ => none) st0.h.get w := by
      refine ⟨?_, ?_, ?_, ?_, fun b hb => ⟨(hgl b hb).1, (hgl b hb).2, fun ⟨a, o, s, e, _⟩ => by cases e⟩⟩
      · intro a s e; cases e
      · intro a o e; cases e
      · intro a b oa ob sa sb e; cases e
      · intro b hb; obtain ⟨a, s, e, _⟩ := hb; cases e
    refine (h2 (fun _ => none) w #[] (VRL.nil _) hw (fun _ _ _ => rfl)).mono fun e w' he => ?_
    obtain ⟨ρ', ⟨v', rfl, hv⟩, hmv⟩ := he
    cases hv
    exact ⟨rfl, hmv.os, hmv.tape, hmv.output, hmv.size, fun k hk => hmv.frm k hk fun ⟨a, o, s, e1, _⟩ => by cases e1⟩
  · cases h
end Go.Proofs.YtpbnlbbieaokoaaGreatDoor.Ev
