/-
  The evaluator where values are left open, over worlds: conditions are remembered, memory may be named anew, loops are left to be shown.
-/
import Derived.Test.YtpogcoolgnjejaaGreatDoorGf
import Derived.Control
set_option linter.unusedVariables false
set_option linter.unusedSimpArgs false
namespace Go.Proofs.YtpogcoolgnjejaaGreatDoor.Ev
open Go Go.RowKit

def FreshAll (ρ : Rho) (n : Nat) : Prop := ∀ a, n ≤ a → ρ a = none
def OwnB (ρ : Rho) (g : Mem) (B : Nat) : Prop := ∀ b, Own g ρ b → B ≤ b
def noW (_ : Nat) : Prop := False
/-- where it began: what lay below B in w0 is not written; where the first numbers lie -/
structure Bs where
  B : Nat
  w0 : World
  X : List Spot
  /-- what was written no more -/
  F : Nat → Prop
  /-- what lay there and may be written -/
  W : Nat → Prop
def OwnW (ρ : Rho) (g : Mem) (β : Bs) : Prop := ∀ b, Own g ρ b → β.B ≤ b ∨ β.W b
/-- what lay there is as it was, but for what may be written -/
structure BelowW (β : Bs) (w' : World) : Prop where
  os : w'.os = β.w0.os
  tape : w'.tape = β.w0.tape
  output : w'.output = β.w0.output
  size : β.w0.heap.size ≤ w'.heap.size
  block : ∀ k, k < β.B → ¬ β.W k → w'.heap[k]? = β.w0.heap[k]?
theorem BelowW.of {β : Bs} {w' : World} (h : BelowW β w') (hW : ∀ b, ¬ β.W b) : Below β.B β.w0 w' := ⟨h.os, h.tape, h.output, h.size, fun k hk => h.block k hk (hW k)⟩
theorem BelowW.refl (B : Nat) (w : World) (X : List Spot) (F W : Nat → Prop) : BelowW ⟨B, w, X, F, W⟩ w := ⟨rfl, rfl, rfl, Nat.le_refl _, fun _ _ _ => rfl⟩
theorem OwnW.of {ρ : Rho} {g : Mem} {β : Bs} (h : OwnW ρ g β) (hW : ∀ b, ¬ β.W b) : OwnB ρ g β.B := fun b hb => (h b hb).resolve_right (hW b)
/-- at one place, of which more blocks may be known that are written no more -/
structure SameSpot (s s' : Spot) : Prop where
  blk : s'.blk = s.blk
  base : s'.base = s.base
  ex : s'.ex = s.ex
  es : s'.es = s.es
  room : s'.room = s.room
  void : s'.void = s.void
  fz : ∀ b, s.fz b → s'.fz b
theorem SameSpot.refl (s : Spot) : SameSpot s s := ⟨rfl, rfl, rfl, rfl, rfl, rfl, fun _ h => h⟩
theorem SameSpot.trans {a b c : Spot} (h : SameSpot a b) (k : SameSpot b c) : SameSpot a c := ⟨k.blk.trans h.blk, k.base.trans h.base, k.ex.trans h.ex, k.es.trans h.es, k.room.trans h.room, k.void.trans h.void, fun x hx => k.fz x (h.fz x hx)⟩
theorem ObjR.spot {ρ : Rho} {o : AObj} {s s' : Spot} {w : World} (h : ObjR ρ o s w) (hs : SameSpot s s') : ObjR ρ o s' w := by
  obtain ⟨h1, h2, h3, h4, h5, h6, _⟩ := hs
  cases o <;> simp only [ObjR, h1, h2, h3, h4, h5, h6] at h ⊢ <;> exact h
/-- a frame and a world of what the evaluator has; what lay below B in w0 is as it was, and is not written -/
structure Rl (β : Bs) (ρ : Rho) (f : AFr) (st : ASt) (a : Act) (w : World) : Prop where
  fr : FrR ρ f a
  wr : WR ρ st.h.get w
  wf : Wf st
  fresh : FreshAll ρ st.next
  own : OwnW ρ st.h.get β
  bel : BelowW β w
  size : β.B ≤ w.heap.size
  ext : ∀ i s, β.X[i]? = some s → ∃ s', ρ i = some s' ∧ SameSpot s s'
  fzb : ∀ b, Frz ρ b → β.B ≤ b ∨ β.F b ∨ β.W b
theorem Rl.step {β : Bs} {w w' : World} {ρ ρ' : Rho} {f f' : AFr} {st st' : ASt} {a a' : Act} (h : Rl β ρ f st a w) (hl : LoS st st') (hf : FrR ρ' f' a') (hm : Mv ρ ρ' st.h.get st'.h.get st.next st'.next w w') : Rl β ρ' f' st' a' w' where
  fr := hf
  wr := hm.wr
  wf := hl.wf h.wf
  fresh a ha := by
    cases e : ρ' a with
    | none => rfl
    | some s =>
      have hn := hm.nx
      rcases hm.new a s e with e1 | e1
      · rw [h.fresh a (by omega)] at e1; cases e1
      · omega
  own b hb := by
    rcases hm.own b hb with h1 | h1
    · exact .inl (Nat.le_trans h.size h1)
    · exact h.own b h1
  bel := ⟨hm.os.trans h.bel.os, hm.tape.trans h.bel.tape, hm.output.trans h.bel.output, Nat.le_trans h.bel.size hm.size, fun k hk hW => (hm.frm k (Nat.lt_of_lt_of_le hk h.size) fun ho => by
    rcases h.own k ho with h1 | h1
    · omega
    · exact hW h1).trans (h.bel.block k hk hW)⟩
  size := Nat.le_trans h.size hm.size
  ext i s e := by obtain ⟨s', e1, e2⟩ := h.ext i s e; exact ⟨s', hm.ext i s' e1, e2⟩
  fzb b hb := by
    rcases hm.fzn b hb with h1 | h1 | h1
    · exact h.fzb b h1
    · exact .inl (Nat.le_trans h.size h1)
    · rcases h.own b h1 with h2 | h2
      · exact .inl h2
      · exact .inr (.inr h2)
theorem FreshAll.to {ρ : Rho} {n n' : Nat} (h : FreshAll ρ n) : Fresh ρ n n' := fun a h1 _ => h a h1
def PostJ (β : Bs) (K : Kt) (Q : Exit → Act → World → Prop) : Prop := ∀ x f' st' ρ' e' a' w', K x f' st' → XR ρ' x e' → Rl β ρ' f' st' a' w' → Q e' a' w'
/-- from wherever it starts so, the code ends as K says -/
def J (P : Program) (β : Bs) (c : Code) (f : AFr) (st : ASt) (K : Kt) : Prop := ∀ Q ρ a w, Rl β ρ f st a w → PostJ β K Q → c.wp P Q a w
theorem J.mono {P : Program} {β : Bs} {c : Code} {f : AFr} {st : ASt} {K K' : Kt} (h : J P β c f st K) (hk : ∀ x f st, K x f st → K' x f st) : J P β c f st K' :=
  fun Q ρ a w hr hp => h Q ρ a w hr fun x f' st' ρ' e' a' w' k => hp x f' st' ρ' e' a' w' (hk x f' st' k)

/-! ### truths that are looked at -/
theorem FrR.tell {ρ : Rho} {f : AFr} {a : Act} (h : FrR ρ f a) {d : Nat} {b : Bool} (hd : f.tmps.get d = some (.bool b)) : FrR ρ (f.tell d b) a := by
  refine ⟨h.size, fun t v e => ?_, h.defs⟩
  simp only [AFr.tell, set_get] at e
  by_cases ht : t = d
  · subst ht; rw [upd_same] at e; cases e; exact h.tmp t _ hd
  · rw [upd_ne _ _ ht] at e; exact h.tmp t v e
def guardJ (ops : List Oper) (f : AFr) (o : Oper) (K1 K0 : AFr → Prop) : Prop := match o.guard with
  | none => K1 f
  | some (j, want) => match ops[j]? with
    | some oj => match oj.dst with
      | some d => match f.tmps.get d with
        | some (.bool b) => cond want (br b (K1 (f.tell d true)) (K0 (f.tell d false))) (br b (K0 (f.tell d true)) (K1 (f.tell d false)))
        | some (.tuple _) => K0 f
        | _ => False
      | none => K0 f
    | none => K0 f
theorem guardJ_ok {ops : List Oper} {f : AFr} {o : Oper} {K1 K0 : AFr → Prop} {ρ : Rho} {a : Act} (hf : FrR ρ f a) (h : guardJ ops f o K1 K0) :
    ∃ f', FrR ρ f' a ∧ ((wantedA ops f o = some true ∧ K1 f') ∨ (wantedA ops f o = some false ∧ K0 f')) := by
  unfold guardJ at h
  unfold wantedA
  split at h
  · rename_i hg; rw [hg]; exact ⟨f, hf, .inl ⟨rfl, h⟩⟩
  · rename_i j want hg
    rw [hg]
    simp only
    split at h
    · rename_i oj hj
      rw [hj]
      simp only
      split at h
      · rename_i d hd
        rw [hd]
        simp only
        split at h
        · rename_i b hb
          rw [hb]
          cases want with
          | true =>
            rcases br_elim h with ⟨rfl, h⟩ | ⟨rfl, h⟩
            · exact ⟨_, hf.tell hb, .inl ⟨rfl, h⟩⟩
            · exact ⟨_, hf.tell hb, .inr ⟨rfl, h⟩⟩
          | false =>
            rcases br_elim h with ⟨rfl, h⟩ | ⟨rfl, h⟩
            · exact ⟨_, hf.tell hb, .inr ⟨rfl, h⟩⟩
            · exact ⟨_, hf.tell hb, .inl ⟨rfl, h⟩⟩
        · rename_i vs hb; rw [hb]; exact ⟨f, hf, .inr ⟨rfl, h⟩⟩
        · exact h.elim
      · rename_i hd; rw [hd]; exact ⟨f, hf, .inr ⟨rfl, h⟩⟩
    · rename_i hj; rw [hj]; exact ⟨f, hf, .inr ⟨rfl, h⟩⟩
def opsJ (P : Program) (sk : SelfK) (all : List Oper) : List Oper → AFr → ASt → Kt → Prop
  | [], f, st, K => K .normal f st
  | o :: rest, f, st, K => guardJ all f o
    (fun f => opK P sk f st o fun x f' st' => match x with
      | .normal => opsJ P sk all rest f' st' K
      | x => K x f' st')
    (fun f => opsJ P sk all rest (f.put o.dst undef) st K)
theorem opsJ_ok {P : Program} {self : Self} {sk : SelfK} (hs : SelfKS self sk) (hss : SelfS P self) {β : Bs} {all : List Oper} : ∀ {l : List Oper} {f : AFr} {st : ASt} {K : Kt}, opsJ P sk all l f st K →
    ∀ Q ρ a w, Rl β ρ f st a w → PostJ β K Q → wpList P all.toArray Q l a w := by
  intro l
  induction l with
  | nil => intro f st K h Q ρ a w hr hp; exact wpList_nil (hp _ _ _ ρ _ a w h rfl hr)
  | cons o l ih =>
    intro f st K h Q ρ a w hr hp
    unfold opsJ at h
    obtain ⟨f1, hf1, h1⟩ := guardJ_ok hr.fr h
    unfold wpList
    rcases h1 with ⟨h1, h2⟩ | ⟨h1, h2⟩
    · rw [wanted_rel (ρ := ρ) (a := a) h1 (fun t _ v hv => hr.fr.tmp t v hv), if_pos rfl]
      left
      obtain ⟨x, f', st', h3, h4⟩ := opK_ok hs h2
      obtain ⟨h5, h6⟩ := evOp_sound hss hr.wf h3
      have hr1 : Rl β ρ f1 st a w := ⟨hf1, hr.wr, hr.wf, hr.fresh, hr.own, hr.bel, hr.size, hr.ext, hr.fzb⟩
      refine h6 ρ w a hf1 hr.wr hr.fresh.to _ _ (fun hx ρ' a' w' hf' hm => ?_) (fun hx ρ' e' a' w' hxr hf' hm => ?_)
      · subst hx; exact ih h4 Q ρ' a' w' (hr1.step h5 hf' hm) hp
      · refine hp x f' st' ρ' e' a' w' ?_ hxr (hr1.step h5 hf' hm)
        cases x with
        | normal => exact absurd rfl hx
        | exit i => exact h4
        | ret => exact h4
        | panic v => exact h4
    · rw [wanted_rel (ρ := ρ) (a := a) h1 (fun t _ v hv => hr.fr.tmp t v hv), if_neg (by simp)]
      exact ih h2 Q ρ _ w ⟨hf1.put (.tuple _ _ rfl (fun i x y hx => by simp at hx)), hr.wr, hr.wf, hr.fresh, hr.own, hr.bel, hr.size, hr.ext, hr.fzb⟩ hp

/-! ### code -/
/-- a loop that is left to be shown: ex: what its end is said to be -/
structure LoopJ (P : Program) (β : Bs) (ex : Nat → Kt → Prop) (bid : Nat) (c : Code) (f : AFr) (st : ASt) : Prop where
  ok : ∀ K, ex bid K → J P β (.loop c) f st K
def iterJ (g : AFr → ASt → Kt → Prop) : Nat → AFr → ASt → Kt → Prop
  | 0, _, _, _ => False
  | n + 1, f, st, K => g f st fun x f' st' => match x with
    | .normal => iterJ g n f' st' K
    | x => K x f' st'
def codeJ (P : Program) (sk : SelfK) (β : Bs) (un : Nat → Nat) (cn : Nat → (AFr → ASt → Prop) → AFr → ASt → Prop) (ex : Nat → Kt → Prop) : Nat → Code → AFr → ASt → Kt → Prop
  | _, .skip, f, st, K => K .normal f st
  | _, .region _ ops draw, f, st, K => cond draw (cond (slotsOk ops.toList) (drawK P sk ops.toList (ops.toList.zip (ancL ops.toList [])) 0 [] f st K) False) (opsJ P sk ops.toList ops.toList f st K)
  | b, .seq c d, f, st, K => codeJ P sk β un cn ex b c f st fun x f' st' => match x with
    | .normal => codeJ P sk β un cn ex b d f' st' K
    | x => K x f' st'
  | b, .cond o c d, f, st, K => match o with
    | .tmp t => match f.tmps.get t with
      | some (.bool q) => br q (codeJ P sk β un cn ex b c (f.tell t true) st K) (codeJ P sk β un cn ex b d (f.tell t false) st K)
      | _ => False
    | o => match f.ev o with
      | .bool q => br q (codeJ P sk β un cn ex b c f st K) (codeJ P sk β un cn ex b d f st K)
      | _ => False
  | _, .block id c, f, st, K => codeJ P sk β un cn ex id c f st fun x f' st' => match x with
    | .exit i => cond (Nat.beq i id) (K .normal f' st') (K (.exit i) f' st')
    | x => K x f' st'
  | b, .loop c, f, st, K => cond (Nat.beq (un b) 0) (cn b (fun f st => LoopJ P β ex b c f st) f st ∧ ex b K) (iterJ (codeJ P sk β un cn ex b c) (un b) f st K)
  | _, .exit id, f, st, K => K (.exit id) f st
  | _, .ret, f, st, K => K .ret f st
  | _, _, _, _, _ => False
/-- a change of names that is one -/
def CnOk (β : Bs) (cn : Nat → (AFr → ASt → Prop) → AFr → ASt → Prop) : Prop := ∀ b K f st, cn b K f st → ∀ ρ a w, Rl β ρ f st a w → ∃ ρ' f' st', K f' st' ∧ Rl β ρ' f' st' a w
theorem codeJ_ok {P : Program} {self : Self} {sk : SelfK} (hs : SelfKS self sk) (hss : SelfS P self) (hm : P.follows .mixedOrders = true) {β : Bs} {un : Nat → Nat} {cn : Nat → (AFr → ASt → Prop) → AFr → ASt → Prop} {ex : Nat → Kt → Prop} (hcn : CnOk β cn) :
    ∀ {c : Code} {b : Nat} {f : AFr} {st : ASt} {K : Kt}, codeJ P sk β un cn ex b c f st K → J P β c f st K := by
  intro c
  induction c with
  | skip => intro b f st K h Q ρ a w hr hp; exact wp_skip (hp _ _ _ ρ _ a w h rfl hr)
  | region id ops draw =>
    intro b f st K h Q ρ a w hr hp
    simp only [codeJ] at h
    cases draw with
    | true =>
      simp only [cond_true] at h
      cases hb : slotsOk ops.toList with
      | false => rw [hb] at h; exact h.elim
      | true =>
        rw [hb] at h
        obtain ⟨x, f', st', h1, h2⟩ := drawK_ok hs h
        obtain ⟨rfl, e2, e3⟩ := draw_region (id := id) hss hm hr.wf hb h1
        have := e3 Q ρ w a hr.fr hr.wr hr.fresh.to (fun ρ' a' w' hf' hm' => hp _ f' st' ρ' _ a' w' h2 rfl (hr.step e2 hf' hm'))
        simpa using this
    | false =>
      simp only [cond_false] at h
      refine wp_region_list ?_
      have := opsJ_ok hs hss h Q ρ a w hr hp
      simpa using this
  | seq c d ihc ihd =>
    intro b f st K h Q ρ a w hr hp
    simp only [codeJ] at h
    refine wp_seq (ihc h _ ρ a w hr fun x f' st' ρ' e' a' w' hk hx hr' => ?_)
    cases x with
    | normal => cases hx; exact ihd hk Q ρ' a' w' hr' hp
    | exit i => cases hx; exact hp _ f' st' ρ' _ a' w' hk rfl hr'
    | ret => cases hx; exact hp _ f' st' ρ' _ a' w' hk rfl hr'
    | panic v => obtain ⟨v', rfl, hv⟩ := hx; exact hp _ f' st' ρ' _ a' w' hk ⟨v', rfl, hv⟩ hr'
  | cond o c d ihc ihd =>
    intro b f st K h Q ρ a w hr hp
    simp only [codeJ] at h
    split at h
    · rename_i t
      split at h
      · rename_i q hq
        have hfe : f.ev (.tmp t) = .bool q := by simp only [AFr.ev, AFr.tmp, hq]
        have hv := hr.fr.ev (.tmp t)
        rw [hfe] at hv
        generalize hA : a.eval (.tmp t) = A at hv
        cases hv
        refine wp_cond_split hA (fun e => ?_) (fun e => ?_)
        · subst e
          exact ihc h Q ρ a w ⟨hr.fr.tell hq, hr.wr, hr.wf, hr.fresh, hr.own, hr.bel, hr.size, hr.ext, hr.fzb⟩ hp
        · subst e
          exact ihd h Q ρ a w ⟨hr.fr.tell hq, hr.wr, hr.wf, hr.fresh, hr.own, hr.bel, hr.size, hr.ext, hr.fzb⟩ hp
      · exact h.elim
    · split at h
      · rename_i q hq
        have hv := hr.fr.ev o
        rw [hq] at hv
        generalize hA : a.eval o = A at hv
        cases hv
        refine wp_cond_split hA (fun e => ?_) (fun e => ?_)
        · subst e; exact ihc h Q ρ a w hr hp
        · subst e; exact ihd h Q ρ a w hr hp
      · exact h.elim
  | block id c ih =>
    intro b f st K h Q ρ a w hr hp
    simp only [codeJ] at h
    refine wp_block (ih h _ ρ a w hr fun x f' st' ρ' e' a' w' hk hx hr' => ?_)
    cases x with
    | normal => cases hx; exact hp _ f' st' ρ' _ a' w' hk rfl hr'
    | exit i =>
      cases hx
      simp only at hk
      cases hb : Nat.beq i id with
      | true =>
        rw [hb] at hk
        have := Nat.eq_of_beq_eq_true hb
        subst this
        simp only [Exit.inBlock, if_true]
        exact hp _ f' st' ρ' _ a' w' hk rfl hr'
      | false =>
        rw [hb] at hk
        simp only [Exit.inBlock, if_neg (Nat.ne_of_beq_eq_false hb)]
        exact hp _ f' st' ρ' _ a' w' hk rfl hr'
    | ret => cases hx; exact hp _ f' st' ρ' _ a' w' hk rfl hr'
    | panic v => obtain ⟨v', rfl, hv⟩ := hx; exact hp _ f' st' ρ' _ a' w' hk ⟨v', rfl, hv⟩ hr'
  | loop c ih =>
    intro b f st K h Q ρ a w hr hp
    simp only [codeJ] at h
    cases hb : Nat.beq (un b) 0 with
    | true =>
      rw [hb] at h
      obtain ⟨ρ', f', st', h1, h2⟩ := hcn b _ f st h.1 ρ a w hr
      exact h1.ok K h.2 Q ρ' a w h2 hp
    | false =>
      rw [hb] at h
      have key : ∀ (n : Nat) (f : AFr) (st : ASt), iterJ (codeJ P sk β un cn ex b c) n f st K → ∀ Q ρ a w, Rl β ρ f st a w → PostJ β K Q → Code.rounds P c Q n a w := by
        intro n
        induction n with
        | zero => intro f st h; exact h.elim
        | succ n ihn =>
          intro f st h Q ρ a w hr hp
          simp only [iterJ] at h
          rw [rounds_succ]
          refine ih h _ ρ a w hr fun x f' st' ρ' e' a' w' hk hx hr' => ?_
          cases x with
          | normal => cases hx; exact ihn _ _ hk Q ρ' a' w' hr' hp
          | exit i => cases hx; exact hp _ f' st' ρ' _ a' w' hk rfl hr'
          | ret => cases hx; exact hp _ f' st' ρ' _ a' w' hk rfl hr'
          | panic v => obtain ⟨v', rfl, hv⟩ := hx; exact hp _ f' st' ρ' _ a' w' hk ⟨v', rfl, hv⟩ hr'
      exact wp_loop_rounds _ (key _ f st h Q ρ a w hr hp)
  | exit id => intro b f st K h Q ρ a w hr hp; exact wp_exit (hp _ _ _ ρ _ a w h rfl hr)
  | ret => intro b f st K h Q ρ a w hr hp; exact wp_ret (hp _ _ _ ρ _ a w h rfl hr)
  | _ => intro b f st K h; exact False.elim h

/-! ### memory named anew -/
def idxL : List Nat → Nat → Nat → Option Nat
  | [], _, _ => none
  | x :: l, a, i => cond (Nat.beq x a) (some i) (idxL l a (i + 1))
theorem idxL_spec : ∀ {l : List Nat} {a i k : Nat}, idxL l a i = some k → i ≤ k ∧ l[k - i]? = some a := by
  intro l
  induction l with
  | nil => intro a i k h; cases h
  | cons x l ih =>
    intro a i k h
    unfold idxL at h
    cases hb : Nat.beq x a with
    | true =>
      rw [hb] at h; cases h
      have := Nat.eq_of_beq_eq_true hb
      subst this
      exact ⟨Nat.le_refl _, by simp⟩
    | false =>
      rw [hb] at h
      obtain ⟨h1, h2⟩ := ih h
      exact ⟨by omega, by rw [show k - i = (k - (i + 1)) + 1 by omega]; simpa using h2⟩
def renA (keep : List Nat) (a : Addr) (K : Addr → Value) : Value := match idxL keep a.block 0 with
  | some i => K ⟨i, a.off, a.spot⟩
  | none => bad
def ren (keep : List Nat) : Nat → Value → Value
  | _, .bool b => .bool b
  | _, .int k n => .int k n
  | _, .float k b => .float k b
  | _, .string s => .string s
  | _, .pointer none => .pointer none
  | _, .pointer (some a) => renA keep a fun a => .pointer (some a)
  | _, .slice none 0 0 => .slice none 0 0
  | _, .slice (some a) n c => renA keep a fun a => .slice (some a) n c
  | _, .map none => .map none
  | _, .map (some r) => match idxL keep r 0 with
    | some i => .map (some i)
    | none => bad
  | _, .nilFunc => .nilFunc
  | _, .nilIface => .nilIface
  | n + 1, .iface t v => .iface t (ren keep n v)
  | n + 1, .agg vs => .agg (vs.toList.map (ren keep n)).toArray
  | n + 1, .tuple vs => .tuple (vs.toList.map (ren keep n)).toArray
  | n + 1, .func fn a b => .func fn (a.toList.map (ren keep n)).toArray (b.toList.map (ren keep n)).toArray
  | _, _ => bad
/-- each name knows all that is written no more -/
def allFz (ρ : Rho) (s : Spot) : Spot := ⟨s.blk, s.base, s.ex, s.es, s.room, s.void, Frz ρ⟩
def keepR (keep : List Nat) (ρ : Rho) : Rho := fun i => match keep[i]? with
  | some a => match ρ a with
    | some s => some (allFz ρ s)
    | none => none
  | none => none
theorem keepR_some {keep : List Nat} {ρ : Rho} {i : Nat} {t : Spot} (h : keepR keep ρ i = some t) : ∃ a s, keep[i]? = some a ∧ ρ a = some s ∧ t = allFz ρ s := by
  unfold keepR at h
  split at h
  · rename_i a ha
    split at h
    · rename_i s hs; cases h; exact ⟨a, s, ha, hs, rfl⟩
    · cases h
  · cases h
theorem keepR_of {keep : List Nat} {ρ : Rho} {i a : Nat} {s : Spot} (h : keep[i]? = some a) (hs : ρ a = some s) : keepR keep ρ i = some (allFz ρ s) := by
  unfold keepR; rw [h]; simp only [hs]
theorem keepR_frz {keep : List Nat} {ρ : Rho} {b : Nat} (h : Frz (keepR keep ρ) b) : Frz ρ b := by
  obtain ⟨i, t, h1, h2⟩ := h
  obtain ⟨a, s, _, _, rfl⟩ := keepR_some h1
  exact h2
theorem keepR_frz_of {keep : List Nat} {ρ : Rho} {b i a : Nat} {s : Spot} (h : keep[i]? = some a) (hs : ρ a = some s) (hb : Frz ρ b) : Frz (keepR keep ρ) b := ⟨i, _, keepR_of h hs, hb⟩
theorem keepR_at {keep : List Nat} {ρ : Rho} {a i : Nat} {s : Spot} (h : idxL keep a 0 = some i) (hs : ρ a = some s) : keepR keep ρ i = some (allFz ρ s) := by
  obtain ⟨_, h2⟩ := idxL_spec h
  rw [Nat.sub_zero] at h2
  exact keepR_of h2 hs
theorem allFz_same {ρ : Rho} {a : Nat} {s : Spot} (h : ρ a = some s) : SameSpot s (allFz ρ s) := ⟨rfl, rfl, rfl, rfl, rfl, rfl, fun b hb => ⟨a, s, h, hb⟩⟩
theorem ren_VR {keep : List Nat} {ρ : Rho} : ∀ (n : Nat) {v v' : Value}, VR ρ v v' → VR (keepR keep ρ) (ren keep n v) v' := by
  intro n
  induction n with
  | zero =>
    intro v v' h
    cases h with
    | any => exact .any _
    | bool b => exact .bool b
    | int k n => exact .int k n
    | float k b => exact .float k b
    | nan k b b' h h' => exact .nan k b b' h h'
    | string s => exact .string s
    | ptrNil => exact .ptrNil
    | ptr a o s h =>
      simp only [ren, renA]
      split
      · rename_i i hi; exact .ptr i o (allFz ρ s) (keepR_at hi h)
      · exact .any _
    | ptrI a j i s h =>
      simp only [ren, renA]
      split
      · rename_i q hi; exact .ptrI q j i (allFz ρ s) (keepR_at hi h)
      · exact .any _
    | sliceNil => exact .sliceNil
    | slice a o s n c c' o' h hn hc hx hr ho =>
      simp only [ren, renA]
      split
      · rename_i i hi; exact .slice i o (allFz ρ s) n c c' o' (keepR_at hi h) hn hc hx hr ho
      · exact .any _
    | sliceI a i s n c c' o' h hn hc hr hv ho =>
      simp only [ren, renA]
      split
      · rename_i q hi; exact .sliceI q i (allFz ρ s) n c c' o' (keepR_at hi h) hn hc hr hv ho
      · exact .any _
    | sliceE a i c' x s h hx =>
      simp only [ren, renA]
      split
      · rename_i q hi; exact .sliceE q i c' x (allFz ρ s) (keepR_at hi h) hx
      · exact .any _
    | sliceN a i =>
      simp only [ren, renA]
      split
      · exact .sliceN _ _
      · exact .any _
    | sliceZ a i x =>
      simp only [ren, renA]
      split
      · exact .sliceZ _ _ _
      · exact .any _
    | sliceX a i x =>
      simp only [ren, renA]
      split
      · exact .sliceX _ _ _
      · exact .any _
    | mapNil => exact .mapNil
    | map a s h =>
      simp only [ren]
      split
      · rename_i i hi; exact .map i (allFz ρ s) (keepR_at hi h)
      · exact .any _
    | nilFunc => exact .nilFunc
    | nilIface => exact .nilIface
    | iface => exact .any _
    | agg => exact .any _
    | tuple => exact .any _
    | func => exact .any _
  | succ n ih =>
    intro v v' h
    have arr : ∀ (a a' : Array Value), a.size = a'.size → (∀ (i : Nat) (x y : Value), a[i]? = some x → a'[i]? = some y → VR ρ x y) → (a.toList.map (ren keep n)).toArray.size = a'.size ∧ ∀ (i : Nat) (x y : Value), (a.toList.map (ren keep n)).toArray[i]? = some x → a'[i]? = some y → VR (keepR keep ρ) x y := by
      intro a a' hs h
      refine ⟨by simp [hs], fun i x y hx hy => ?_⟩
      simp only [List.getElem?_toArray, List.getElem?_map, Array.getElem?_toList] at hx
      cases hq : a[i]? with
      | none => rw [hq] at hx; cases hx
      | some u => rw [hq] at hx; cases hx; exact ih (h i u y hq hy)
    cases h with
    | any => exact .any _
    | bool b => exact .bool b
    | int k n => exact .int k n
    | float k b => exact .float k b
    | nan k b b' h h' => exact .nan k b b' h h'
    | string s => exact .string s
    | ptrNil => exact .ptrNil
    | ptr a o s h =>
      simp only [ren, renA]
      split
      · rename_i i hi; exact .ptr i o (allFz ρ s) (keepR_at hi h)
      · exact .any _
    | ptrI a j i s h =>
      simp only [ren, renA]
      split
      · rename_i q hi; exact .ptrI q j i (allFz ρ s) (keepR_at hi h)
      · exact .any _
    | sliceNil => exact .sliceNil
    | slice a o s n c c' o' h hn hc hx hr ho =>
      simp only [ren, renA]
      split
      · rename_i i hi; exact .slice i o (allFz ρ s) n c c' o' (keepR_at hi h) hn hc hx hr ho
      · exact .any _
    | sliceI a i s n c c' o' h hn hc hr hv ho =>
      simp only [ren, renA]
      split
      · rename_i q hi; exact .sliceI q i (allFz ρ s) n c c' o' (keepR_at hi h) hn hc hr hv ho
      · exact .any _
    | sliceE a i c' x s h hx =>
      simp only [ren, renA]
      split
      · rename_i q hi; exact .sliceE q i c' x (allFz ρ s) (keepR_at hi h) hx
      · exact .any _
    | sliceN a i =>
      simp only [ren, renA]
      split
      · exact .sliceN _ _
      · exact .any _
    | sliceZ a i x =>
      simp only [ren, renA]
      split
      · exact .sliceZ _ _ _
      · exact .any _
    | sliceX a i x =>
      simp only [ren, renA]
      split
      · exact .sliceX _ _ _
      · exact .any _
    | mapNil => exact .mapNil
    | map a s h =>
      simp only [ren]
      split
      · rename_i i hi; exact .map i (allFz ρ s) (keepR_at hi h)
      · exact .any _
    | nilFunc => exact .nilFunc
    | nilIface => exact .nilIface
    | iface t v v' h => exact .iface t _ _ (ih h)
    | agg a a' ha h => obtain ⟨h1, h2⟩ := arr a a' ha h; exact .agg _ _ h1 h2
    | tuple a a' ha h => obtain ⟨h1, h2⟩ := arr a a' ha h; exact .tuple _ _ h1 h2
    | func fn a a' b b' ha hb h1 h2 =>
      obtain ⟨k1, k2⟩ := arr a a' ha h1
      obtain ⟨k3, k4⟩ := arr b b' hb h2
      exact .func fn _ _ _ _ k1 k3 k2 k4
def renO (keep : List Nat) : AObj → AObj
  | .cells cs ex es => .cells (cs.map (ren keep 4)) ex es
  | .old cs ex es => .old (cs.map (ren keep 4)) ex es
  | .row k es lo n elem => .row k es lo n elem
  | .map es clock => .map (es.map fun e => { e with val := ren keep 4 e.val }) clock
  | .omap kk vk es => .omap kk vk es
  | .iter s p => .iter s p
theorem renO_own {keep : List Nat} (o : AObj) : (renO keep o).isOwn = o.isOwn := by
  cases o with
  | row k => cases k <;> rfl
  | _ => rfl
theorem renO_R {keep : List Nat} {ρ : Rho} {o : AObj} {s : Spot} {w : World} (h : ObjR ρ o s w) (hz : ∀ b, Frz ρ b → Frz (keepR keep ρ) b) : ObjR (keepR keep ρ) (renO keep o) s w := by
  cases o with
  | cells cs ex es =>
    obtain ⟨h0, h1, h2, C, t, fr, h3, h4, h5, h6, h7⟩ := h
    refine ⟨h0, h1, h2, C, t, fr, h3, h4, h5, by simpa using h6, fun i x hx => ?_⟩
    simp only [List.getElem?_map] at hx
    cases hq : cs[i]? with
    | none => rw [hq] at hx; cases hx
    | some u => rw [hq] at hx; cases hx; obtain ⟨y, hy, hv⟩ := h7 i u hq; exact ⟨y, hy, ren_VR 4 hv⟩
  | old cs ex es =>
    obtain ⟨h0, h1, h2, hz1, C, t, fr, h3, h6, h7⟩ := h
    refine ⟨h0, h1, h2, hz _ hz1, C, t, fr, h3, by simpa using h6, fun i x hx => ?_⟩
    simp only [List.getElem?_map] at hx
    cases hq : cs[i]? with
    | none => rw [hq] at hx; cases hx
    | some u => rw [hq] at hx; cases hx; obtain ⟨y, hy, hv⟩ := h7 i u hq; exact ⟨y, hy, ren_VR 4 hv⟩
  | row own es lo n elem =>
    obtain ⟨k1, k2, k3, kz, k4⟩ := h
    refine ⟨k1, k2, k3, fun h1 h2 => hz _ (kz h1 h2), fun i h1 h2 j hj => ?_⟩
    obtain ⟨y, hy, h1c, hv⟩ := k4 i h1 h2 j hj
    exact ⟨y, hy, h1c, hv.kept hz (fun _ _ => rfl)⟩
  | map es clock =>
    obtain ⟨h0, E, h1, h2, h3⟩ := h
    refine ⟨h0, E, h1, by simpa using h2, fun i e he => ?_⟩
    simp only [List.getElem?_map] at he
    cases hq : es[i]? with
    | none => rw [hq] at he; cases he
    | some u =>
      rw [hq] at he; cases he
      obtain ⟨e', a1, a2, a3, a4, a5⟩ := h3 i u hq
      exact ⟨e', a1, a2, a3, a4, ren_VR 4 a5⟩
  | omap kk vk es => exact h
  | iter str pos => exact h
/-- objects under the numbers from 0 on -/
def mkT : List (Option AObj) → Nat → Tr AObj → Tr AObj
  | [], _, t => t
  | o :: l, i, t => mkT l (i + 1) (t.set i o)
def mkS (l : List (Option AObj)) : ASt := ⟨l.length, mkT l 0 .leaf, big⟩
theorem mkT_get : ∀ (l : List (Option AObj)) (i : Nat) (t : Tr AObj) (k : Nat), (mkT l i t).get k = if i ≤ k ∧ k < i + l.length then (l[k - i]?).join else t.get k := by
  intro l
  induction l with
  | nil => intro i t k; rw [if_neg (by simp)]; rfl
  | cons o l ih =>
    intro i t k
    simp only [mkT, ih, set_get]
    by_cases hk : k = i
    · subst hk
      rw [if_neg (by omega), upd_same, if_pos (by simp)]
      simp
    · rw [upd_ne _ _ hk]
      by_cases h2 : i + 1 ≤ k ∧ k < i + 1 + l.length
      · rw [if_pos h2, if_pos (by simp; omega), show k - i = (k - (i + 1)) + 1 by omega]
        simp
      · rw [if_neg h2, if_neg (by simp; omega)]
theorem mkS_get (l : List (Option AObj)) (k : Nat) : (mkS l).h.get k = (l[k]?).join := by
  simp only [mkS, mkT_get, Nat.sub_zero, Nat.zero_add, Nat.zero_le, true_and]
  split
  · rfl
  · rename_i h
    rw [List.getElem?_eq_none (by omega)]
    rfl
/-- slots of a frame -/
def mkFT : List (Nat × Value) → Tr Value → Tr Value
  | [], t => t
  | (s, v) :: l, t => mkFT l (t.set s (some v))
def mkF (n : Nat) (l : List (Nat × Value)) : AFr := ⟨n, mkFT l .leaf, []⟩
theorem mkFT_get : ∀ (l : List (Nat × Value)) (t : Tr Value) (k : Nat) (v : Value), (mkFT l t).get k = some v → (k, v) ∈ l ∨ t.get k = some v := by
  intro l
  induction l with
  | nil => intro t k v h; exact .inr h
  | cons x l ih =>
    obtain ⟨s, u⟩ := x
    intro t k v h
    simp only [mkFT] at h
    rcases ih _ k v h with h1 | h1
    · exact .inl (List.mem_cons_of_mem _ h1)
    · rw [set_get] at h1
      by_cases hk : k = s
      · subst hk; rw [upd_same] at h1; cases h1; exact .inl (by simp)
      · rw [upd_ne _ _ hk] at h1; exact .inr h1
def nodupB : List Nat → Bool
  | [] => true
  | x :: l => !(l.any (Nat.beq x)) && nodupB l
theorem nodupB_spec {l : List Nat} (h : nodupB l = true) : l.Nodup := by
  induction l with
  | nil => exact List.nodup_nil
  | cons x l ih =>
    simp only [nodupB, Bool.and_eq_true, Bool.not_eq_true'] at h
    refine List.nodup_cons.2 ⟨fun hm => ?_, ih h.2⟩
    have : l.any (Nat.beq x) = true := List.any_eq_true.2 ⟨x, hm, Nat.beq_refl x⟩
    rw [h.1] at this; cases this
def upto : Nat → Nat → List Nat
  | _, 0 => []
  | i, n + 1 => i :: upto (i + 1) n
theorem upto_get : ∀ (n i k : Nat), k < n → (upto i n)[k]? = some (i + k) := by
  intro n
  induction n with
  | zero => intro i k h; omega
  | succ n ih =>
    intro i k h
    cases k with
    | zero => rfl
    | succ k => simp only [upto, List.getElem?_cons_succ]; rw [ih (i + 1) k (by omega)]; congr 1; omega
theorem upto_len : ∀ (n i : Nat), (upto i n).length = n := by
  intro n
  induction n with
  | zero => intro i; rfl
  | succ n ih => intro i; simp [upto, ih]
def idsD (ds : List ADef) : List Nat := ds.flatMap fun d => d.cap.flatMap (idsV 4) ++ d.args.flatMap (idsV 4)
def renD (keep : List Nat) (d : ADef) : ADef := ⟨d.fn, d.cap.map (ren keep 4), d.args.map (ren keep 4)⟩
theorem ren_VRL {keep : List Nat} {ρ : Rho} {l l' : List Value} (h : VRL ρ l l') : VRL (keepR keep ρ) (l.map (ren keep 4)) l' := by
  refine ⟨by simpa using h.1, fun i x y hx hy => ?_⟩
  rw [List.getElem?_map] at hx
  cases hq : l[i]? with
  | none => rw [hq] at hx; cases hx
  | some u => rw [hq] at hx; cases hx; exact ren_VR 4 (h.2 i u y hq hy)
theorem renDs_R {keep : List Nat} {ρ : Rho} : ∀ {ds : List ADef} {ds' : List Deferred}, DefsR ρ ds ds' → DefsR (keepR keep ρ) (ds.map (renD keep)) ds'
  | [], [], _ => trivial
  | d :: l, d' :: l', h => by
    obtain ⟨⟨c, a, e, h1, h2⟩, h3⟩ := h
    exact ⟨⟨c, a, e, ren_VRL h1, ren_VRL h2⟩, renDs_R h3⟩
  | [], _ :: _, h => h.elim
  | _ :: _, [], h => h.elim
def mkFD (n : Nat) (l : List (Nat × Value)) (ds : List ADef) : AFr := ⟨n, mkFT l .leaf, ds⟩
def withD (n : Nat) (l : List (Nat × Value)) (ds : List ADef) (K : AFr → Prop) : Prop := match ds with
  | [] => K (mkF n l)
  | d :: ds => K (mkFD n l (d :: ds))
theorem withD_ok {n : Nat} {l : List (Nat × Value)} {ds : List ADef} {K : AFr → Prop} (h : withD n l ds K) : K (mkFD n l ds) := by cases ds <;> exact h
def keepOf (E : Nat) (slots : List Nat) (f : AFr) (st : ASt) : List Nat := upto 0 E ++ ((reach st.h 100000 ((slots.flatMap fun s => idsV 4 (f.tmp s)) ++ idsD f.defers) .leaf []).reverse.filter fun x => !(Nat.blt x E))
def objsOf (keep : List Nat) (st : ASt) : List (Option AObj) := keep.map fun a => (st.h.get a).map (renO keep)
def slotsOf (keep : List Nat) (f : AFr) : List Nat → List (Nat × Value)
  | [] => []
  | s :: l => match f.tmps.get s with
    | some v => (s, ren keep 4 v) :: slotsOf keep f l
    | none => slotsOf keep f l
theorem slotsOf_spec {keep : List Nat} {f : AFr} : ∀ {l : List Nat} {t : Nat} {v : Value}, (t, v) ∈ slotsOf keep f l → ∃ u, f.tmps.get t = some u ∧ v = ren keep 4 u := by
  intro l
  induction l with
  | nil => intro t v h; cases h
  | cons s l ih =>
    intro t v h
    unfold slotsOf at h
    split at h
    · rename_i u hu
      rcases List.mem_cons.1 h with h1 | h1
      · cases h1; exact ⟨u, hu, rfl⟩
      · exact ih h1
    · exact ih h
def isNil {α : Type} : List α → Bool
  | [] => true
  | _ => false
def forceS : List (Nat × Value) → (List (Nat × Value) → Prop) → Prop
  | [], C => C []
  | (s, v) :: l, C => forceV v fun v => forceS l fun l => C ((s, v) :: l)
theorem forceS_ok : ∀ {l : List (Nat × Value)} {C : List (Nat × Value) → Prop}, forceS l C → C l := by
  intro l
  induction l with
  | nil => intro C h; exact h
  | cons v l ih => intro C h; exact ih (forceV_ok h)
def forceO : List (Option AObj) → (List (Option AObj) → Prop) → Prop
  | [], C => C []
  | some (.cells cs ex es) :: l, C => forceL cs fun cs => forceO l fun l => C (some (.cells cs ex es) :: l)
  | some (.old cs ex es) :: l, C => forceL cs fun cs => forceO l fun l => C (some (.old cs ex es) :: l)
  | some (.row .mine es lo n g) :: l, C => forceO l fun l => C (some (.row .mine es lo n g) :: l)
  | some (.row .look es lo n g) :: l, C => forceO l fun l => C (some (.row .look es lo n g) :: l)
  | some (.row .still es lo n g) :: l, C => forceO l fun l => C (some (.row .still es lo n g) :: l)
  | o :: l, C => forceO l fun l => C (o :: l)
theorem forceO_ok : ∀ {l : List (Option AObj)} {C : List (Option AObj) → Prop}, forceO l C → C l := by
  intro l
  induction l with
  | nil => intro C h; exact h
  | cons o l ih =>
    intro C h
    unfold forceO at h
    split at h
    · rename_i heq; cases heq
    · rename_i heq; cases heq; have := forceL_ok h; exact ih this
    · rename_i heq; cases heq; have := forceL_ok h; exact ih this
    · rename_i heq; cases heq; exact ih h
    · rename_i heq; cases heq; exact ih h
    · rename_i heq; cases heq; exact ih h
    · rename_i heq; cases heq; exact ih h
/-- of a frame some slots, of memory what they reach, named anew -/
def canonK (E : Nat) (slots : List Nat) (K : AFr → ASt → Prop) (f : AFr) (st : ASt) : Prop :=
  cond (nodupB (keepOf E slots f st)) (forceS (slotsOf (keepOf E slots f st) f slots) fun l => forceO (objsOf (keepOf E slots f st) st) fun os => withD f.n l (f.defers.map (renD (keepOf E slots f st))) fun f => K f (mkS os)) False
theorem canonK_ok {E : Nat} {slots : List Nat} {K : AFr → ASt → Prop} {f : AFr} {st : ASt} (h : canonK E slots K f st) {β : Bs} (hE : β.X.length = E) {w : World} {ρ : Rho} {a : Act} (hr : Rl β ρ f st a w) :
    ∃ ρ' f' st', K f' st' ∧ Rl β ρ' f' st' a w := by
  unfold canonK at h
  have hpre : ∀ i, i < E → (keepOf E slots f st)[i]? = some i := by
    intro i hi
    unfold keepOf
    rw [List.getElem?_append_left (by rw [upto_len]; exact hi), upto_get E 0 i hi, Nat.zero_add]
  generalize keepOf E slots f st = keep at h hpre
  cases hb : nodupB keep with
  | false => rw [hb] at h; exact h.elim
  | true =>
    rw [hb] at h
    have h := withD_ok (forceO_ok (forceS_ok h))
    have hnd := nodupB_spec hb
    have hget : ∀ i o', (mkS (objsOf keep st)).h.get i = some o' → ∃ x o, keep[i]? = some x ∧ st.h.get x = some o ∧ o' = renO keep o := by
      intro i o' e
      rw [mkS_get] at e
      simp only [objsOf, List.getElem?_map] at e
      cases hk : keep[i]? with
      | none => rw [hk] at e; cases e
      | some x =>
        rw [hk] at e
        simp only [Option.map_some, Option.join_some] at e
        cases ho : st.h.get x with
        | none => rw [ho] at e; cases e
        | some o => rw [ho] at e; cases e; exact ⟨x, o, rfl, ho, rfl⟩
    have hρ : ∀ i x t, keep[i]? = some x → keepR keep ρ i = some t → ∃ s, ρ x = some s ∧ t = allFz ρ s := by
      intro i x t hx ht
      obtain ⟨a, s, h1, h2, h3⟩ := keepR_some ht
      rw [hx] at h1; cases h1
      exact ⟨s, h2, h3⟩
    have hown : ∀ b, Own (mkS (objsOf keep st)).h.get (keepR keep ρ) b → Own st.h.get ρ b := by
      intro b hb'
      obtain ⟨i, o', t, e1, e0, e2, e3, e4⟩ := hb'
      obtain ⟨x, o, h1, h2, rfl⟩ := hget i o' e1
      rw [renO_own] at e0
      obtain ⟨s, h3, rfl⟩ := hρ i x t h1 e2
      exact ⟨x, o, s, h2, e0, h3, e3, e4⟩
    have hlen : (mkS (objsOf keep st)).next = keep.length := by simp [mkS, objsOf]
    refine ⟨keepR keep ρ, _, _, h, ⟨hr.fr.size, fun t v e => ?_, ?_⟩, ⟨fun i s e => ?_, fun i o' e => ?_, fun i j oa ob sa sb ea eb eo ra rb va vb heq => ?_, fun b hb' => ?_, gl_own hr.wr hown⟩, fun i o' e => ?_, fun i hi => ?_, fun b hb' => hr.own b (hown b hb'), hr.bel, hr.size, fun i s e => ?_, fun b hb => hr.fzb b (keepR_frz hb)⟩
    · rcases mkFT_get _ _ t v e with h1 | h1
      · obtain ⟨u, hu, rfl⟩ := slotsOf_spec h1
        obtain ⟨u', h2, h3⟩ := hr.fr.tmp t u hu
        exact ⟨u', h2, ren_VR 4 h3⟩
      · cases h1
    · exact renDs_R hr.fr.defs
    · obtain ⟨x, s', _, h3, rfl⟩ := keepR_some e
      exact hr.wr.blk x s' h3
    · obtain ⟨x, o, h1, h2, rfl⟩ := hget i o' e
      obtain ⟨s, h3, h4⟩ := hr.wr.obj x o h2
      exact ⟨allFz ρ s, keepR_of h1 h3, (renO_R h4 (fun b hb => keepR_frz_of h1 h3 hb)).spot (allFz_same h3)⟩
    · obtain ⟨x, o, h1, h2, rfl⟩ := hget i oa ea
      obtain ⟨y, o2, h3, h4, rfl⟩ := hget j ob eb
      obtain ⟨sa', ra', rfl⟩ := hρ i x sa h1 ra
      obtain ⟨sb', rb', rfl⟩ := hρ j y sb h3 rb
      rw [renO_own, renO_own] at eo
      have hxy := hr.wr.inj x y o o2 sa' sb' h2 h4 eo ra' rb' va vb heq
      subst hxy
      have hi := (List.getElem?_eq_some_iff.1 h1)
      have hj := (List.getElem?_eq_some_iff.1 h3)
      obtain ⟨hi1, hi2⟩ := hi
      obtain ⟨hj1, hj2⟩ := hj
      have hpw := List.pairwise_iff_getElem.1 hnd
      rcases Nat.lt_trichotomy i j with hlt | hlt | hlt
      · exact absurd (hi2.trans hj2.symm) (hpw i j hi1 hj1 hlt)
      · exact hlt
      · exact absurd (hj2.trans hi2.symm) (hpw j i hj1 hi1 hlt)
    · have := hr.wr.fz b (keepR_frz hb')
      exact ⟨this.1, fun h => this.2 (hown b h)⟩
    · obtain ⟨x, o, h1, h2, rfl⟩ := hget i o' e
      rw [hlen]
      exact (List.getElem?_eq_some_iff.1 h1).1
    · rw [hlen] at hi
      unfold keepR
      rw [List.getElem?_eq_none hi]
    · have hi : i < E := by rw [← hE]; exact (List.getElem?_eq_some_iff.1 e).1
      obtain ⟨s', e1, e2⟩ := hr.ext i s e
      exact ⟨allFz ρ s', keepR_of (hpre i hi) e1, e2.trans (allFz_same e1)⟩

/-! ### functions and loops -/
def findLoop : Nat → Nat → Code → Option Code
  | b, cur, .loop c => cond (Nat.beq b cur) (some c) (findLoop b cur c)
  | b, cur, .seq c d => match findLoop b cur c with
    | some r => some r
    | none => findLoop b cur d
  | b, cur, .cond _ c d => match findLoop b cur c with
    | some r => some r
    | none => findLoop b cur d
  | b, _, .block id c => findLoop b id c
  | _, _, _ => none
/-- the loop of a function that stands in block b -/
def loopOf (P : Program) (g : FuncId) (b : Nat) : Code := match P.funcs.toList[g]? with
  | some fn => match fn.body with
    | some body => match findLoop b 0 body with
      | some c => c
      | none => .skip
    | none => .skip
  | none => .skip
def retJ (P : Program) (fn : Func) (K : Value → ASt → Prop) : Kt := fun x f st => match x with
  | .normal | .ret => cond (isNil f.defers) (rsK (resOf P fn st f) fun v => K v st) False
  | _ => False
/-- what has to hold of a function's body -/
def lawJ (P : Program) (C : Told) (fuel n : Nat) (β : Bs) (un : Nat → Nat) (cn : Nat → (AFr → ASt → Prop) → AFr → ASt → Prop) (ex : Nat → Kt → Prop) (g : FuncId) (args : List Value) (st : ASt) (K : Value → ASt → Prop) : Prop := match P.funcs.toList[g]? with
  | some fn => match fn.body with
    | some body => codeJ P (funK P C fuel n) β un cn ex 0 body ⟨maxN args.length fn.ntmps, args0 args 0 .leaf, []⟩ st (retJ P fn K)
    | none => False
  | none => False
/-- what has to hold of one round of a loop -/
def roundJ (P : Program) (C : Told) (fuel n : Nat) (β : Bs) (un : Nat → Nat) (cn : Nat → (AFr → ASt → Prop) → AFr → ASt → Prop) (ex : Nat → Kt → Prop) (g : FuncId) (b : Nat) (E : Nat) (lv : AX → List Nat) (f : AFr) (st : ASt) (N : Kt) : Prop :=
  codeJ P (funK P C fuel n) β un cn ex b (loopOf P g b) f st fun x f st => match x with
    | .panic _ => False
    | x => canonK E (lv x) (N x) f st
def cnOf (E : Nat) (lv : Nat → List Nat) : Nat → (AFr → ASt → Prop) → AFr → ASt → Prop := fun b K f st => canonK E (lv b) K f st
theorem cnOf_ok (β : Bs) {E : Nat} (hE : β.X.length = E) (lv : Nat → List Nat) : CnOk β (cnOf E lv) := fun b K f st h ρ a w hr => canonK_ok h hE hr
theorem roundJ_ok {P : Program} {C : Told} {fuel n : Nat} (hm : P.follows .mixedOrders = true) (hC : ToldS P C) {β : Bs} {E : Nat} (hE : β.X.length = E) {un : Nat → Nat} {lvs : Nat → List Nat} {ex : Nat → Kt → Prop} {g : FuncId} {b : Nat} {lv : AX → List Nat} {f : AFr} {st : ASt} {N : Kt}
    (h : roundJ P C fuel n β un (cnOf E lvs) ex g b E lv f st N) : J P β (loopOf P g b) f st fun x f st => N x f st := by
  have h1 := codeJ_ok (funK_ok P C fuel n) (evFunC_sound hm hC fuel n) hm (cnOf_ok β hE lvs) h
  intro Q ρ a w hr hp
  refine h1 Q ρ a w hr fun x f' st' ρ' e' a' w' hk hx hr' => ?_
  cases x with
  | panic v => exact hk.elim
  | normal => obtain ⟨ρ2, f2, st2, k1, k2⟩ := canonK_ok hk hE hr'; exact hp _ f2 st2 ρ2 e' a' w' k1 hx k2
  | exit i => obtain ⟨ρ2, f2, st2, k1, k2⟩ := canonK_ok hk hE hr'; exact hp _ f2 st2 ρ2 e' a' w' k1 hx k2
  | ret => obtain ⟨ρ2, f2, st2, k1, k2⟩ := canonK_ok hk hE hr'; exact hp _ f2 st2 ρ2 e' a' w' k1 hx k2
/-- what holds of one memory holds of the other -/
def Seen (β : Bs) (f : AFr) (st : ASt) (f1 : AFr) (st1 : ASt) : Prop := ∀ ρ a w, Rl β ρ f st a w → ∃ ρ1, Rl β ρ1 f1 st1 a w
theorem Seen.refl (β : Bs) (f : AFr) (st : ASt) : Seen β f st f st := fun ρ a w h => ⟨ρ, h⟩
theorem J.seen {P : Program} {β : Bs} {c : Code} {f f1 : AFr} {st st1 : ASt} {K : Kt} (hs : Seen β f st f1 st1) (h : J P β c f1 st1 K) : J P β c f st K := fun Q ρ a w hr hp => by
  obtain ⟨ρ1, h1⟩ := hs ρ a w hr
  exact h Q ρ1 a w h1 hp
/-- what lies below B, as it lay there at first -/
def ExtOk (β : Bs) (s : Spot) (o : AObj) : Prop := o.isOwn = false ∧ ∀ ρ w, (∀ b, s.fz b → Frz ρ b) → BelowW β w → ObjR ρ o s w
/-- the first rows may be seen otherwise -/
theorem Seen.row {β : Bs} {f : AFr} {o1 o2 : AObj} {l : List (Option AObj)} {i : Nat} {s : Spot} (hx : β.X[i]? = some s) (h2 : ExtOk β s o2) (hi : l[i]? = some (some o1)) (h1 : o1.isOwn = false) : Seen β f (mkS l) f (mkS (l.set i (some o2))) := by
  intro ρ a w hr
  have hil : i < l.length := (List.getElem?_eq_some_iff.1 hi).1
  have hget : ∀ k o, (mkS (l.set i (some o2))).h.get k = some o → (k = i ∧ o = o2) ∨ (k ≠ i ∧ (mkS l).h.get k = some o) := by
    intro k o e
    rw [mkS_get] at e
    by_cases hk : k = i
    · subst hk
      rw [List.getElem?_set_self hil] at e
      cases e; exact .inl ⟨rfl, rfl⟩
    · rw [List.getElem?_set_ne (Ne.symm hk)] at e
      exact .inr ⟨hk, by rw [mkS_get]; exact e⟩
  have hold : (mkS l).h.get i = some o1 := by rw [mkS_get, hi]; rfl
  have hn : (mkS (l.set i (some o2))).next = (mkS l).next := by simp [mkS]
  have hown : ∀ b, Own (mkS (l.set i (some o2))).h.get ρ b → Own (mkS l).h.get ρ b := fun b hb => by
    obtain ⟨k, o, t, e, e0, e2, e3⟩ := hb
    rcases hget k o e with ⟨rfl, rfl⟩ | ⟨hk, e1⟩
    · rw [h2.1] at e0; cases e0
    · exact ⟨k, o, t, e1, e0, e2, e3⟩
  refine ⟨ρ, ⟨hr.fr, ⟨hr.wr.blk, fun k o e => ?_, fun x y oa ob sa sb ea eb eo ra rb va vb heq => ?_, fun b hb => ⟨(hr.wr.fz b hb).1, fun hb2 => (hr.wr.fz b hb).2 (hown b hb2)⟩, gl_own hr.wr hown⟩, fun k o e => ?_, by rw [hn]; exact hr.fresh, fun b hb => hr.own b (hown b hb), hr.bel, hr.size, hr.ext, hr.fzb⟩⟩
  · rcases hget k o e with ⟨rfl, rfl⟩ | ⟨hk, e1⟩
    · obtain ⟨s', r1, r2⟩ := hr.ext _ _ hx
      exact ⟨s', r1, (h2.2 ρ w (fun b hb => ⟨_, s', r1, r2.fz b hb⟩) hr.bel).spot r2⟩
    · exact hr.wr.obj k o e1
  · have back : ∀ k o, (mkS (l.set i (some o2))).h.get k = some o → ∃ o', (mkS l).h.get k = some o' ∧ o'.isOwn = o.isOwn := by
      intro k o e
      rcases hget k o e with ⟨rfl, rfl⟩ | ⟨hk, e1⟩
      · exact ⟨o1, hold, by rw [h1, h2.1]⟩
      · exact ⟨o, e1, rfl⟩
    obtain ⟨oa', ea', qa⟩ := back x oa ea
    obtain ⟨ob', eb', qb⟩ := back y ob eb
    exact hr.wr.inj x y oa' ob' sa sb ea' eb' (by rw [qa, qb]; exact eo) ra rb va vb heq
  · rw [hn]
    rcases hget k o e with ⟨rfl, rfl⟩ | ⟨hk, e1⟩
    · exact hr.wf _ _ hold
    · exact hr.wf k o e1
/-- objects told otherwise -/
theorem Seen.objs {β : Bs} {f : AFr} {l l2 : List (Option AObj)} (hlen : l2.length = l.length) (h : ∀ (i : Nat) o2, l2[i]? = some (some o2) → ∃ o1, l[i]? = some (some o1) ∧ o1.isOwn = o2.isOwn ∧ ∀ ρ s w, ObjR ρ o1 s w → ObjR ρ o2 s w) : Seen β f (mkS l) f (mkS l2) := by
  intro ρ a w hr
  have hget : ∀ k o, (mkS l2).h.get k = some o → ∃ o1, (mkS l).h.get k = some o1 ∧ o1.isOwn = o.isOwn ∧ ∀ ρ s w, ObjR ρ o1 s w → ObjR ρ o s w := by
    intro k o e
    rw [mkS_get] at e
    have e' : l2[k]? = some (some o) := by
      cases hq : l2[k]? with
      | none => rw [hq] at e; cases e
      | some u => rw [hq] at e; cases u with
        | none => cases e
        | some v => cases e; rfl
    obtain ⟨o1, h1, h2, h3⟩ := h k o e'
    exact ⟨o1, by rw [mkS_get, h1]; rfl, h2, h3⟩
  have hn : (mkS l2).next = (mkS l).next := hlen
  have hown : ∀ b, Own (mkS l2).h.get ρ b → Own (mkS l).h.get ρ b := fun b hb => by
    obtain ⟨k, o, t, e, e0, e2, e3⟩ := hb
    obtain ⟨o1, h1, h2, _⟩ := hget k o e
    exact ⟨k, o1, t, h1, by rw [h2]; exact e0, e2, e3⟩
  refine ⟨ρ, ⟨hr.fr, ⟨hr.wr.blk, fun k o e => ?_, fun x y oa ob sa sb ea eb eo ra rb va vb heq => ?_, fun b hb => ⟨(hr.wr.fz b hb).1, fun hb2 => (hr.wr.fz b hb).2 (hown b hb2)⟩, gl_own hr.wr hown⟩, fun k o e => ?_, by rw [hn]; exact hr.fresh, fun b hb => hr.own b (hown b hb), hr.bel, hr.size, hr.ext, hr.fzb⟩⟩
  · obtain ⟨o1, h1, _, h3⟩ := hget k o e
    obtain ⟨s, e1, e2⟩ := hr.wr.obj k o1 h1
    exact ⟨s, e1, h3 _ _ _ e2⟩
  · obtain ⟨oa', ea', qa, _⟩ := hget x oa ea
    obtain ⟨ob', eb', qb, _⟩ := hget y ob eb
    exact hr.wr.inj x y oa' ob' sa sb ea' eb' (by rw [qa, qb]; exact eo) ra rb va vb heq
  · rw [hn]
    obtain ⟨o1, h1, _⟩ := hget k o e
    exact hr.wf k o1 h1
theorem TR.of_eq {w : World} {F : Nat → Prop} {t u : Td} {y : Value} (e : t = u) (h : TR w F t y) : TR w F u y := e ▸ h
theorem ObjR.row_congr {ρ : Rho} {k : Rk} {es lo n n' : Nat} {e e' : Nat → Nat → Td} {s : Spot} {w : World} (hn : n' = n) (he : ∀ i, lo ≤ i → i < n → ∀ j, j < es → e i j = e' i j) (h : ObjR ρ (.row k es lo n e) s w) : ObjR ρ (.row k es lo n' e') s w := by
  subst hn
  obtain ⟨k1, k2, k3, kz, k4⟩ := h
  refine ⟨k1, k2, k3, kz, fun i h1 h2 j hj => ?_⟩
  obtain ⟨y, y1, y2, y3⟩ := k4 i h1 h2 j hj
  exact ⟨y, y1, y2, y3.of_eq (he i h1 h2 j hj)⟩
/-- a loop by what holds ahead of each round -/
theorem loop_rule {P : Program} {β : Bs} {ex : Nat → Kt → Prop} {b : Nat} {c : Code} {α : Type} (I : α → Prop) (F : α → AFr) (S : α → ASt) (m : α → Nat)
    (h : ∀ p, I p → ∀ K, ex b K → J P β c (F p) (S p) fun x f st => (x = .normal ∧ ∃ p', I p' ∧ m p' < m p ∧ Seen β f st (F p') (S p')) ∨ (x ≠ .normal ∧ (∀ v, x ≠ .panic v) ∧ ∃ f1 st1, Seen β f st f1 st1 ∧ K x f1 st1)) : ∀ p, I p → LoopJ P β ex b c (F p) (S p) := by
  intro p hp
  refine ⟨fun K hK Q ρ a w hr hpost => ?_⟩
  have key : ∀ (k : Nat) (p : α), m p ≤ k → I p → ∀ ρ a w, Rl β ρ (F p) (S p) a w → Code.rounds P c Q (k + 1) a w := by
    intro k
    induction k with
    | zero =>
      intro p hk hp ρ a w hr
      rw [rounds_succ]
      refine h p hp K hK _ ρ a w hr fun x f' st' ρ' e' a' w' hx hxr hr' => ?_
      rcases hx with ⟨rfl, p', _, h2, _⟩ | ⟨hne, hnp, f1, st1, hsn, hx⟩
      · omega
      · obtain ⟨ρ2, hr2⟩ := hsn ρ' a' w' hr'
        have hxr2 : XR ρ2 x e' := by cases x with | normal => exact hxr | exit i => exact hxr | ret => exact hxr | panic v => exact absurd rfl (hnp v)
        have := hpost x f1 st1 ρ2 e' a' w' hx hxr2 hr2
        cases x with
        | normal => exact absurd rfl hne
        | exit i => cases hxr; exact this
        | ret => cases hxr; exact this
        | panic v => exact absurd rfl (hnp v)
    | succ k ih =>
      intro p hk hp ρ a w hr
      rw [rounds_succ]
      refine h p hp K hK _ ρ a w hr fun x f' st' ρ' e' a' w' hx hxr hr' => ?_
      rcases hx with ⟨rfl, p', h1, h2, h3⟩ | ⟨hne, hnp, f1, st1, hsn, hx⟩
      · cases hxr; obtain ⟨ρ2, hr2⟩ := h3 ρ' a' w' hr'; exact ih p' (by omega) h1 ρ2 a' w' hr2
      · obtain ⟨ρ2, hr2⟩ := hsn ρ' a' w' hr'
        have hxr2 : XR ρ2 x e' := by cases x with | normal => exact hxr | exit i => exact hxr | ret => exact hxr | panic v => exact absurd rfl (hnp v)
        have := hpost x f1 st1 ρ2 e' a' w' hx hxr2 hr2
        cases x with
        | normal => exact absurd rfl hne
        | exit i => cases hxr; exact this
        | ret => cases hxr; exact this
        | panic v => exact absurd rfl (hnp v)
  exact wp_loop_rounds _ (key (m p) p (Nat.le_refl _) hp ρ a w hr)
/-- what has to hold of a function's body, whatever is deferred, whether it panics or not -/
def lawE (P : Program) (C : Told) (fuel n : Nat) (β : Bs) (un : Nat → Nat) (cn : Nat → (AFr → ASt → Prop) → AFr → ASt → Prop) (ex : Nat → Kt → Prop) (g : FuncId) (args : List Value) (st : ASt) (K : AE → ASt → Prop) : Prop := match P.funcs.toList[g]? with
  | some fn => match fn.body with
    | some body => codeJ P (funK P C fuel n) β un cn ex 0 body ⟨maxN args.length fn.ntmps, args0 args 0 .leaf, []⟩ st (endK P (evDK P (funK P C fuel n) fuel) fn K)
    | none => False
  | none => False
/-- what is known behind a call -/
structure PostE (β : Bs) (K : AE → ASt → Prop) (e : Ending) (w' : World) : Prop where
  ex : ∃ r st' ρ', EndR ρ' r e ∧ K r st' ∧ WR ρ' st'.h.get w' ∧ Wf st' ∧ FreshAll ρ' st'.next ∧ OwnW ρ' st'.h.get β ∧ (∀ b, Frz ρ' b → β.B ≤ b ∨ β.F b ∨ β.W b) ∧ ∀ i s, β.X[i]? = some s → ∃ s', ρ' i = some s' ∧ SameSpot s s'
  bel : BelowW β w'
theorem lawE_post {P : Program} {C : Told} {fuel n : Nat} (hm : P.follows .mixedOrders = true) (hC : ToldS P C) {E : Nat} {un : Nat → Nat} {lvs : Nat → List Nat} {ex : Nat → Kt → Prop} {g : FuncId} {args : List Value} {st : ASt} {w : World} {ρ : Rho} {X : List Spot} {F W : Nat → Prop} {args' : Array Value} {K : AE → ASt → Prop}
    (hE : X.length = E) (hX : ∀ i s, X[i]? = some s → ∃ s', ρ i = some s' ∧ SameSpot s s') (hv : VRL ρ args args'.toList) (hw : WR ρ st.h.get w) (hwf : Wf st) (hfr : FreshAll ρ st.next) (how : OwnW ρ st.h.get ⟨w.heap.size, w, X, F, W⟩) (hF : ∀ b, Frz ρ b → F b)
    (h : lawE P C fuel n ⟨w.heap.size, w, X, F, W⟩ un (cnOf E lvs) ex g args st K) : Calls P g args' w (PostE ⟨w.heap.size, w, X, F, W⟩ K) := by
  unfold lawE at h
  split at h
  · rename_i fn hfn
    have hfn' : P.funcs[g]? = some fn := by simpa using hfn
    split at h
    · rename_i body hb
      have h1 := codeJ_ok (funK_ok P C fuel n) (evFunC_sound hm hC fuel n) hm (cnOf_ok ⟨w.heap.size, w, X, F, W⟩ hE lvs) h
      refine calls_of_wp_defers hfn' hb (h1 _ ρ _ w ⟨enter_rel fn.ntmps hv, hw, hwf, hfr, how, BelowW.refl _ _ _ _ _, Nat.le_refl _, hX, fun b hb => .inr (.inl (hF b hb))⟩ fun x f st' ρ' e a' w' hk hx hr => ?_)
      have fin : ∀ (p : Option Value) (u : FrameMode), (match f.defers with
          | [] => match p with
            | none => rsK (resOf P fn st' f) fun v => K (.returned v) st'
            | some v => K (.panicked v) st'
          | ds => leaveK P (evDK P (funK P C fuel n) fuel) fn f ds p st' K : Prop) → ModeR ρ' p u → Leaves P fn a'.tmps (PostE ⟨w.heap.size, w, X, F, W⟩ K) a'.defers u w' := by
        intro p u hk hmode
        have hk' : leaveK P (evDK P (funK P C fuel n) fuel) fn f f.defers p st' K := by
          cases hd : f.defers with
          | nil => rw [hd] at hk; cases p <;> exact hk
          | cons d ds => rw [hd] at hk; exact hk
        obtain ⟨r, st2, h3, h4⟩ := leaveK_ok (fun g args p st K h => evDK_ok (funK_ok P C fuel n) h) hk'
        obtain ⟨k3, k4⟩ := leave_sound (evD_sound (evFunC_sound hm hC fuel n) hm fuel) _ p st' r st2 hr.wf h3
        refine k4 _ ρ' w' a'.tmps a'.defers u hr.fr.defs (fr_bare hr.fr) hr.wr hr.fresh.to hmode fun ρ2 e2 w2 he2 hm2 => ?_
        have hr2 : Rl ⟨w.heap.size, w, X, F, W⟩ ρ2 (mkF 0 []) st2 ⟨#[], []⟩ w2 := hr.step k3 ⟨rfl, (fun t v e => by cases e), trivial⟩ hm2
        exact ⟨⟨r, st2, ρ2, he2, h4, hr2.wr, hr2.wf, hr2.fresh, hr2.own, hr2.fzb, hr2.ext⟩, hr2.bel⟩
      cases x with
      | normal => cases hx; exact fin none .returning (by simp only [endK] at hk; cases hd : f.defers <;> rw [hd] at hk <;> exact hk) rfl
      | ret => cases hx; exact fin none .returning (by simp only [endK] at hk; cases hd : f.defers <;> rw [hd] at hk <;> exact hk) rfl
      | exit i => exact hk.elim
      | panic v => obtain ⟨v', rfl, hv'⟩ := hx; exact fin (some v) _ (by simp only [endK] at hk; cases hd : f.defers <;> rw [hd] at hk <;> exact hk) ⟨v', rfl, hv'⟩
    · exact h.elim
  · exact h.elim
def trueV (v : Value) (_ : ASt) : Prop := match v with
  | .bool b => need b True
  | _ => False
theorem law_true {P : Program} {C : Told} {fuel n : Nat} (hm : P.follows .mixedOrders = true) (hC : ToldS P C) {E : Nat} {un : Nat → Nat} {lvs : Nat → List Nat} {ex : Nat → Kt → Prop} {g : FuncId} {args : List Value} {st : ASt} {w : World} {ρ : Rho} {X : List Spot} {F : Nat → Prop} {args' : Array Value}
    (hE : X.length = E) (hX : ∀ i s, X[i]? = some s → ∃ s', ρ i = some s' ∧ SameSpot s s') (hv : VRL ρ args args'.toList) (hw : WR ρ st.h.get w) (hwf : Wf st) (hfr : FreshAll ρ st.next) (how : OwnB ρ st.h.get w.heap.size) (hF : ∀ b, Frz ρ b → F b)
    (h : lawJ P C fuel n ⟨w.heap.size, w, X, F, noW⟩ un (cnOf E lvs) ex g args st trueV) : Calls P g args' w fun e w' => e = .returned (.bool true) ∧ Below w.heap.size w w' := by
  unfold lawJ at h
  split at h
  · rename_i fn hfn
    have hfn' : P.funcs[g]? = some fn := by simpa using hfn
    split at h
    · rename_i body hb
      have h1 := codeJ_ok (funK_ok P C fuel n) (evFunC_sound hm hC fuel n) hm (cnOf_ok ⟨w.heap.size, w, X, F, noW⟩ hE lvs) h
      refine calls_of_wp hfn' hb (h1 _ ρ _ w ⟨enter_rel fn.ntmps hv, hw, hwf, hfr, (fun b hb => .inl (how b hb)), BelowW.refl _ _ _ _ _, Nat.le_refl _, hX, fun b hb => .inr (.inl (hF b hb))⟩ fun x f st' ρ' e a' w' hk hx hr => ?_)
      have main : (x = .normal ∨ x = .ret) → cond (isNil f.defers) (rsK (resOf P fn st' f) fun v => trueV v st') False → bodyPost P fn (fun e w' => e = .returned (.bool true) ∧ Below w.heap.size w w') e a' w' := by
        intro hxx hk
        cases hd : f.defers with
        | cons d l => rw [hd] at hk; exact hk.elim
        | nil =>
          rw [hd] at hk
          obtain ⟨v, h2, h3⟩ := rsK_elim hk
          obtain ⟨v', m1, m2⟩ := resOf_run (fr_bare hr.fr) hr.wr h2
          have hdn : a'.defers = [] := by have := hr.fr.defs; rw [hd] at this; exact defs_nil this
          have hres : Ending.returned v' = .returned (.bool true) := by
            unfold trueV at h3
            split at h3
            · obtain ⟨hb, _⟩ := need_elim h3
              subst hb
              cases m2; rfl
            · exact h3.elim
          rcases hxx with rfl | rfl <;> cases hx <;> exact ⟨hdn, v', m1, hres, hr.bel.of (fun _ h => h)⟩
      cases x with
      | normal => exact main (.inl rfl) hk
      | ret => exact main (.inr rfl) hk
      | exit i => exact hk.elim
      | panic v => exact hk.elim
    · exact h.elim
  · exact h.elim
theorem law_scal {P : Program} {C : Told} {fuel n : Nat} (hm : P.follows .mixedOrders = true) (hC : ToldS P C) {un : Nat → Nat} {lvs : Nat → List Nat} {ex : Nat → Kt → Prop} {g : FuncId} {args : List Value} (ha : args.all refl1 = true) (w : World)
    (h : ∀ β : Bs, β.X = [] → lawJ P C fuel n β un (cnOf 0 lvs) ex g args st0 trueV) (hgl : GlA w := by first | assumption | exact fun b hb => by cases hb) : Calls P g args.toArray w fun e w' => e = .returned (.bool true) ∧ Below w.heap.size w w' := by
  refine law_true (ρ := fun _ => none) (X := []) (F := nofz) hm hC rfl (fun i s e => by cases e) ⟨by simp, fun i x y hx hy => ?_⟩ (WR.empty hgl) (fun x o e => by cases e) (fun _ _ => rfl) (fun b ⟨a, o, s, e, _⟩ => by cases e) (fun b hb => by obtain ⟨a, s, e, _⟩ := hb; cases e) (h _ rfl)
  have hy' : args[i]? = some y := by simpa using hy
  rw [hx] at hy'; cases hy'
  rw [List.all_eq_true] at ha
  exact refl1_VR (ha x (List.mem_of_getElem? hx))
instance br.dec {b : Bool} {K1 K2 : Prop} [d1 : Decidable K1] [d2 : Decidable K2] : Decidable (br b K1 K2) := match b with
  | true => d1
  | false => d2
instance need.dec {b : Bool} {K : Prop} [d : Decidable K] : Decidable (need b K) := match b with
  | true => d
  | false => inferInstanceAs (Decidable False)
end Go.Proofs.YtpogcoolgnjejaaGreatDoor.Ev
/-
  Code along a way that is told, where values are left open: at the truths of some slots the way says which it is, and that has to hold.
-/
set_option linter.unusedVariables false
set_option linter.unusedSimpArgs false
namespace Go.Proofs.YtpogcoolgnjejaaGreatDoor.Ev
open Go Go.RowKit

/-- elements of which nothing is kept -/
def dustE : Nat → Nat → Td := fun _ _ => .sc bad
abbrev KtO := AX → AFr → ASt → List Bool → Prop
def memT (t : Nat) : List Nat → Bool
  | [] => false
  | x :: l => cond (Nat.beq x t) true (memT t l)
/-- that a truth is so -/
def beO (q b : Bool) (K : Prop) : Prop := match b with
  | true => need q K
  | false => need (!q) K
theorem beO_elim {q b : Bool} {K : Prop} (h : beO q b K) : q = b ∧ K := by
  cases b with
  | true => exact need_elim h
  | false =>
    obtain ⟨h1, h2⟩ := need_elim h
    exact ⟨by simpa using h1, h2⟩
def iterKO (g : AFr → ASt → List Bool → KtO → Prop) : Nat → AFr → ASt → List Bool → KtO → Prop
  | 0, _, _, _, _ => False
  | n + 1, f, st, os, K => g f st os fun x f' st' os' => match x with
    | .normal => iterKO g n f' st' os' K
    | x => K x f' st' os'
def codeKO (P : Program) (sk : SelfK) (fuel : Nat) (T : List Nat) : Code → AFr → ASt → List Bool → KtO → Prop
  | .skip, f, st, os, K => K .normal f st os
  | .region _ ops draw, f, st, os, K => cond draw (cond (slotsOk ops.toList) (drawK P sk ops.toList (ops.toList.zip (ancL ops.toList [])) 0 [] f st fun x f' st' => K x f' st' os) False) (opsK P sk ops.toList ops.toList f st fun x f' st' => K x f' st' os)
  | .seq a b, f, st, os, K => codeKO P sk fuel T a f st os fun x f' st' os' => match x with
    | .normal => codeKO P sk fuel T b f' st' os' K
    | x => K x f' st' os'
  | .cond c a b, f, st, os, K => match c with
    | .tmp t => match f.tmps.get t with
      | some (.bool q) => cond (memT t T)
        (match os with
          | true :: os' => beO q true (codeKO P sk fuel T a (f.tell t true) st os' K)
          | false :: os' => beO q false (codeKO P sk fuel T b (f.tell t false) st os' K)
          | [] => False)
        (br q (codeKO P sk fuel T a (f.tell t true) st os K) (codeKO P sk fuel T b (f.tell t false) st os K))
      | _ => False
    | c => match f.ev c with
      | .bool q => br q (codeKO P sk fuel T a f st os K) (codeKO P sk fuel T b f st os K)
      | _ => False
  | .block id c, f, st, os, K => codeKO P sk fuel T c f st os fun x f' st' os' => match x with
    | .exit i => cond (Nat.beq i id) (K .normal f' st' os') (K (.exit i) f' st' os')
    | x => K x f' st' os'
  | .loop c, f, st, os, K => iterKO (codeKO P sk fuel T c) fuel f st os K
  | .exit id, f, st, os, K => K (.exit id) f st os
  | .ret, f, st, os, K => K .ret f st os
  | _, _, _, _, _ => False
theorem codeKO_ok {P : Program} {self : Self} {sk : SelfK} (hs : SelfKS self sk) {fuel : Nat} {T : List Nat} : ∀ {c : Code} {f : AFr} {st : ASt} {os : List Bool} {K : KtO}, codeKO P sk fuel T c f st os K → ∃ x f' st' os', evCode P self fuel c f st = .ok (x, f', st') ∧ K x f' st' os' := by
  intro c
  induction c with
  | skip => intro f st os K h; exact ⟨_, _, _, _, rfl, h⟩
  | region id ops draw =>
    intro f st os K h
    simp only [codeKO] at h
    simp only [evCode, evRegion]
    cases draw with
    | true =>
      simp only [cond_true] at h ⊢
      cases hb : slotsOk ops.toList with
      | true =>
        rw [hb] at h
        obtain ⟨x, f', st', h1, h2⟩ := drawK_ok hs h
        exact ⟨x, f', st', os, h1, h2⟩
      | false => rw [hb] at h; exact h.elim
    | false =>
      obtain ⟨x, f', st', h1, h2⟩ := opsK_ok hs h
      exact ⟨x, f', st', os, h1, h2⟩
  | seq a b iha ihb =>
    intro f st os K h
    simp only [codeKO] at h
    obtain ⟨x, f', st', os', h1, h2⟩ := iha h
    simp only [evCode, h1]
    cases x with
    | normal => exact ihb h2
    | exit i => exact ⟨_, _, _, _, rfl, h2⟩
    | ret => exact ⟨_, _, _, _, rfl, h2⟩
    | panic v => exact ⟨_, _, _, _, rfl, h2⟩
  | cond c a b iha ihb =>
    intro f st os K h
    simp only [codeKO] at h
    simp only [evCode]
    split at h
    · rename_i t
      split at h
      · rename_i q hq
        have hfe : f.ev (.tmp t) = .bool q := by simp only [AFr.ev, AFr.tmp, hq]
        cases hT : memT t T with
        | true =>
          rw [hT] at h
          simp only [cond_true] at h
          split at h
          · obtain ⟨rfl, h⟩ := beO_elim h
            rw [AFr.tell_eq hq] at h; simp only [hfe]; exact iha h
          · obtain ⟨rfl, h⟩ := beO_elim h
            rw [AFr.tell_eq hq] at h; simp only [hfe]; exact ihb h
          · exact h.elim
        | false =>
          rw [hT] at h
          simp only [cond_false] at h
          rcases br_elim h with ⟨rfl, h⟩ | ⟨rfl, h⟩
          · rw [AFr.tell_eq hq] at h; simp only [hfe]; exact iha h
          · rw [AFr.tell_eq hq] at h; simp only [hfe]; exact ihb h
      · exact h.elim
    · split at h
      · rename_i q hq
        rcases br_elim h with ⟨rfl, h⟩ | ⟨rfl, h⟩
        · simp only [hq]; exact iha h
        · simp only [hq]; exact ihb h
      · exact h.elim
  | block id c ih =>
    intro f st os K h
    simp only [codeKO] at h
    obtain ⟨x, f', st', os', h1, h2⟩ := ih h
    simp only [evCode, h1]
    cases x with
    | normal => exact ⟨_, _, _, _, rfl, h2⟩
    | exit i =>
      simp only at h2 ⊢
      cases hb : Nat.beq i id with
      | true => rw [hb] at h2; exact ⟨_, _, _, _, rfl, h2⟩
      | false => rw [hb] at h2; exact ⟨_, _, _, _, rfl, h2⟩
    | ret => exact ⟨_, _, _, _, rfl, h2⟩
    | panic v => exact ⟨_, _, _, _, rfl, h2⟩
  | loop c ih =>
    intro f st os K h
    simp only [codeKO] at h
    simp only [evCode]
    have key : ∀ (n : Nat) (f : AFr) (st : ASt) (os : List Bool), iterKO (codeKO P sk fuel T c) n f st os K → ∃ x f' st' os', iter (evCode P self fuel c) n f st = .ok (x, f', st') ∧ K x f' st' os' := by
      intro n
      induction n with
      | zero => intro f st os h; exact h.elim
      | succ n ihn =>
        intro f st os h
        simp only [iterKO] at h
        obtain ⟨x, f', st', os', h1, h2⟩ := ih h
        simp only [iter, h1]
        cases x with
        | normal => exact ihn _ _ _ h2
        | exit i => exact ⟨_, _, _, _, rfl, h2⟩
        | ret => exact ⟨_, _, _, _, rfl, h2⟩
        | panic v => exact ⟨_, _, _, _, rfl, h2⟩
    exact key fuel f st os h
  | exit id => intro f st os K h; exact ⟨_, _, _, _, rfl, h⟩
  | ret => intro f st os K h; exact ⟨_, _, _, _, rfl, h⟩
  | _ => intros; rename_i h; exact h.elim
/-- a function's own code along a way -/
def funKO (P : Program) (C : Told) (fuel n : Nat) (T : List Nat) (os : List Bool) (g : FuncId) (args : List Value) (st : ASt) (K : AE → ASt → Prop) : Prop := match P.funcs.toList[g]? with
  | some fn => match fn.body with
    | some body => codeKO P (funK P C fuel n) fuel T body ⟨maxN args.length fn.ntmps, args0 args 0 .leaf, []⟩ st os fun x f st _ => endK P (evDK P (funK P C fuel n) fuel) fn K x f st
    | none => False
  | none => False
theorem funKO_ok {P : Program} {C : Told} {fuel n : Nat} {T : List Nat} {os : List Bool} {g : FuncId} {args : List Value} {st : ASt} {K : AE → ASt → Prop} (h : funKO P C fuel n T os g args st K) : ∃ r st', evFun1 P fuel (evFunC P C fuel n) g args st = .ok (r, st') ∧ K r st' := by
  have ih := funK_ok P C fuel n
  simp only [funKO] at h
  simp only [evFun1]
  split at h
  · rename_i fn hfn
    rw [hfn]
    simp only
    split at h
    · rename_i body hb
      rw [hb]
      simp only
      obtain ⟨x, f', st', os', h1, h2⟩ := codeKO_ok ih h
      rw [h1]
      have main : ∀ (p : Option Value), (∀ v, p = some v → f'.defers ≠ []) → (match f'.defers with
          | [] => rsK (resOf P fn st' f') fun v => K (.returned v) st'
          | ds => leaveK P (evDK P (funK P C fuel n) fuel) fn f' ds p st' K : Prop) →
          ∃ r st'', (match f'.defers with
            | [] => (resOf P fn st' f').bnd fun v => .ok (.returned v, st')
            | ds => leave P (evD P (evFunC P C fuel n) fuel) fn f' ds p st' : Rs (AE × ASt)) = .ok (r, st'') ∧ K r st'' := by
        intro p hp h
        split at h
        · obtain ⟨v, h3, h4⟩ := rsK_elim h
          exact ⟨_, _, by rw [h3]; rfl, h4⟩
        · exact leaveK_ok (fun g args p st K h => evDK_ok ih h) h
      cases x with
      | normal => exact main none (fun v e => by cases e) h2
      | ret => exact main none (fun v e => by cases e) h2
      | exit i => exact h2.elim
      | panic v =>
        simp only [endK] at h2
        simp only
        cases hd : f'.defers with
        | nil =>
          simp only [hd] at h2 ⊢
          exact ⟨_, _, rfl, h2⟩
        | cons d ds =>
          simp only [hd] at h2 ⊢
          exact leaveK_ok (fun g args p st K h => evDK_ok ih h) h2
    · exact h.elim
  · exact h.elim
def asC (P : Program) (C : Told) (g : FuncId) (T : List Nat) (os : List Bool) : TCon where
  run args st := evFun1 P 100000 (evFunC P C 100000 90) g args st
  sym args st K := funKO P C 100000 90 T os g args st K
  ok args st K h := funKO_ok h
/-- a function's own code, along a way -/
def Told.asw (C : Told) (P : Program) (g : FuncId) (T : List Nat) (os : List Bool) : Told := fun f => cond (Nat.beq f g) (some (asC P C g T os)) (C f)
theorem Told.asw_ok {P : Program} {C : Told} (hm : P.follows .mixedOrders = true) (hC : ToldS P C) {g : FuncId} {T : List Nat} {os : List Bool} : ToldS P (C.asw P g T os) := by
  intro f c hc
  unfold Told.asw at hc
  cases hb : Nat.beq f g with
  | true =>
    rw [hb] at hc
    have := Nat.eq_of_beq_eq_true hb
    subst this
    cases hc
    intro args st r st' hwf hr
    exact evFun1_sound hm 100000 (evFunC_sound hm hC 100000 90) f args st r st' hwf hr
  | false => rw [hb] at hc; exact hC f c hc
/-- what has to hold of a piece of code along a way, memory named anew behind it -/
def pieceO (P : Program) (C : Told) (E : Nat) (lv : AX → List Nat) (T : List Nat) (os : List Bool) (c : Code) (f : AFr) (st : ASt) (N : Kt) : Prop :=
  codeKO P (funK P C 100000 90) 100000 T c f st os fun x f st _ => match x with
    | .panic _ => False
    | x => canonK E (lv x) (N x) f st
theorem pieceO_ok {P : Program} {C : Told} (hm : P.follows .mixedOrders = true) (hC : ToldS P C) {β : Bs} {E : Nat} (hE : β.X.length = E) {lv : AX → List Nat} {T : List Nat} {os : List Bool} {c : Code} {f : AFr} {st : ASt} {N : Kt} (h : pieceO P C E lv T os c f st N) : J P β c f st N := by
  intro Q ρ a w hr hp
  obtain ⟨x, f', st', os', h1, h2⟩ := codeKO_ok (funK_ok P C 100000 90) h
  obtain ⟨h3, h4⟩ := evCode_sound (evFunC_sound hm hC 100000 90) hm 100000 c f st x f' st' hr.wf h1
  refine h4 Q ρ w a hr.fr hr.wr hr.fresh.to fun ρ' e' a' w' hxr hf' hm' => ?_
  have hr' := hr.step h3 hf' hm'
  cases x with
  | panic v => exact h2.elim
  | normal => obtain ⟨ρ2, f2, st2, k1, k2⟩ := canonK_ok h2 hE hr'; exact hp _ f2 st2 ρ2 e' a' w' k1 hxr k2
  | exit i => obtain ⟨ρ2, f2, st2, k1, k2⟩ := canonK_ok h2 hE hr'; exact hp _ f2 st2 ρ2 e' a' w' k1 hxr k2
  | ret => obtain ⟨ρ2, f2, st2, k1, k2⟩ := canonK_ok h2 hE hr'; exact hp _ f2 st2 ρ2 e' a' w' k1 hxr k2
/-- one piece behind another one -/
theorem J.seq {P : Program} {β : Bs} {c d : Code} {f : AFr} {st : ASt} {K : Kt} (h : J P β c f st fun x f' st' => match x with
    | .normal => J P β d f' st' K
    | x => K x f' st') : J P β (.seq c d) f st K := by
  intro Q ρ a w hr hp
  refine wp_seq (h _ ρ a w hr fun x f' st' ρ' e' a' w' hk hx hr' => ?_)
  cases x with
  | normal => cases hx; exact hk Q ρ' a' w' hr' hp
  | exit i => cases hx; exact hp _ f' st' ρ' _ a' w' hk rfl hr'
  | ret => cases hx; exact hp _ f' st' ρ' _ a' w' hk rfl hr'
  | panic v => obtain ⟨v', rfl, hv⟩ := hx; exact hp _ f' st' ρ' _ a' w' hk ⟨v', rfl, hv⟩ hr'
end Go.Proofs.YtpogcoolgnjejaaGreatDoor.Ev
/-
  Pieces of code one behind the other: a choice that is told, a block, a loop that is told of.
-/
set_option linter.unusedVariables false
namespace Go.Proofs.YtpogcoolgnjejaaGreatDoor.Ev
open Go Go.RowKit

theorem J.choice {P : Program} {β : Bs} {t : Nat} {q : Bool} {c d : Code} {f : AFr} {st : ASt} {K : Kt} (hq : f.tmps.get t = some (.bool q)) (h1 : q = true → J P β c f st K) (h0 : q = false → J P β d f st K) : J P β (.cond (.tmp t) c d) f st K := by
  intro Q ρ a w hr hp
  have hfe : f.ev (.tmp t) = .bool q := by simp only [AFr.ev, AFr.tmp, hq]
  have hv := hr.fr.ev (.tmp t)
  rw [hfe] at hv
  generalize hA : a.eval (.tmp t) = A at hv
  cases hv
  refine wp_cond_split hA (fun e => ?_) (fun e => ?_)
  · exact h1 e Q ρ a w hr hp
  · exact h0 e Q ρ a w hr hp
/-- what a block makes of a way out -/
def blkK (id : Nat) (K : Kt) : Kt := fun x f st => match x with
  | .exit i => cond (Nat.beq i id) (K .normal f st) (K (.exit i) f st)
  | x => K x f st
theorem J.block {P : Program} {β : Bs} {id : Nat} {c : Code} {f : AFr} {st : ASt} {K : Kt} (h : J P β c f st (blkK id K)) : J P β (.block id c) f st K := by
  intro Q ρ a w hr hp
  refine wp_block (h _ ρ a w hr fun x f' st' ρ' e' a' w' hk hx hr' => ?_)
  cases x with
  | normal => cases hx; exact hp _ f' st' ρ' _ a' w' hk rfl hr'
  | exit i =>
    cases hx
    simp only [blkK] at hk
    cases hb : Nat.beq i id with
    | true =>
      rw [hb] at hk
      have := Nat.eq_of_beq_eq_true hb
      subst this
      simp only [Exit.inBlock, if_true]
      exact hp _ f' st' ρ' _ a' w' hk rfl hr'
    | false =>
      rw [hb] at hk
      simp only [Exit.inBlock, if_neg (Nat.ne_of_beq_eq_false hb)]
      exact hp _ f' st' ρ' _ a' w' hk rfl hr'
  | ret => cases hx; exact hp _ f' st' ρ' _ a' w' hk rfl hr'
  | panic v => obtain ⟨v', rfl, hv⟩ := hx; exact hp _ f' st' ρ' _ a' w' hk ⟨v', rfl, hv⟩ hr'
/-! ### parts of code -/
def seqA : Code → Code
  | .seq a _ => a
  | c => c
def seqB : Code → Code
  | .seq _ b => b
  | c => c
def cndA : Code → Code
  | .cond _ a _ => a
  | c => c
def cndB : Code → Code
  | .cond _ _ b => b
  | c => c
def blkC : Code → Code
  | .block _ c => c
  | c => c
end Go.Proofs.YtpogcoolgnjejaaGreatDoor.Ev
/-
  Several pieces of code along a way, ahead of what comes behind them.
-/
set_option linter.unusedVariables false
namespace Go.Proofs.YtpogcoolgnjejaaGreatDoor.Ev
open Go Go.RowKit

def codesKO (P : Program) (sk : SelfK) (fuel : Nat) (T : List Nat) : List Code → AFr → ASt → List Bool → KtO → Prop
  | [], f, st, os, K => K .normal f st os
  | c :: l, f, st, os, K => codeKO P sk fuel T c f st os fun x f' st' os' => match x with
    | .normal => codesKO P sk fuel T l f' st' os' K
    | x => K x f' st' os'
def chainC : List Code → Code → Code
  | [], d => d
  | c :: l, d => .seq c (chainC l d)
def endKO (E : Nat) (lv : AX → List Nat) (N : Kt) : KtO := fun x f st _ => match x with
  | .panic _ => False
  | x => canonK E (lv x) (N x) f st
/-- what has to hold of pieces of code along a way, memory named anew behind them -/
def pieceL (P : Program) (C : Told) (E : Nat) (lv : AX → List Nat) (T : List Nat) (os : List Bool) (cs : List Code) (f : AFr) (st : ASt) (N : Kt) : Prop :=
  codesKO P (funK P C 100000 90) 100000 T cs f st os (endKO E lv N)
/-- what comes behind them -/
def thenK (P : Program) (β : Bs) (d : Code) (K : Kt) : Kt := fun x f st => match x with
  | .normal => J P β d f st K
  | x => K x f st
theorem endKO_ok {P : Program} {β : Bs} {E : Nat} (hE : β.X.length = E) {lv : AX → List Nat} {d : Code} {K : Kt} {x : AX} (hx : x ≠ .normal) {f : AFr} {st : ASt} {os : List Bool} (h : endKO E lv (thenK P β d K) x f st os) {Q : Exit → Act → World → Prop} {ρ : Rho} {e' : Exit} {a : Act} {w : World} (hxr : XR ρ x e') (hr : Rl β ρ f st a w) (hp : PostJ β K Q) : Q e' a w := by
  cases x with
  | panic v => exact h.elim
  | normal => exact absurd rfl hx
  | exit i => obtain ⟨ρ2, f2, st2, k1, k2⟩ := canonK_ok h hE hr; exact hp _ f2 st2 ρ2 e' a w k1 hxr k2
  | ret => obtain ⟨ρ2, f2, st2, k1, k2⟩ := canonK_ok h hE hr; exact hp _ f2 st2 ρ2 e' a w k1 hxr k2
theorem pieceL_ok {P : Program} {C : Told} (hm : P.follows .mixedOrders = true) (hC : ToldS P C) {β : Bs} {E : Nat} (hE : β.X.length = E) {lv : AX → List Nat} {T : List Nat} {d : Code} {K : Kt} : ∀ {cs : List Code} {os : List Bool} {f : AFr} {st : ASt}, codesKO P (funK P C 100000 90) 100000 T cs f st os (endKO E lv (thenK P β d K)) → J P β (chainC cs d) f st K := by
  intro cs
  induction cs with
  | nil =>
    intro os f st h Q ρ a w hr hp
    obtain ⟨ρ2, f2, st2, k1, k2⟩ := canonK_ok (h : canonK E (lv .normal) (thenK P β d K .normal) f st) hE hr
    exact k1 Q ρ2 a w k2 hp
  | cons c l ih =>
    intro os f st h Q ρ a w hr hp
    simp only [codesKO] at h
    obtain ⟨x, f', st', os', h1, h2⟩ := codeKO_ok (funK_ok P C 100000 90) h
    obtain ⟨h3, h4⟩ := evCode_sound (evFunC_sound hm hC 100000 90) hm 100000 c f st x f' st' hr.wf h1
    refine wp_seq (h4 _ ρ w a hr.fr hr.wr hr.fresh.to fun ρ' e' a' w' hxr hf' hm' => ?_)
    have hr' := hr.step h3 hf' hm'
    cases x with
    | normal => cases hxr; exact ih h2 Q ρ' a' w' hr' hp
    | exit i => cases hxr; exact (endKO_ok (Q := Q) hE (by simp) h2 rfl hr' hp : Q _ a' w')
    | ret => cases hxr; exact (endKO_ok (Q := Q) hE (by simp) h2 rfl hr' hp : Q _ a' w')
    | panic v => exact (h2 : False).elim
end Go.Proofs.YtpogcoolgnjejaaGreatDoor.Ev
