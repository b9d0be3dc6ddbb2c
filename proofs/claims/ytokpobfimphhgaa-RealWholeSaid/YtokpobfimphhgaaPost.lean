/-
  A function over rows that came in: what it answers, whatever that is. And rows of the evaluator's as rows of the world.
-/
import Derived.Test.YtokpobfimphhgaaInT
set_option linter.unusedVariables false
set_option linter.unusedSimpArgs false
namespace Go.Proofs.Ytokpobfimphhgaa.Ev
open Go Go.RowKit

/-- what is known behind a call -/
structure PostR (w : World) (X : List Spot) (K : Value → ASt → Prop) (e : Ending) (w' : World) : Prop where
  ex : ∃ v v' st' ρ', e = .returned v' ∧ K v st' ∧ VR ρ' v v' ∧ WR ρ' st'.h.get w' ∧ Wf st' ∧ FreshAll ρ' st'.next ∧ OwnB ρ' st'.h.get w.heap.size ∧ ∀ i s, X[i]? = some s → ρ' i = some s
  bel : Below w.heap.size w w'
theorem law_post {P : Program} {C : Told} {fuel n : Nat} (hm : P.follows .mixedOrders = true) (hC : ToldS P C) {E : Nat} {un : Nat → Nat} {lvs : Nat → List Nat} {ex : Nat → Kt → Prop} {g : FuncId} {args : List Value} {st : ASt} {w : World} {ρ : Rho} {X : List Spot} {args' : Array Value} {K : Value → ASt → Prop}
    (hE : X.length = E) (hX : ∀ i s, X[i]? = some s → ρ i = some s) (hv : VRL ρ args args'.toList) (hw : WR ρ st.h.get w) (hwf : Wf st) (hfr : FreshAll ρ st.next) (how : OwnB ρ st.h.get w.heap.size)
    (h : lawJ P C fuel n ⟨w.heap.size, w, X⟩ un (cnOf E lvs) ex g args st K) : Calls P g args' w (PostR w X K) := by
  unfold lawJ at h
  split at h
  · rename_i fn hfn
    have hfn' : P.funcs[g]? = some fn := by simpa using hfn
    split at h
    · rename_i body hb
      have h1 := codeJ_ok (funK_ok P C fuel n) (evFunC_sound hm hC fuel n) hm (cnOf_ok ⟨w.heap.size, w, X⟩ hE lvs) h
      refine calls_of_wp hfn' hb (h1 _ ρ _ w ⟨enter_rel fn.ntmps hv, hw, hwf, hfr, how, Below.refl _ _, Nat.le_refl _, hX⟩ fun x f st' ρ' e a' w' hk hx hr => ?_)
      have main : (x = .normal ∨ x = .ret) → cond (isNil f.defers) (rsK (resOf P fn st' f) fun v => K v st') False → bodyPost P fn (PostR w X K) e a' w' := by
        intro hxx hk
        cases hd : f.defers with
        | cons d l => rw [hd] at hk; exact hk.elim
        | nil =>
          rw [hd] at hk
          obtain ⟨v, h2, h3⟩ := rsK_elim hk
          obtain ⟨v', m1, m2⟩ := resOf_run (fr_bare hr.fr) hr.wr h2
          have hdn : a'.defers = [] := by have := hr.fr.defs; rw [hd] at this; exact defs_nil this
          have hres : PostR w X K (.returned v') w' := ⟨⟨v, v', st', ρ', rfl, h3, m2, hr.wr, hr.wf, hr.fresh, hr.own, hr.ext⟩, hr.bel⟩
          rcases hxx with rfl | rfl <;> cases hx <;> exact ⟨hdn, v', m1, hres⟩
      cases x with
      | normal => exact main (.inl rfl) hk
      | ret => exact main (.inr rfl) hk
      | exit i => exact hk.elim
      | panic v => exact hk.elim
    · exact h.elim
  · exact h.elim
theorem law_rowsP {P : Program} {C : Told} {fuel n : Nat} (hm : P.follows .mixedOrders = true) (hC : ToldS P C) {un : Nat → Nat} {lvs : Nat → List Nat} {ex : Nat → Kt → Prop} {g : FuncId} {args : List Value} {args' : Array Value} {X : List Spot} {objs : List AObj} (w : World) {K : Value → ASt → Prop}
    (hlen : X.length = objs.length) (hobj : ∀ (k : Nat) (s : Spot) (o : AObj), X[k]? = some s → objs[k]? = some o → ExtOk ⟨w.heap.size, w, X⟩ s o) (hblk : ∀ s ∈ X, s.void = false → s.blk < w.heap.size) (hv : VRL (fun i => X[i]?) args args'.toList)
    (h : lawJ P C fuel n ⟨w.heap.size, w, X⟩ un (cnOf X.length lvs) ex g args (mkS (objs.map some)) K) :
    Calls P g args' w (PostR w X K) := by
  have hget : ∀ k o, (mkS (objs.map some)).h.get k = some o → objs[k]? = some o := by
    intro k o e
    rw [mkS_get, List.getElem?_map] at e
    cases hq : objs[k]? with
    | none => rw [hq] at e; cases e
    | some u => rw [hq] at e; cases e; rfl
  have hX : ∀ k o, objs[k]? = some o → ∃ s, X[k]? = some s := fun k o e => by
    have h1 := (List.getElem?_eq_some_iff.1 e).1
    exact ⟨X[k]'(by omega), List.getElem?_eq_getElem (by omega)⟩
  have hro : ∀ k o, (mkS (objs.map some)).h.get k = some o → o.isOwn = false := fun k o e => by
    obtain ⟨s, hs⟩ := hX k o (hget k o e)
    exact (hobj k s o hs (hget k o e)).1
  refine law_post (ρ := fun i => X[i]?) (X := X) hm hC rfl (fun i t e => e) hv ⟨fun a t e hvd => ?_, fun a o e => ?_, fun a b oa ob sa sb ea eb eo ra rb va vb heq => ?_⟩ (fun k o e => ?_) (fun a ha => ?_) (fun b hb' => ?_) h
  · exact hblk t (List.mem_of_getElem? e) hvd
  · obtain ⟨s, hs⟩ := hX a o (hget a o e)
    exact ⟨s, hs, (hobj a s o hs (hget a o e)).2 _ w (Below.refl _ _)⟩
  · rcases eo with eo | eo
    · rw [hro a oa ea] at eo; cases eo
    · rw [hro b ob eb] at eo; cases eo
  · have := (List.getElem?_eq_some_iff.1 (hget k o e)).1
    simpa [mkS] using this
  · have : objs.length ≤ a := by simpa [mkS] using ha
    exact List.getElem?_eq_none (by omega)
  · obtain ⟨a, o, t, e, e0, _⟩ := hb'
    rw [hro a o e] at e0; cases e0
/-- it answers just that, a number or a truth -/
def ansV (r : Value) (v : Value) (_ : ASt) : Prop := v = r
def nanV : Value → Bool
  | .float k b => nanB k b
  | _ => false
theorem PostR.ans {w : World} {X : List Spot} {r : Value} {e : Ending} {w' : World} (hs : scalC r = true) (hr : nanV r = false) (h : PostR w X (ansV r) e w') : e = .returned r ∧ Below w.heap.size w w' := by
  obtain ⟨⟨v, v', st', ρ', rfl, rfl, hv, _⟩, hb⟩ := h
  refine ⟨?_, hb⟩
  cases hv with
  | nan k b b' h h' => simp [nanV, h] at hr
  | any => cases hs
  | bool | int | float | string => rfl
  | _ => cases hs
end Go.Proofs.Ytokpobfimphhgaa.Ev
