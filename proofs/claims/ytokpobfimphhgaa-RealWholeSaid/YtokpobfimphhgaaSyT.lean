/-
  Functions of numbers and truths, of which it is told what they answer.
-/
import Derived.Test.YtokpobfimphhgaaSyC
set_option linter.unusedVariables false
set_option linter.unusedSimpArgs false
namespace Go.Proofs.Ytokpobfimphhgaa.Ev
open Go

/-- numbers and truths -/
def scalar : Value → Bool
  | .int .. | .bool _ | .float .. | .string _ => true
  | .tuple vs | .agg vs => vs.toList.all fun v => match v with | .int .. | .bool _ | .float .. | .string _ => true | _ => false
  | _ => false
theorem VR.scal1 {ρ ρ' : Rho} {v v' : Value} (hs : (match v with | .int .. | .bool _ | .float .. | .string _ => true | _ => false) = true) (h : VR ρ v v') : VR ρ' v v' := by
  cases h with
  | bool b => exact .bool b
  | int k n => exact .int k n
  | float k b => exact .float k b
  | nan k b b' h h' => exact .nan k b b' h h'
  | string s => exact .string s
  | _ => cases hs
theorem VR.scalar {ρ ρ' : Rho} {v v' : Value} (hs : scalar v = true) (h : VR ρ v v') : VR ρ' v v' := by
  cases h with
  | tuple a a' ha h =>
    refine .tuple a a' ha fun i x y hx hy => ?_
    simp only [Ev.scalar, List.all_eq_true] at hs
    exact VR.scal1 (hs x (by simpa using Array.mem_of_getElem? hx)) (h i x y hx hy)
  | agg a a' ha h =>
    refine .agg a a' ha fun i x y hx hy => ?_
    simp only [Ev.scalar, List.all_eq_true] at hs
    exact VR.scal1 (hs x (by simpa using Array.mem_of_getElem? hx)) (h i x y hx hy)
  | bool b => exact .bool b
  | int k n => exact .int k n
  | float k b => exact .float k b
  | nan k b b' h h' => exact .nan k b b' h h'
  | string s => exact .string s
  | any v => cases hs
  | _ => cases hs
theorem VRL.scalar {ρ ρ' : Rho} {l l' : List Value} (hs : l.all scalar = true) (h : VRL ρ l l') : VRL ρ' l l' :=
  ⟨h.1, fun i x y hx hy => VR.scalar (by rw [List.all_eq_true] at hs; exact hs x (List.mem_of_getElem? hx)) (h.2 i x y hx hy)⟩
theorem WR.empty (w : World) : WR (fun _ => none) st0.h.get w := by
  refine ⟨?_, ?_, ?_⟩
  · intro a s e; cases e
  · intro a o e; cases e
  · intro a b oa ob sa sb e; cases e
/-- where what there was is as it was -/
theorem Mv.below {ρ : Rho} {g : Mem} {w w' : World} (h : WR ρ g w) (n : Nat) (hb : RowKit.Below w.heap.size w w') : Mv ρ ρ g g n n w w' := by
  obtain ⟨h1, h2, h3, h4, hh⟩ := hb
  exact ⟨Nat.le_refl _, Sub.refl _, fun _ _ h => .inl h, h4, fun b hb _ => hh b hb, fun _ h => .inr h, h1, h2, h3,
    ⟨fun a s e hv => Nat.lt_of_lt_of_le (h.blk a s e hv) h4, fun a o e => by obtain ⟨s, e1, e2⟩ := h.obj a o e; exact ⟨s, e1, e2.kept (Sub.refl _) (fun hv => hh _ (h.blk a s e1 hv))⟩, h.inj⟩, fun a o h => .inl ⟨o, h⟩, fun _ _ h _ => h⟩
/-- it returns just that -/
def isK (v : Value) (r : AE) (_ : ASt) : Prop := r = .returned v
theorem sym_is {P : Program} {C : Told} {g : FuncId} {args : List Value} {fuel n : Nat} {v : Value} (hm : P.follows .mixedOrders = true) (hC : ToldS P C) (h : funK P C fuel n g args st0 (isK v)) (w : World) (args' : Array Value) (ha : VRL (fun _ => none) args args'.toList) :
    Calls P g args' w fun e w' => (∃ ρ' v', e = .returned v' ∧ VR ρ' v v') ∧ RowKit.Below w.heap.size w w' := by
  obtain ⟨r, st', h1, h2⟩ := funK_ok P C fuel n g args st0 _ h
  unfold isK at h2
  subst h2
  have hwf : Wf st0 := fun x o e => by cases e
  obtain ⟨_, h3⟩ := evFunC_sound hm hC fuel n g args st0 _ st' hwf h1
  refine (h3 (fun _ => none) w args' ha (WR.empty w) (fun _ _ _ => rfl)).mono fun e w' he => ?_
  obtain ⟨ρ', he, hmv⟩ := he
  obtain ⟨v', rfl, hv'⟩ := he
  exact ⟨⟨ρ', v', rfl, hv'⟩, hmv.os, hmv.tape, hmv.output, hmv.size, fun k hk => hmv.frm k hk fun ⟨a, o, s, e1, _⟩ => by cases e1⟩
/-- one more function of which it is told -/
def Told.also (C : Told) (g : FuncId) (spec : List Value → Option Value) : Told := fun f => cond (Nat.beq f g) (some ⟨fun args st => match spec args with
  | some v => .ok (.returned v, st)
  | none => .er "told", fun args st K => optK (spec args) fun v => K (.returned v) st, fun args st K h => by
    obtain ⟨v, h1, h2⟩ := optK_elim h
    exact ⟨_, _, by simp only [h1], h2⟩⟩) (C f)
theorem Told.also_ok {P : Program} {C : Told} {g : FuncId} {spec : List Value → Option Value} (hC : ToldS P C)
    (h : ∀ args v, spec args = some v → args.all scalar = true ∧ scalar v = true ∧ ∀ (w : World) (args' : Array Value), VRL (fun _ => none) args args'.toList → Calls P g args' w fun e w' => (∃ ρ' v', e = .returned v' ∧ VR ρ' v v') ∧ RowKit.Below w.heap.size w w') :
    ToldS P (C.also g spec) := by
  intro f c hc args st r st' hwf hr
  unfold Told.also at hc
  cases hb : Nat.beq f g with
  | false => rw [hb] at hc; exact hC f c hc args st r st' hwf hr
  | true =>
    rw [hb] at hc
    have := Nat.eq_of_beq_eq_true hb
    subst this
    simp only [cond_true, Option.some.injEq] at hc
    subst hc
    simp only at hr
    split at hr
    · rename_i v hv
      cases hr
      obtain ⟨h1, h2, h3⟩ := h args v hv
      refine ⟨LoS.refl _, fun ρ w args' ha hw hf => (h3 w args' (ha.scalar h1)).mono fun e w' he => ?_⟩
      obtain ⟨⟨ρ', v', rfl, hv'⟩, hb⟩ := he
      exact ⟨ρ, ⟨v', rfl, VR.scalar h2 hv'⟩, Mv.below hw _ hb⟩
    · cases hr
def noTold : Told := fun _ => none
theorem noTold_ok (P : Program) : ToldS P noTold := fun g c h => by cases h
theorem br_true {b : Bool} {K1 K2 : Prop} (h1 : b = true → K1) (h2 : b = false → K2) : br b K1 K2 := br_of h1 h2
end Go.Proofs.Ytokpobfimphhgaa.Ev
