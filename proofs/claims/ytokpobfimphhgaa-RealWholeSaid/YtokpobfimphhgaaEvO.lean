/-
  What the evaluator says of single operations holds of their runs: frames, and operations that leave memory alone.
-/
import Derived.Test.YtokpobfimphhgaaEvR
import Derived.WalkKit
set_option linter.unusedVariables false
set_option linter.unusedSimpArgs false
namespace Go.Proofs.Ytokpobfimphhgaa.Ev
open Go

theorem bnd_ok {α β : Type} {x : Rs α} {f : α → Rs β} {b : β} (h : x.bnd f = .ok b) : ∃ a, x = .ok a ∧ f a = .ok b := by
  cases x with
  | ok a => exact ⟨a, rfl, h⟩
  | er s p => simp [Rs.bnd] at h
theorem of_ok {α : Type} {why : String} {x : Option α} {a : α} (h : Rs.of why x = .ok a) : x = some a := by
  cases x with
  | some b => simp [Rs.of] at h; rw [h]
  | none => simp [Rs.of] at h
theorem cond_ok {α : Type} {c : Bool} {x : Rs α} {s p : String} {r : α} (h : cond c x (.er s p) = .ok r) : c = true ∧ x = .ok r := by
  cases c with
  | true => exact ⟨rfl, h⟩
  | false => simp at h

def DefR (ρ : Rho) (d : ADef) (d' : Deferred) : Prop := ∃ cap' args', d' = { target := .fn d.fn cap', args := args' } ∧ VRL ρ d.cap cap'.toList ∧ VRL ρ d.args args'.toList
theorem DefR.mono {ρ ρ' : Rho} (hs : Sub ρ ρ') {d : ADef} {d' : Deferred} (h : DefR ρ d d') : DefR ρ' d d' := by
  obtain ⟨c, a, e, h1, h2⟩ := h
  exact ⟨c, a, e, h1.mono hs, h2.mono hs⟩
def DefsR (ρ : Rho) : List ADef → List Deferred → Prop
  | [], [] => True
  | d :: l, d' :: l' => DefR ρ d d' ∧ DefsR ρ l l'
  | _, _ => False
theorem DefsR.mono {ρ ρ' : Rho} (hs : Sub ρ ρ') : ∀ {l : List ADef} {l' : List Deferred}, DefsR ρ l l' → DefsR ρ' l l'
  | [], [], _ => trivial
  | d :: l, d' :: l', h => ⟨h.1.mono hs, DefsR.mono hs h.2⟩
  | [], _ :: _, h => h.elim
  | _ :: _, [], h => h.elim

structure FrR (ρ : Rho) (f : AFr) (a : Act) : Prop where
  size : a.tmps.size = f.n
  tmp : ∀ t v, f.tmps.get t = some v → ∃ v', a.tmps[t]? = some v' ∧ VR ρ v v'
  defs : DefsR ρ f.defers a.defers
theorem FrR.mono {ρ ρ' : Rho} (hs : Sub ρ ρ') {f : AFr} {a : Act} (h : FrR ρ f a) : FrR ρ' f a :=
  ⟨h.size, fun t v e => by obtain ⟨v', e1, e2⟩ := h.tmp t v e; exact ⟨v', e1, e2.mono hs⟩, h.defs.mono hs⟩
theorem FrR.ev {ρ : Rho} {f : AFr} {a : Act} (h : FrR ρ f a) (x : Operand) : VR ρ (f.ev x) (a.eval x) := by
  cases x with
  | tmp t =>
    simp only [AFr.ev, AFr.tmp, Act.eval]
    split
    · rename_i v hv
      obtain ⟨v', e1, e2⟩ := h.tmp t v hv
      simp only [Array.getD_eq_getD_getElem?, e1, Option.getD_some]
      exact e2
    · exact .any _
  | const v =>
    simp only [AFr.ev, Act.eval]
    cases hg : ground 3 v with
    | true => exact VR.refl 3 hg
    | false => exact .any _
  | global g => exact .any _
  | func f => exact .func _ _ _ _ _ rfl rfl (fun i x y h => by simp at h) (fun i x y h => by simp at h)
theorem FrR.evs {ρ : Rho} {f : AFr} {a : Act} (h : FrR ρ f a) (l : List Operand) : VRL ρ (l.map f.ev) (l.map a.eval) := by
  induction l with
  | nil => exact VRL.nil ρ
  | cons x l ih => exact VRL.cons (h.ev x) ih
theorem FrR.put {ρ : Rho} {f : AFr} {a : Act} (h : FrR ρ f a) {d : Option Nat} {v v' : Value} (hv : VR ρ v v') : FrR ρ (f.put d v) (a.put d v') := by
  cases d with
  | none => exact h
  | some d =>
    simp only [AFr.put, Act.put]
    cases hb : Nat.blt d f.n with
    | true =>
      have hd : d < f.n := by simpa using hb
      simp only [cond_true]
      refine ⟨by simp [h.size], fun t u e => ?_, h.defs⟩
      rw [set_get] at e
      by_cases ht : t = d
      · subst ht
        rw [upd_same] at e; cases e
        exact ⟨v', by simp [h.size, hd], hv⟩
      · rw [upd_ne _ _ ht] at e
        obtain ⟨u', e1, e2⟩ := h.tmp t u e
        exact ⟨u', by simp only [Array.getElem?_setIfInBounds_ne (Ne.symm ht)]; exact e1, e2⟩
    | false =>
      have hd : ¬ d < f.n := fun h2 => by
        have h3 : Nat.blt d f.n = true := by simpa using h2
        rw [h3] at hb; cases hb
      simp only [cond_false]
      have : a.tmps.setIfInBounds d v' = a.tmps := by
        apply Array.ext (by simp)
        intro i h1 h2
        simp only [Array.getElem_setIfInBounds h2]
        rw [if_neg (by have := h.size; omega)]
      rw [this]
      exact h

/-- from one memory to the other: numbers do not fall; what lies below 'lo' is as it was; nothing comes but under new numbers -/
def LoS (st st' : ASt) : Prop := st.next ≤ st'.next ∧ st'.lo ≤ st.lo ∧ (∀ x, x < st.next → x < st'.lo → st'.h.get x = st.h.get x) ∧ ∀ x o, st'.h.get x = some o → (∃ o', st.h.get x = some o') ∨ (st.next ≤ x ∧ x < st'.next)
theorem LoS.refl (st : ASt) : LoS st st := ⟨Nat.le_refl _, Nat.le_refl _, fun _ _ _ => rfl, fun x o h => .inl ⟨o, h⟩⟩
theorem LoS.trans {a b c : ASt} (h : LoS a b) (k : LoS b c) : LoS a c := by
  obtain ⟨h1, h2, h3, h4⟩ := h; obtain ⟨k1, k2, k3, k4⟩ := k
  refine ⟨by omega, by omega, fun x e1 e2 => (k3 x (by omega) e2).trans (h3 x e1 (by omega)), fun x o e => ?_⟩
  rcases k4 x o e with ⟨o', e1⟩ | e1
  · rcases h4 x o' e1 with e2 | e2
    · exact .inl e2
    · exact .inr ⟨by omega, by omega⟩
  · exact .inr ⟨by omega, by omega⟩
theorem minN_le (a b : Nat) : minN a b ≤ a ∧ minN a b ≤ b := by
  unfold minN
  cases h : Nat.ble a b with
  | true => have : a ≤ b := Nat.le_of_ble_eq_true h; exact ⟨Nat.le_refl _, this⟩
  | false => have : ¬ a ≤ b := fun h2 => by rw [Nat.ble_eq_true_of_le h2] at h; cases h
             exact ⟨by simp; omega, by simp⟩
theorem LoS.new (st : ASt) (o : AObj) : LoS st (st.new o) := by
  refine ⟨by simp [ASt.new], Nat.le_refl _, fun x h1 _ => by simp only [ASt.new, set_get]; rw [upd_ne _ _ (by omega)], fun x o' e => ?_⟩
  simp only [ASt.new, set_get] at e ⊢
  by_cases hx : x = st.next
  · exact .inr (by omega)
  · rw [upd_ne _ _ hx] at e; exact .inl ⟨o', e⟩
theorem LoS.set (st : ASt) (a : Nat) (o : Option AObj) (h : o = none ∨ ∃ o', st.h.get a = some o') : LoS st (st.set a o) := by
  have := minN_le st.lo a
  refine ⟨Nat.le_refl _, this.1, fun x h1 h2 => ?_, fun x o' e => ?_⟩
  · simp only [ASt.set] at h2
    simp only [ASt.set, set_get]; rw [upd_ne _ _ (by omega)]
  · simp only [ASt.set, set_get] at e
    by_cases hx : x = a
    · subst hx
      rcases h with rfl | h
      · rw [upd_same] at e; cases e
      · exact .inl h
    · rw [upd_ne _ _ hx] at e; exact .inl ⟨o', e⟩

def ValR (P : Program) (o : Oper) (a : Act) (w : World) (ρ : Rho) (st st' : ASt) (v : Value) : Prop :=
  ∃ ρ' v' w', ((execOp a.eval o).run P w = .ok (.value v') w' ∨ ((execOp a.eval o).run P w = .ok .skip w' ∧ v' = undef)) ∧ VR ρ' v v' ∧ Mv ρ ρ' st.h.get st'.h.get st.next st'.next w w'
def OpR (P : Program) (o : Oper) (f : AFr) (st : ASt) : AN → Prop
  | .val v st' => LoS st st' ∧ ∀ ρ w a, FrR ρ f a → WR ρ st.h.get w → Fresh ρ st.next st'.next → ValR P o a w ρ st st' v
  | .enter g args => ∀ ρ w a, FrR ρ f a → WR ρ st.h.get w → ∃ args', (execOp a.eval o).run P w = .ok (.enter g args') w ∧ VRL ρ args args'.toList
  | .defer d => ∀ ρ w a, FrR ρ f a → WR ρ st.h.get w → ∃ d', (execOp a.eval o).run P w = .ok (.defer d') w ∧ DefR ρ d d'
  | .panic v => ∀ ρ w a, FrR ρ f a → WR ρ st.h.get w → ∃ v', (execOp a.eval o).run P w = .halt (.panic v') w ∧ VR ρ v v'

/-- an operation that leaves the world alone -/
theorem OpR.quiet {P : Program} {o : Oper} {f : AFr} {st : ASt} {v : Value} (h : ∀ ρ w a, FrR ρ f a → WR ρ st.h.get w → ∃ v', (execOp a.eval o).run P w = .ok (.value v') w ∧ VR ρ v v') : OpR P o f st (.val v st) :=
  ⟨LoS.refl st, fun ρ w a hf hw _ => by obtain ⟨v', h1, h2⟩ := h ρ w a hf hw; exact ⟨ρ, v', w, .inl h1, h2, Mv.refl hw _⟩⟩

theorem pureRun_ok {α : Type} {P : Program} : ∀ {s : Sem α} {a : α}, pureRun P s = .ok a → ∀ w, s.run P w = .ok a w := by
  intro s
  induction s with
  | pure b => intro a h w; simp only [pureRun, Pr.ok.injEq] at h; subst h; rfl
  | program k ih => intro a h w; exact ih P h w
  | mark m k ih => intro a h w; exact ih h w
  | halt e => intro a h w; cases e <;> simp [pureRun] at h
  | _ => intros; rename_i h w; simp [pureRun] at h
theorem pureRun_panic {α : Type} {P : Program} : ∀ {s : Sem α} {v : Value}, pureRun P s = .panic v → ∀ w, s.run P w = .halt (.panic v) w := by
  intro s
  induction s with
  | pure b => intro a h w; simp [pureRun] at h
  | program k ih => intro a h w; exact ih P h w
  | mark m k ih => intro a h w; exact ih h w
  | halt e =>
    intro a h w
    cases e with
    | panic v => simp only [pureRun, Pr.panic.injEq] at h; subst h; rfl
    | _ => simp [pureRun] at h
  | _ => intros; rename_i h w; simp [pureRun] at h

/-! ### what is asked of types -/
theorem undL_ok {P : Program} {t : TypeId} {d : TypeDesc} (h : undL P t = .ok d) : P.underlying t = some d := by
  unfold undL at h
  split at h
  · rename_i d' e; cases h; exact e
  · cases h
theorem run_und {P : Program} {t : TypeId} {d : TypeDesc} (h : undL P t = .ok d) (w : World) : (underlying t).run P w = .ok d w := by
  simp [underlying, undL_ok h]
theorem sizeL_ok {P : Program} {t : TypeId} {n : Nat} (h : sizeL P t = .ok n) : ∃ i, P.info? t = some i ∧ i.size = n := by
  unfold sizeL at h
  split at h
  · rename_i i e; cases h; exact ⟨i, e, rfl⟩
  · cases h
theorem run_sizeL {P : Program} {t : TypeId} {n : Nat} (h : sizeL P t = .ok n) (w : World) : (sizeOf t).run P w = .ok n w := by
  obtain ⟨i, e, rfl⟩ := sizeL_ok h
  simp [sizeOf, typeInfo, e]
theorem run_zeroL {P : Program} {t : TypeId} {l : List Value} (h : zeroL P t = .ok l) : ∃ z, z.cells.toList = l ∧ l.all (ground 2) = true ∧ ∀ w, (zeroValue t).run P w = .ok z w := by
  unfold zeroL at h
  split at h
  · rename_i i e
    split at h
    · rename_i z ez
      obtain ⟨h1, h2⟩ := cond_ok h
      cases h2
      exact ⟨z, rfl, h1, fun w => by simp [zeroValue, typeInfo, e, ez]⟩
    · cases h
  · cases h
theorem ground_list {ρ : Rho} {n : Nat} {l : List Value} (h : l.all (ground n) = true) : VRL ρ l l := by
  rw [List.all_eq_true] at h
  exact ⟨rfl, fun i x y hx hy => by rw [hx] at hy; cases hy; exact VR.refl n (h x (List.mem_of_getElem? hx))⟩
theorem run_aggL {P : Program} {t : TypeId} {b : Bool} (h : aggL P t = .ok b) (w : World) : (isAgg t).run P w = .ok b w := by
  unfold aggL at h
  obtain ⟨d, h1, h2⟩ := bnd_ok h
  have h3 := run_und h1 w
  cases d <;> simp at h2 <;> subst h2 <;> simp [isAgg, h3]
/-- the value of these cells -/
theorem shutL_run {P : Program} {t : TypeId} {cs : List Value} {v : Value} (h : shutL P t cs = .ok v) : (aggL P t = .ok true ∧ v = .agg cs.toArray) ∨ (aggL P t = .ok false ∧ cs = [v]) := by
  unfold shutL at h
  obtain ⟨b, h1, h2⟩ := bnd_ok h
  split at h2
  · cases h2; exact .inl ⟨h1, rfl⟩
  · cases h2; exact .inr ⟨h1, rfl⟩
  · cases h2
theorem cellsL_rel {ρ : Rho} {v v' : Value} (h : VR ρ v v') (h1 : (cellsL v).all oneC = true) : VRL ρ (cellsL v) v'.cells.toList ∧ ∀ x ∈ v'.cells.toList, x.oneCell' = true := by
  have one : ∀ {x y : Value}, VR ρ x y → oneC x = true → y.oneCell' = true := by
    intro x y hxy hx
    cases hxy <;> first | rfl | simp [oneC, bad] at hx
  have single : ∀ {x y : Value}, VR ρ x y → oneC x = true → cellsL x = [x] → y.cells = #[y] → VRL ρ (cellsL x) y.cells.toList ∧ ∀ z ∈ y.cells.toList, z.oneCell' = true := by
    intro x y hxy hx e1 e2
    rw [e1, e2]
    exact ⟨VRL.cons hxy (VRL.nil ρ), fun z hz => by simp at hz; subst hz; exact one hxy hx⟩
  cases h with
  | agg a a' ha h =>
    simp only [cellsL, Value.cells] at h1 ⊢
    have hl := VRL.of_arrays ha h
    refine ⟨hl, fun x hx => ?_⟩
    obtain ⟨i, hi⟩ := List.getElem?_of_mem hx
    have h2 : i < a.toList.length := by
      have := (List.getElem?_eq_some_iff.1 hi).1
      simp at this ⊢; omega
    have h3 := hl.2 i _ x (List.getElem?_eq_getElem h2) hi
    rw [List.all_eq_true] at h1
    exact one h3 (h1 _ (List.getElem_mem h2))
  | any v => simp [cellsL, bad, oneC] at h1
  | tuple => simp [cellsL, oneC] at h1
  | sliceE a i c' x s h hx => exact single (.sliceE a i c' x s h hx) rfl rfl rfl
  | sliceN a i => exact single (.sliceN a i) rfl rfl rfl
  | sliceZ a i x => exact single (.sliceZ a i x) rfl rfl rfl
  | _ => exact single (by constructor <;> assumption) rfl rfl rfl

/-! ### operations that leave memory alone -/
theorem op_move {P : Program} {o : Oper} {f : AFr} {st : ASt} {x : Operand} (h : o.op = .move x ∨ o.op = .assign x) : OpR P o f st (.val (f.ev x) st) :=
  OpR.quiet fun ρ w a hf hw => ⟨a.eval x, by rcases h with h | h <;> simp [execOp, h], hf.ev x⟩
theorem op_pick {P : Program} {o : Oper} {f : AFr} {st : ASt} {c x y : Operand} {b : Bool} (h : o.op = .pick c x y) (hb : f.ev c = .bool b) : OpR P o f st (.val (cond b (f.ev x) (f.ev y)) st) :=
  OpR.quiet fun ρ w a hf hw => by
    have hc := hf.ev c
    rw [hb] at hc
    cases b with
    | true => exact ⟨a.eval x, by cases hc' : a.eval c <;> (rw [hc'] at hc; cases hc) ; simp [execOp, h, hc', asBool], hf.ev x⟩
    | false => exact ⟨a.eval y, by cases hc' : a.eval c <;> (rw [hc'] at hc; cases hc) ; simp [execOp, h, hc', asBool], hf.ev y⟩
theorem op_makeFunc {P : Program} {o : Oper} {f : AFr} {st : ASt} {fn : Fn} {p q : Array Operand} (h : o.op = .makeFunc fn p q) : OpR P o f st (.val (.func fn (p.toList.map f.ev).toArray (q.toList.map f.ev).toArray) st) :=
  OpR.quiet fun ρ w a hf hw => by
    refine ⟨.func fn (p.map a.eval) (q.map a.eval), by simp [execOp, h, Instr.makeFunc], .func _ _ _ _ _ (by simp) (by simp) ?_ ?_⟩
    · intro i x y hx hy
      exact (hf.evs p.toList).2 i x y (by simpa using hx) (by simpa using hy)
    · intro i x y hx hy
      exact (hf.evs q.toList).2 i x y (by simpa using hx) (by simpa using hy)
theorem op_makeInterface {P : Program} {o : Oper} {f : AFr} {st : ASt} {t : TypeId} {x : Operand} {d : TypeDesc} (h : o.op = .makeInterface t x) (hd : undL P t = .ok d) (hn : ∀ m, d ≠ .interface m) : OpR P o f st (.val (.iface t (f.ev x)) st) :=
  OpR.quiet fun ρ w a hf hw => by
    refine ⟨.iface t (a.eval x), ?_, .iface _ _ _ (hf.ev x)⟩
    simp only [execOp, h, Instr.makeInterface, Sem.run_bind, run_und hd, Result.andThen_ok]
    cases d <;> first | exact absurd rfl (hn _) | simp
theorem op_extract {P : Program} {o : Oper} {f : AFr} {st : ASt} {t : Operand} {i : Nat} {vs : Array Value} {v : Value} (h : o.op = .extract t i) (ht : f.ev t = .tuple vs) (hv : vs.toList[i]? = some v) : OpR P o f st (.val v st) :=
  OpR.quiet fun ρ w a hf hw => by
    have hc := hf.ev t
    rw [ht] at hc
    generalize hT : a.eval t = T at hc
    cases hc with
    | tuple a1 a2 hs hh =>
      obtain ⟨y, hy, hvy⟩ := (VRL.of_arrays hs hh).get hv
      refine ⟨y, ?_, hvy⟩
      have hy' : a2[i]? = some y := by simpa using hy
      simp [execOp, h, hT, Instr.extract, hy']
end Go.Proofs.Ytokpobfimphhgaa.Ev
