/-
  What the evaluator says of single operations holds of their runs: frames, and operations that leave memory alone.
-/
import Derived.Test.YtpbnlbbieaokoaaGreatDoorGa
import Derived.WalkKit
import Derived.Laws.Strings
set_option linter.unusedVariables false
set_option linter.unusedSimpArgs false
namespace Go.Proofs.YtpbnlbbieaokoaaGreatDoor.Ev
open Go

theorem bnd_ok {α β : Type} {x : Rs α} {f : α → Rs β} {b : β} (h : x.bnd f = .ok b) : ∃ a, x = .ok a ∧ f a = .ok b := by
  cases x with
  | ok a => exact ⟨a, rfl, h⟩
  | er s p => simp [Rs.bnd] at h
theorem of_ok {α : Type} {why : String} {x : Option α} {a : α} (h : Rs.of why x = .ok a) : x = some a := by
  cases x with
  | some b => simp [Rs.of] at h; rw [h]
  | none => simp [Rs.of] at h
theorem cond_ok {α : Type} {c : Bool} {x : Rs α} {s p : String} {r : α} (h : cond c x (.er s p) = .ok r) : c = true ∧ x = .ok r := by
  cases c with
  | true => exact ⟨rfl, h⟩
  | false => simp at h

def DefR (ρ : Rho) (d : ADef) (d' : Deferred) : Prop := ∃ cap' args', d' = { target := .fn d.fn cap', args := args' } ∧ VRL ρ d.cap cap'.toList ∧ VRL ρ d.args args'.toList
theorem DefR.mono {ρ ρ' : Rho} (hs : Sub ρ ρ') {d : ADef} {d' : Deferred} (h : DefR ρ d d') : DefR ρ' d d' := by
  obtain ⟨c, a, e, h1, h2⟩ := h
  exact ⟨c, a, e, h1.mono hs, h2.mono hs⟩
def DefsR (ρ : Rho) : List ADef → List Deferred → Prop
  | [], [] => True
  | d :: l, d' :: l' => DefR ρ d d' ∧ DefsR ρ l l'
  | _, _ => False
theorem DefsR.mono {ρ ρ' : Rho} (hs : Sub ρ ρ') : ∀ {l : List ADef} {l' : List Deferred}, DefsR ρ l l' → DefsR ρ' l l'
  | [], [], _ => trivial
  | d :: l, d' :: l', h => ⟨h.1.mono hs, DefsR.mono hs h.2⟩
  | [], _ :: _, h => h.elim
  | _ :: _, [], h => h.elim

structure FrR (ρ : Rho) (f : AFr) (a : Act) : Prop where
  size : a.tmps.size = f.n
  tmp : ∀ t v, f.tmps.get t = some v → ∃ v', a.tmps[t]? = some v' ∧ VR ρ v v'
  defs : DefsR ρ f.defers a.defers
theorem FrR.mono {ρ ρ' : Rho} (hs : Sub ρ ρ') {f : AFr} {a : Act} (h : FrR ρ f a) : FrR ρ' f a :=
  ⟨h.size, fun t v e => by obtain ⟨v', e1, e2⟩ := h.tmp t v e; exact ⟨v', e1, e2.mono hs⟩, h.defs.mono hs⟩
theorem FrR.ev {ρ : Rho} {f : AFr} {a : Act} (h : FrR ρ f a) (x : Operand) : VR ρ (f.ev x) (a.eval x) := by
  cases x with
  | tmp t =>
    simp only [AFr.ev, AFr.tmp, Act.eval]
    split
    · rename_i v hv
      obtain ⟨v', e1, e2⟩ := h.tmp t v hv
      simp only [Array.getD_eq_getD_getElem?, e1, Option.getD_some]
      exact e2
    · exact .any _
  | const v =>
    simp only [AFr.ev, Act.eval]
    cases hg : ground 3 v with
    | true => exact VR.refl 3 hg
    | false => exact .any _
  | global g => exact .any _
  | func f => exact .func _ _ _ _ _ rfl rfl (fun i x y h => by simp at h) (fun i x y h => by simp at h)
theorem FrR.evs {ρ : Rho} {f : AFr} {a : Act} (h : FrR ρ f a) (l : List Operand) : VRL ρ (l.map f.ev) (l.map a.eval) := by
  induction l with
  | nil => exact VRL.nil ρ
  | cons x l ih => exact VRL.cons (h.ev x) ih
theorem FrR.put {ρ : Rho} {f : AFr} {a : Act} (h : FrR ρ f a) {d : Option Nat} {v v' : Value} (hv : VR ρ v v') : FrR ρ (f.put d v) (a.put d v') := by
  cases d with
  | none => exact h
  | some d =>
    simp only [AFr.put, Act.put]
    cases hb : Nat.blt d f.n with
    | true =>
      have hd : d < f.n := by simpa using hb
      simp only [cond_true]
      refine ⟨by simp [h.size], fun t u e => ?_, h.defs⟩
      rw [set_get] at e
      by_cases ht : t = d
      · subst ht
        rw [upd_same] at e; cases e
        exact ⟨v', by simp [h.size, hd], hv⟩
      · rw [upd_ne _ _ ht] at e
        obtain ⟨u', e1, e2⟩ := h.tmp t u e
        exact ⟨u', by simp only [Array.getElem?_setIfInBounds_ne (Ne.symm ht)]; exact e1, e2⟩
    | false =>
      have hd : ¬ d < f.n := fun h2 => by
        have h3 : Nat.blt d f.n = true := by simpa using h2
        rw [h3] at hb; cases hb
      simp only [cond_false]
      have : a.tmps.setIfInBounds d v' = a.tmps := by
        apply Array.ext (by simp)
        intro i h1 h2
        simp only [Array.getElem_setIfInBounds h2]
        rw [if_neg (by have := h.size; omega)]
      rw [this]
      exact h

/-- from one memory to the other: numbers do not fall; what lies below 'lo' is as it was; nothing comes but under new numbers -/
def LoS (st st' : ASt) : Prop := st.next ≤ st'.next ∧ st'.lo ≤ st.lo ∧ (∀ x, x < st.next → x < st'.lo → st'.h.get x = st.h.get x) ∧ ∀ x o, st'.h.get x = some o → (∃ o', st.h.get x = some o') ∨ (st.next ≤ x ∧ x < st'.next)
theorem LoS.refl (st : ASt) : LoS st st := ⟨Nat.le_refl _, Nat.le_refl _, fun _ _ _ => rfl, fun x o h => .inl ⟨o, h⟩⟩
theorem LoS.trans {a b c : ASt} (h : LoS a b) (k : LoS b c) : LoS a c := by
  obtain ⟨h1, h2, h3, h4⟩ := h; obtain ⟨k1, k2, k3, k4⟩ := k
  refine ⟨by omega, by omega, fun x e1 e2 => (k3 x (by omega) e2).trans (h3 x e1 (by omega)), fun x o e => ?_⟩
  rcases k4 x o e with ⟨o', e1⟩ | e1
  · rcases h4 x o' e1 with e2 | e2
    · exact .inl e2
    · exact .inr ⟨by omega, by omega⟩
  · exact .inr ⟨by omega, by omega⟩
theorem minN_le (a b : Nat) : minN a b ≤ a ∧ minN a b ≤ b := by
  unfold minN
  cases h : Nat.ble a b with
  | true => have : a ≤ b := Nat.le_of_ble_eq_true h; exact ⟨Nat.le_refl _, this⟩
  | false => have : ¬ a ≤ b := fun h2 => by rw [Nat.ble_eq_true_of_le h2] at h; cases h
             exact ⟨by simp; omega, by simp⟩
theorem LoS.new (st : ASt) (o : AObj) : LoS st (st.new o) := by
  refine ⟨by simp [ASt.new], Nat.le_refl _, fun x h1 _ => by simp only [ASt.new, set_get]; rw [upd_ne _ _ (by omega)], fun x o' e => ?_⟩
  simp only [ASt.new, set_get] at e ⊢
  by_cases hx : x = st.next
  · exact .inr (by omega)
  · rw [upd_ne _ _ hx] at e; exact .inl ⟨o', e⟩
theorem LoS.set (st : ASt) (a : Nat) (o : Option AObj) (h : o = none ∨ ∃ o', st.h.get a = some o') : LoS st (st.set a o) := by
  have := minN_le st.lo a
  refine ⟨Nat.le_refl _, this.1, fun x h1 h2 => ?_, fun x o' e => ?_⟩
  · simp only [ASt.set] at h2
    simp only [ASt.set, set_get]; rw [upd_ne _ _ (by omega)]
  · simp only [ASt.set, set_get] at e
    by_cases hx : x = a
    · subst hx
      rcases h with rfl | h
      · rw [upd_same] at e; cases e
      · exact .inl h
    · rw [upd_ne _ _ hx] at e; exact .inl ⟨o', e⟩

def ValR (P : Program) (o : Oper) (a : Act) (w : World) (ρ : Rho) (st st' : ASt) (v : Value) : Prop :=
  ∃ ρ' v' w', ((execOp a.eval o).run P w = .ok (.value v') w' ∨ ((execOp a.eval o).run P w = .ok .skip w' ∧ v' = undef)) ∧ VR ρ' v v' ∧ Mv ρ ρ' st.h.get st'.h.get st.next st'.next w w'
def OpR (P : Program) (o : Oper) (f : AFr) (st : ASt) : AN → Prop
  | .val v st' => LoS st st' ∧ ∀ ρ w a, FrR ρ f a → WR ρ st.h.get w → Fresh ρ st.next st'.next → ValR P o a w ρ st st' v
  | .enter g args => ∀ ρ w a, FrR ρ f a → WR ρ st.h.get w → ∃ args', (execOp a.eval o).run P w = .ok (.enter g args') w ∧ VRL ρ args args'.toList
  | .defer d => ∀ ρ w a, FrR ρ f a → WR ρ st.h.get w → ∃ d', (execOp a.eval o).run P w = .ok (.defer d') w ∧ DefR ρ d d'
  | .panic v => ∀ ρ w a, FrR ρ f a → WR ρ st.h.get w → ∃ v', (execOp a.eval o).run P w = .halt (.panic v') w ∧ VR ρ v v'

/-- an operation that leaves the world alone -/
theorem OpR.quiet {P : Program} {o : Oper} {f : AFr} {st : ASt} {v : Value} (h : ∀ ρ w a, FrR ρ f a → WR ρ st.h.get w → ∃ v', (execOp a.eval o).run P w = .ok (.value v') w ∧ VR ρ v v') : OpR P o f st (.val v st) :=
  ⟨LoS.refl st, fun ρ w a hf hw _ => by obtain ⟨v', h1, h2⟩ := h ρ w a hf hw; exact ⟨ρ, v', w, .inl h1, h2, Mv.refl hw _⟩⟩

theorem pureRun_ok {α : Type} {P : Program} : ∀ {s : Sem α} {a : α}, pureRun P s = .ok a → ∀ w, s.run P w = .ok a w := by
  intro s
  induction s with
  | pure b => intro a h w; simp only [pureRun, Pr.ok.injEq] at h; subst h; rfl
  | program k ih => intro a h w; exact ih P h w
  | mark m k ih => intro a h w; exact ih h w
  | halt e => intro a h w; cases e <;> simp [pureRun] at h
  | _ => intros; rename_i h w; simp [pureRun] at h
theorem pureRun_panic {α : Type} {P : Program} : ∀ {s : Sem α} {v : Value}, pureRun P s = .panic v → ∀ w, s.run P w = .halt (.panic v) w := by
  intro s
  induction s with
  | pure b => intro a h w; simp [pureRun] at h
  | program k ih => intro a h w; exact ih P h w
  | mark m k ih => intro a h w; exact ih h w
  | halt e =>
    intro a h w
    cases e with
    | panic v => simp only [pureRun, Pr.panic.injEq] at h; subst h; rfl
    | _ => simp [pureRun] at h
  | _ => intros; rename_i h w; simp [pureRun] at h

/-! ### what is asked of types -/
theorem undL_ok {P : Program} {t : TypeId} {d : TypeDesc} (h : undL P t = .ok d) : P.underlying t = some d := by
  unfold undL at h
  split at h
  · rename_i d' e; cases h; exact e
  · cases h
theorem run_und {P : Program} {t : TypeId} {d : TypeDesc} (h : undL P t = .ok d) (w : World) : (underlying t).run P w = .ok d w := by
  simp [underlying, undL_ok h]
theorem sizeL_ok {P : Program} {t : TypeId} {n : Nat} (h : sizeL P t = .ok n) : ∃ i, P.info? t = some i ∧ i.size = n := by
  unfold sizeL at h
  split at h
  · rename_i i e; cases h; exact ⟨i, e, rfl⟩
  · cases h
theorem run_sizeL {P : Program} {t : TypeId} {n : Nat} (h : sizeL P t = .ok n) (w : World) : (sizeOf t).run P w = .ok n w := by
  obtain ⟨i, e, rfl⟩ := sizeL_ok h
  simp [sizeOf, typeInfo, e]
theorem run_zeroL {P : Program} {t : TypeId} {l : List Value} (h : zeroL P t = .ok l) : ∃ z, z.cells.toList = l ∧ l.all (ground 2) = true ∧ ∀ w, (zeroValue t).run P w = .ok z w := by
  unfold zeroL at h
  split at h
  · rename_i i e
    split at h
    · rename_i z ez
      obtain ⟨h1, h2⟩ := cond_ok h
      cases h2
      exact ⟨z, rfl, h1, fun w => by simp [zeroValue, typeInfo, e, ez]⟩
    · cases h
  · cases h
theorem ground_list {ρ : Rho} {n : Nat} {l : List Value} (h : l.all (ground n) = true) : VRL ρ l l := by
  rw [List.all_eq_true] at h
  exact ⟨rfl, fun i x y hx hy => by rw [hx] at hy; cases hy; exact VR.refl n (h x (List.mem_of_getElem? hx))⟩
theorem run_aggL {P : Program} {t : TypeId} {b : Bool} (h : aggL P t = .ok b) (w : World) : (isAgg t).run P w = .ok b w := by
  unfold aggL at h
  obtain ⟨d, h1, h2⟩ := bnd_ok h
  have h3 := run_und h1 w
  cases d <;> simp at h2 <;> subst h2 <;> simp [isAgg, h3]
/-- the value of these cells -/
theorem shutL_run {P : Program} {t : TypeId} {cs : List Value} {v : Value} (h : shutL P t cs = .ok v) : (aggL P t = .ok true ∧ v = .agg cs.toArray) ∨ (aggL P t = .ok false ∧ cs = [v]) := by
  unfold shutL at h
  obtain ⟨b, h1, h2⟩ := bnd_ok h
  split at h2
  · cases h2; exact .inl ⟨h1, rfl⟩
  · cases h2; exact .inr ⟨h1, rfl⟩
  · cases h2
theorem cellsL_rel {ρ : Rho} {v v' : Value} (h : VR ρ v v') (h1 : (cellsL v).all oneC = true) : VRL ρ (cellsL v) v'.cells.toList ∧ ∀ x ∈ v'.cells.toList, x.oneCell' = true := by
  have one : ∀ {x y : Value}, VR ρ x y → oneC x = true → y.oneCell' = true := by
    intro x y hxy hx
    cases hxy <;> first | rfl | simp [oneC, bad] at hx
  have single : ∀ {x y : Value}, VR ρ x y → oneC x = true → cellsL x = [x] → y.cells = #[y] → VRL ρ (cellsL x) y.cells.toList ∧ ∀ z ∈ y.cells.toList, z.oneCell' = true := by
    intro x y hxy hx e1 e2
    rw [e1, e2]
    exact ⟨VRL.cons hxy (VRL.nil ρ), fun z hz => by simp at hz; subst hz; exact one hxy hx⟩
  cases h with
  | agg a a' ha h =>
    simp only [cellsL, Value.cells] at h1 ⊢
    have hl := VRL.of_arrays ha h
    refine ⟨hl, fun x hx => ?_⟩
    obtain ⟨i, hi⟩ := List.getElem?_of_mem hx
    have h2 : i < a.toList.length := by
      have := (List.getElem?_eq_some_iff.1 hi).1
      simp at this ⊢; omega
    have h3 := hl.2 i _ x (List.getElem?_eq_getElem h2) hi
    rw [List.all_eq_true] at h1
    exact one h3 (h1 _ (List.getElem_mem h2))
  | any v => simp [cellsL, bad, oneC] at h1
  | tuple => simp [cellsL, oneC] at h1
  | sliceE a i c' x s h hx => exact single (.sliceE a i c' x s h hx) rfl rfl rfl
  | sliceN a i => exact single (.sliceN a i) rfl rfl rfl
  | sliceZ a i x => exact single (.sliceZ a i x) rfl rfl rfl
  | _ => exact single (by constructor <;> assumption) rfl rfl rfl

/-! ### operations that leave memory alone -/
theorem op_move {P : Program} {o : Oper} {f : AFr} {st : ASt} {x : Operand} (h : o.op = .move x ∨ o.op = .assign x) : OpR P o f st (.val (f.ev x) st) :=
  OpR.quiet fun ρ w a hf hw => ⟨a.eval x, by rcases h with h | h <;> simp [execOp, h], hf.ev x⟩
theorem op_pick {P : Program} {o : Oper} {f : AFr} {st : ASt} {c x y : Operand} {b : Bool} (h : o.op = .pick c x y) (hb : f.ev c = .bool b) : OpR P o f st (.val (cond b (f.ev x) (f.ev y)) st) :=
  OpR.quiet fun ρ w a hf hw => by
    have hc := hf.ev c
    rw [hb] at hc
    cases b with
    | true => exact ⟨a.eval x, by cases hc' : a.eval c <;> (rw [hc'] at hc; cases hc) ; simp [execOp, h, hc', asBool], hf.ev x⟩
    | false => exact ⟨a.eval y, by cases hc' : a.eval c <;> (rw [hc'] at hc; cases hc) ; simp [execOp, h, hc', asBool], hf.ev y⟩
theorem op_makeFunc {P : Program} {o : Oper} {f : AFr} {st : ASt} {fn : Fn} {p q : Array Operand} (h : o.op = .makeFunc fn p q) : OpR P o f st (.val (.func fn (p.toList.map f.ev).toArray (q.toList.map f.ev).toArray) st) :=
  OpR.quiet fun ρ w a hf hw => by
    refine ⟨.func fn (p.map a.eval) (q.map a.eval), by simp [execOp, h, Instr.makeFunc], .func _ _ _ _ _ (by simp) (by simp) ?_ ?_⟩
    · intro i x y hx hy
      exact (hf.evs p.toList).2 i x y (by simpa using hx) (by simpa using hy)
    · intro i x y hx hy
      exact (hf.evs q.toList).2 i x y (by simpa using hx) (by simpa using hy)
theorem op_makeInterface {P : Program} {o : Oper} {f : AFr} {st : ASt} {t : TypeId} {x : Operand} {d : TypeDesc} (h : o.op = .makeInterface t x) (hd : undL P t = .ok d) (hn : ∀ m, d ≠ .interface m) : OpR P o f st (.val (.iface t (f.ev x)) st) :=
  OpR.quiet fun ρ w a hf hw => by
    refine ⟨.iface t (a.eval x), ?_, .iface _ _ _ (hf.ev x)⟩
    simp only [execOp, h, Instr.makeInterface, Sem.run_bind, run_und hd, Result.andThen_ok]
    cases d <;> first | exact absurd rfl (hn _) | simp
theorem op_extract {P : Program} {o : Oper} {f : AFr} {st : ASt} {t : Operand} {i : Nat} {vs : Array Value} {v : Value} (h : o.op = .extract t i) (ht : f.ev t = .tuple vs) (hv : vs.toList[i]? = some v) : OpR P o f st (.val v st) :=
  OpR.quiet fun ρ w a hf hw => by
    have hc := hf.ev t
    rw [ht] at hc
    generalize hT : a.eval t = T at hc
    cases hc with
    | tuple a1 a2 hs hh =>
      obtain ⟨y, hy, hvy⟩ := (VRL.of_arrays hs hh).get hv
      refine ⟨y, ?_, hvy⟩
      have hy' : a2[i]? = some y := by simpa using hy
      simp [execOp, h, hT, Instr.extract, hy']
end Go.Proofs.YtpbnlbbieaokoaaGreatDoor.Ev
/-
  What the evaluator says of single operations holds of their runs: parts of values, addresses, numbers.
-/
set_option linter.unusedVariables false
set_option linter.unusedSimpArgs false
namespace Go.Proofs.YtpbnlbbieaokoaaGreatDoor.Ev
open Go

/-! ### parts -/
theorem partL_run {P : Program} {ρ : Rho} {t : TypeId} {cs : List Value} {off : Nat} {v : Value} {C : Array Value} (h : partL P t cs off = .ok v) (hc : VRL ρ cs C.toList) (w : World) :
    ∃ v', (part t C off).run P w = .ok v' w ∧ VR ρ v v' := by
  unfold partL at h
  obtain ⟨n, h1, h2⟩ := bnd_ok h
  obtain ⟨l, h3, h4⟩ := bnd_ok h2
  have h5 := of_ok h3
  obtain ⟨h6, h7⟩ := takeL_some h5
  rw [dropL_eq] at h6 h7
  rcases shutL_run h4 with ⟨h8, rfl⟩ | ⟨h8, h9⟩
  · refine ⟨.agg (C.extract off (off + n)), by simp [part, run_aggL h8, run_sizeL h1], ?_⟩
    rw [h7]
    have : C.extract off (off + n) = ((C.toList.drop off).take n).toArray := by
      apply Array.toList_inj.1
      simp [Array.toList_extract, List.extract_eq_take_drop]
    rw [this]
    exact VR.agg' ((hc.drop off).take n)
  · rw [h9] at h7
    have hx : cs[off]? = some v := by
      have : ((cs.drop off).take n)[0]? = some v := by rw [← h7]; rfl
      rw [List.getElem?_take] at this
      split at this
      · simpa using this
      · cases this
    obtain ⟨y, hy, hv⟩ := hc.get hx
    refine ⟨y, ?_, hv⟩
    have hy' : C[off]? = some y := by simpa using hy
    simp [part, run_aggL h8, hy']
theorem fieldOf_ok {P : Program} {s : TypeId} {i : Nat} {fd : Field} (h : fieldOf P s i = .ok fd) : ∃ fs, undL P s = .ok (.struct fs) ∧ fs[i]? = some fd := by
  unfold fieldOf at h
  obtain ⟨d, h1, h2⟩ := bnd_ok h
  split at h2
  · rename_i fs; exact ⟨fs, h1, by simpa using of_ok h2⟩
  · cases h2
theorem op_field {P : Program} {o : Oper} {f : AFr} {st : ASt} {t : TypeId} {x : Operand} {i : Nat} {cs : Array Value} {fd : Field} {v : Value} (h : o.op = .field t x i) (hx : f.ev x = .agg cs) (h1 : fieldOf P t i = .ok fd)
    (h2 : partL P fd.type cs.toList fd.offset = .ok v) : OpR P o f st (.val v st) :=
  OpR.quiet fun ρ w a hf hw => by
    have hc := hf.ev x
    rw [hx] at hc
    generalize hT : a.eval x = T at hc
    cases hc with
    | agg _ a2 hs hh =>
      obtain ⟨fs, h3, h4⟩ := fieldOf_ok h1
      obtain ⟨v', h5, h6⟩ := partL_run h2 (VRL.of_arrays hs hh) w
      exact ⟨v', by simp [execOp, h, hT, Instr.field, run_und h3, h4, asAgg, h5], h6⟩

/-- an address, a few cells on -/
theorem VR.ptr_inv {ρ : Rho} {a : Addr} {v : Value} (hsp : a.spot = none) (h : VR ρ (.pointer (some a)) v) : ∃ s, a.spot = none ∧ ρ a.block = some s ∧ v = .pointer (some ⟨s.blk, s.base + a.off, none⟩) := by
  cases h with
  | ptr a o s h => exact ⟨s, rfl, h, rfl⟩
  | ptrI => cases hsp
/-- where it lies -/
def locOf (s : Spot) (a : Addr) : Nat := match a.spot with
  | none => s.base + a.off
  | some i => s.base + i * s.es + a.off
theorem VR.ptr_loc {ρ : Rho} {a : Addr} {v : Value} (h : VR ρ (.pointer (some a)) v) : ∃ s, ρ a.block = some s ∧ v = .pointer (some ⟨s.blk, locOf s a, none⟩) := by
  cases h with
  | ptr a o s h => exact ⟨s, h, rfl⟩
  | ptrI a j i s h => exact ⟨s, h, rfl⟩
theorem add_at (b o n : Nat) : (⟨b, o, none⟩ : Addr).add n = ⟨b, o + n, none⟩ := by
  unfold Addr.add
  split
  · rename_i h; subst h; rfl
  · rfl
theorem ptr_add {ρ : Rho} {a : Addr} {s : Spot} (hs : a.spot = none) (h : ρ a.block = some s) (n : Nat) : VR ρ (.pointer (some (a.add n))) (.pointer (some ((⟨s.blk, s.base + a.off, none⟩ : Addr).add n))) := by
  obtain ⟨b, o, sp⟩ := a
  simp only at hs h
  subst hs
  rw [add_at, add_at, Nat.add_assoc]
  exact .ptr b (o + n) s h
theorem op_fieldAddr {P : Program} {o : Oper} {f : AFr} {st : ASt} {t : TypeId} {x : Operand} {i n : Nat} {b0 o0 : Nat} {fd : Field} (h : o.op = .fieldAddr t x i) (hx : f.ev x = .pointer (some ⟨b0, o0, none⟩)) (h1 : fieldOf P t i = .ok fd)
    (h2 : sizeL P fd.type = .ok n) (h3 : n ≠ 0) : OpR P o f st (.val (.pointer (some ((⟨b0, o0, none⟩ : Addr).add fd.offset))) st) :=
  OpR.quiet fun ρ w a hf hw => by
    have hc := hf.ev x
    rw [hx] at hc
    obtain ⟨s, e1, e2, e3⟩ := hc.ptr_inv rfl
    obtain ⟨fs, h4, h5⟩ := fieldOf_ok h1
    refine ⟨_, ?_, ptr_add e1 e2 fd.offset⟩
    simp [execOp, h, e3, Instr.fieldAt, run_und h4, h5, Instr.sureAddr, fieldPlace, run_sizeL h2, h3]
theorem op_fieldAddrI {P : Program} {o : Oper} {f : AFr} {st : ASt} {t : TypeId} {x : Operand} {i n : Nat} {b0 o0 i0 : Nat} {fd : Field} (h : o.op = .fieldAddr t x i) (hx : f.ev x = .pointer (some ⟨b0, o0, some i0⟩)) (h1 : fieldOf P t i = .ok fd)
    (h2 : sizeL P fd.type = .ok n) (h3 : n ≠ 0) : OpR P o f st (.val (.pointer (some ⟨b0, o0 + fd.offset, some i0⟩)) st) :=
  OpR.quiet fun ρ w a hf hw => by
    have hc := hf.ev x
    rw [hx] at hc
    generalize hT : a.eval x = T at hc
    cases hc with
    | ptrI _ _ _ s e2 =>
      obtain ⟨fs, h4, h5⟩ := fieldOf_ok h1
      refine ⟨.pointer (some ⟨s.blk, s.base + i0 * s.es + (o0 + fd.offset), none⟩), ?_, .ptrI _ _ _ s e2⟩
      simp [execOp, h, hT, Instr.fieldAt, run_und h4, h5, Instr.sureAddr, fieldPlace, run_sizeL h2, h3, add_at, Nat.add_assoc]
theorem op_indexAddrI {P : Program} {o : Oper} {f : AFr} {st : ASt} {t e : TypeId} {x y : Operand} {k : IntKind} {i n m c : Nat} {b0 i0 lo hi : Nat} {elem : Nat → Nat → Td} (h : o.op = .indexAddr t x y) (hy : f.ev y = .int k (.ofNat i)) (h1 : undL P t = .ok (.slice e)) (hx : f.ev x = .slice (some ⟨b0, 0, some i0⟩) n c)
    (h2 : sizeL P e = .ok m) (h3 : i < n) {own : Rk} (hg : st.h.get b0 = some (.row own m lo hi elem)) : OpR P o f st (.val (.pointer (some ⟨b0, 0, some (i0 + i)⟩)) st) :=
  OpR.quiet fun ρ w a hf hw => by
    have hc := hf.ev x
    have hi := hf.ev y
    rw [hx] at hc
    rw [hy] at hi
    generalize hT : a.eval x = T at hc
    generalize hI : a.eval y = I at hi
    cases hi
    cases hc with
    | sliceI _ _ s _ _ c' o' hs hn hcc hr hv ho =>
      obtain ⟨s', e5, e6, _⟩ := hw.obj _ _ hg
      rw [hs] at e5; cases e5
      have e1 : o' = s.base + i0 * s.es := by rcases ho with ho | ho <;> omega
      refine ⟨.pointer (some ⟨s.blk, s.base + (i0 + i) * s.es + 0, none⟩), ?_, .ptrI _ _ _ s hs⟩
      have h4 : (0 : Int) ≤ (Int.ofNat i) ∧ (Int.ofNat i) < n := ⟨Int.natCast_nonneg i, by simp; omega⟩
      have h5 : ((Int.ofNat i).toNat) = i := rfl
      simp only [execOp, h, hT, hI, Instr.indexAt, asIntOf, run_und h1, Sem.run_bind, Sem.run_pure, Result.andThen_ok, e1, h4, run_sizeL h2, and_self, if_true, h5, add_at, e6, Nat.add_mul, Nat.add_assoc, Nat.add_zero]
    | sliceE => omega
    | sliceN => omega
    | sliceZ => omega
theorem op_indexAddr {P : Program} {o : Oper} {f : AFr} {st : ASt} {t e : TypeId} {x y : Operand} {k : IntKind} {i n m c : Nat} {b0 o0 : Nat} (h : o.op = .indexAddr t x y) (hy : f.ev y = .int k (.ofNat i)) (h1 : undL P t = .ok (.slice e)) (hx : f.ev x = .slice (some ⟨b0, o0, none⟩) n c)
    (h2 : sizeL P e = .ok m) (h3 : i < n) : OpR P o f st (.val (.pointer (some ((⟨b0, o0, none⟩ : Addr).add (i * m)))) st) :=
  OpR.quiet fun ρ w a hf hw => by
    have hc := hf.ev x
    have hi := hf.ev y
    rw [hx] at hc
    rw [hy] at hi
    generalize hT : a.eval x = T at hc
    generalize hI : a.eval y = I at hi
    cases hi
    cases hc with
    | slice _ _ s _ _ c' o' hs hn hcc hxx hr ho =>
      have e1 : o' = s.base + o0 := by rcases ho with ho | ho <;> omega
      refine ⟨.pointer (some ((⟨s.blk, s.base + o0, none⟩ : Addr).add (i * m))), ?_, ptr_add (a := ⟨b0, o0, none⟩) rfl hs _⟩
      have h4 : (0 : Int) ≤ (Int.ofNat i) ∧ (Int.ofNat i) < n := ⟨Int.natCast_nonneg i, by simp; omega⟩
      have h5 : ((Int.ofNat i).toNat) = i := rfl
      simp only [execOp, h, hT, hI, Instr.indexAt, asIntOf, run_und h1, Sem.run_bind, Sem.run_pure, Result.andThen_ok, e1, h4, run_sizeL h2, and_self, if_true, h5]
theorem op_indexAddr_arr {P : Program} {o : Oper} {f : AFr} {st : ASt} {t e : TypeId} {x y : Operand} {k : IntKind} {i n m : Nat} {b0 o0 : Nat} (h : o.op = .indexAddr t x y) (hy : f.ev y = .int k (.ofNat i)) (h1 : undL P t = .ok (.array n e)) (hx : f.ev x = .pointer (some ⟨b0, o0, none⟩))
    (h2 : sizeL P e = .ok m) (h3 : i < n) : OpR P o f st (.val (.pointer (some ((⟨b0, o0, none⟩ : Addr).add (i * m)))) st) :=
  OpR.quiet fun ρ w a hf hw => by
    have hc := hf.ev x
    have hi := hf.ev y
    rw [hx] at hc
    rw [hy] at hi
    obtain ⟨s, e1, e2, e3⟩ := hc.ptr_inv rfl
    generalize hI : a.eval y = I at hi
    cases hi
    refine ⟨_, ?_, ptr_add e1 e2 (i * m)⟩
    have h4 : (0 : Int) ≤ (Int.ofNat i) ∧ (Int.ofNat i) < n := ⟨Int.natCast_nonneg i, by simp; omega⟩
    have h5 : ((Int.ofNat i).toNat) = i := rfl
    simp only [execOp, h, e3, hI, Instr.indexAt, asIntOf, run_und h1, Sem.run_bind, Sem.run_pure, Result.andThen_ok, h4, run_sizeL h2, and_self, if_true, h5, Instr.sureAddr]
theorem op_indexAddr_arrI {P : Program} {o : Oper} {f : AFr} {st : ASt} {t e : TypeId} {x y : Operand} {k : IntKind} {i n m : Nat} {b0 o0 i0 : Nat} (h : o.op = .indexAddr t x y) (hy : f.ev y = .int k (.ofNat i)) (h1 : undL P t = .ok (.array n e)) (hx : f.ev x = .pointer (some ⟨b0, o0, some i0⟩))
    (h2 : sizeL P e = .ok m) (h3 : i < n) : OpR P o f st (.val (.pointer (some ⟨b0, o0 + i * m, some i0⟩)) st) :=
  OpR.quiet fun ρ w a hf hw => by
    have hc := hf.ev x
    have hi := hf.ev y
    rw [hx] at hc
    rw [hy] at hi
    generalize hT : a.eval x = T at hc
    generalize hI : a.eval y = I at hi
    cases hi
    cases hc with
    | ptrI _ _ _ s e2 =>
      refine ⟨.pointer (some ⟨s.blk, s.base + i0 * s.es + (o0 + i * m), none⟩), ?_, .ptrI _ _ _ s e2⟩
      have h4 : (0 : Int) ≤ (Int.ofNat i) ∧ (Int.ofNat i) < n := ⟨Int.natCast_nonneg i, by simp; omega⟩
      have h5 : ((Int.ofNat i).toNat) = i := rfl
      simp only [execOp, h, hT, hI, Instr.indexAt, asIntOf, run_und h1, Sem.run_bind, Sem.run_pure, Result.andThen_ok, h4, run_sizeL h2, and_self, if_true, h5, Instr.sureAddr, add_at, Nat.add_assoc]
theorem op_index_str {P : Program} {o : Oper} {f : AFr} {st : ASt} {t : TypeId} {x y : Operand} {k : IntKind} {i : Nat} {s : ByteArray} {b : UInt8} (h : o.op = .index t x y) (hy : f.ev y = .int k (.ofNat i)) (hx : f.ev x = .string s) (h1 : undL P t = .ok .string)
    (h2 : s.data.toList[i]? = some b) : OpR P o f st (.val (.int .u8 b.toNat) st) :=
  OpR.quiet fun ρ w a hf hw => by
    have hc := hf.ev x
    have hi := hf.ev y
    rw [hx] at hc
    rw [hy] at hi
    generalize hT : a.eval x = T at hc
    generalize hI : a.eval y = I at hi
    cases hi
    cases hc
    refine ⟨.int .u8 b.toNat, ?_, .int _ _⟩
    have h4 : (0 : Int) ≤ (Int.ofNat i) := Int.natCast_nonneg i
    have h5 : s[i]? = some b := by
      have hlt := (List.getElem?_eq_some_iff.1 h2)
      obtain ⟨hl, he⟩ := hlt
      have hl' : i < s.size := by simpa using hl
      rw [getElem?_pos s i hl']
      simp only [Option.some.injEq]
      rw [← he]
      rfl
    have h6 : ((Int.ofNat i).toNat) = i := rfl
    simp only [execOp, h, hT, hI, Instr.index, asIntOf, run_und h1, Sem.run_bind, Sem.run_pure, Result.andThen_ok, h4, if_true, h6, h5]
theorem op_index_arr {P : Program} {o : Oper} {f : AFr} {st : ASt} {t e : TypeId} {x y : Operand} {k : IntKind} {i n m : Nat} {cs : Array Value} {v : Value} (h : o.op = .index t x y) (hy : f.ev y = .int k (.ofNat i)) (hx : f.ev x = .agg cs) (h1 : undL P t = .ok (.array n e))
    (h2 : sizeL P e = .ok m) (h3 : i < n) (h4 : partL P e cs.toList (i * m) = .ok v) : OpR P o f st (.val v st) :=
  OpR.quiet fun ρ w a hf hw => by
    have hc := hf.ev x
    have hi := hf.ev y
    rw [hx] at hc
    rw [hy] at hi
    generalize hT : a.eval x = T at hc
    generalize hI : a.eval y = I at hi
    cases hi
    cases hc with
    | agg _ a2 hs hh =>
      obtain ⟨v', h5, h6⟩ := partL_run h4 (VRL.of_arrays hs hh) w
      refine ⟨v', ?_, h6⟩
      have h7 : (0 : Int) ≤ (Int.ofNat i) ∧ (Int.ofNat i) < n := ⟨Int.natCast_nonneg i, by simp; omega⟩
      have h8 : ((Int.ofNat i).toNat) = i := rfl
      simp only [execOp, h, hT, hI, Instr.index, asIntOf, run_und h1, Sem.run_bind, Sem.run_pure, Result.andThen_ok, h7, run_sizeL h2, and_self, if_true, h8, h5]
theorem op_nilCheck {P : Program} {o : Oper} {f : AFr} {st : ASt} {x : Operand} (h : o.op = .nilCheck x)
    (hx : (match f.ev x with | .pointer (some _) | .iface .. | .func (.func _) .. | .slice .. | .map _ => true | _ => false) = true) : OpR P o f st (.val (f.ev x) st) :=
  OpR.quiet fun ρ w a hf hw => by
    have hc := hf.ev x
    refine ⟨a.eval x, ?_, hc⟩
    generalize hT : a.eval x = T at hc
    generalize f.ev x = X at hx hc
    cases hc
    case any => simp [bad] at hx
    case func fn _ _ _ _ _ _ _ _ => cases fn <;> first | (simp at hx; done) | simp [execOp, h, hT]
    all_goals first | (simp at hx; done) | simp [execOp, h, hT]

/-! ### numbers, and what is told of two -/
theorem op_unOp {P : Program} {o : Oper} {f : AFr} {st : ASt} {u : UnOp} {t : TypeId} {x : Operand} {v : Value} (h : o.op = .unOp u t x) (hx : ground 1 (f.ev x) = true) (hv : pureRun P (Op.unary u (f.ev x)) = .ok v) (hg : refl1 v = true) : OpR P o f st (.val v st) :=
  OpR.quiet fun ρ w a hf hw => by
    have hc := VR.ground 1 hx (hf.ev x)
    exact ⟨v, by simp [execOp, h, hc, pureRun_ok hv], refl1_VR hg⟩

theorem condn_ok {c r b : Bool} (h : cond c (some r) none = some b) : c = true ∧ some r = some b := by
  cases c with
  | true => exact ⟨rfl, h⟩
  | false => cases h
theorem flag_ne {n c : Nat} (h : c ≠ 0 → 0 < n) : (Nat.beq n 0 && Nat.beq c 1) = false := by
  cases n with
  | zero =>
    cases c with
    | zero => rfl
    | succ c => exact absurd (h (by simp)) (by simp)
  | succ n => rfl
theorem VR.row_nil {ρ : Rho} {a i n c : Nat} {v : Value} (h : VR ρ (.slice (some ⟨a, 0, some i⟩) n c) v) : ∃ b c', v = .slice b n c' ∧ b.isNone = (Nat.beq n 0 && Nat.beq c 1) := by
  cases h with
  | sliceI _ _ s _ _ c' o' hs hn hc => exact ⟨_, _, rfl, (flag_ne hc).symm⟩
  | sliceE => exact ⟨_, _, rfl, rfl⟩
  | sliceN => exact ⟨_, _, rfl, rfl⟩
  | sliceZ => exact ⟨_, _, rfl, rfl⟩
theorem aNil_in {P : Program} {ρ : Rho} {t : TypeId} {d : TypeDesc} {x y x' y' : Value} {b : Bool} (k : Nat) (hd : undL P t = .ok d) (h : aNil d x y = some b) (hx : VR ρ x x') (hy : VR ρ y y') (w : World) : (Op.equalIn (k + 1) t x' y').run P w = .ok b w := by
  unfold aNil at h
  split at h <;> first
    | (cases h; done)
    | (obtain ⟨b, c', rfl, hb⟩ := VR.row_nil hx; cases h; cases hy; rw [← hb]; cases b <;> simp [Op.equalIn, run_und hd]; done)
    | (obtain ⟨b, c', rfl, hb⟩ := VR.row_nil hy; cases h; cases hx; rw [← hb]; cases b <;> simp [Op.equalIn, run_und hd]; done)
    | (cases h; cases hx <;> cases hy <;> (simp [Op.equalIn, run_und hd]; done))
theorem aNil_run {P : Program} {ρ : Rho} {t : TypeId} {d : TypeDesc} {x y x' y' : Value} {b : Bool} (hd : undL P t = .ok d) (h : aNil d x y = some b) (hx : VR ρ x x') (hy : VR ρ y y') (w : World) : (Op.equal t x' y').run P w = .ok b w :=
  aNil_in 9999 hd h hx hy w
theorem aNil_bin {d : TypeDesc} {x y : Value} {b : Bool} {ρ : Rho} {x' y' : Value} (h : aNil d x y = some b) (hx : VR ρ x x') (hy : VR ρ y y') (t : TypeId) (xo yo : Operand) :
    (do eqGuard .eql t xo yo x' y'; binOp .eql t x' y') = (do pure (.bool (← Op.equal t x' y')) : Sem Value) ∧ (do eqGuard .neq t xo yo x' y'; binOp .neq t x' y') = (do pure (.bool (!(← Op.equal t x' y'))) : Sem Value) := by
  unfold aNil at h
  split at h <;> first
    | (cases h; done)
    | (cases h; cases hx <;> cases hy <;> (simp [eqGuard, binOp]; done))
theorem aStr_run {P : Program} {op : BinOp} {t : TypeId} {xo yo : Operand} {a b : ByteArray} {v : Value} (h : aStr op a b = some v) (w : World) : (do eqGuard op t xo yo (.string a) (.string b); binOp op t (.string a) (.string b) : Sem Value).run P w = .ok v w ∧ ∃ n, ground n v = true := by
  have e : (eqGuard op t xo yo (.string a) (.string b)) = (pure () : Sem Unit) := by
    unfold eqGuard
    cases op <;> simp
  rw [e]
  unfold aStr at h
  cases op <;> simp only [Option.some.injEq] at h
  case add =>
    cases hb : Nat.ble (a.size + b.size) 1000000000 with
    | false => rw [hb] at h; simp at h
    | true =>
      rw [hb] at h
      simp only [cond_true, Option.some.injEq] at h
      subst h
      have h1 : a.size + b.size ≤ 1000000000 := Nat.le_of_ble_eq_true hb
      have h2 : (a ++ b) = ⟨(a.data.toList ++ b.data.toList).toArray⟩ := by
        apply ByteArray.ext
        rw [ByteArray.data_append]
        apply Array.toList_inj.1
        simp
      have h3 : ¬ (((a.size + b.size : Nat) : Int) > IntKind.i64.max) := by
        have : IntKind.i64.max = 9223372036854775807 := by decide
        rw [this]; omega
      refine ⟨?_, 0, rfl⟩
      simp only [Sem.run_bind, Sem.run_pure, Result.andThen_ok, binOp, Op.stringOp]
      rw [if_neg h3, ← h2]
      rfl
  all_goals (try (cases h; done))
  all_goals subst h
  all_goals exact ⟨by simp [binOp, Op.stringOp, ByteArray.toList_eq], 0, rfl⟩
theorem VR.string_inv {ρ : Rho} {s : ByteArray} {v : Value} (h : VR ρ (.string s) v) : v = .string s := by cases h; rfl
theorem aBin_ok {P : Program} {op : BinOp} {t : TypeId} {xo yo : Operand} {x y x' y' : Value} {r : Pr Value} {ρ : Rho} (h : aBin P op t xo yo x y = .ok r) (hx : VR ρ x x') (hy : VR ρ y y') (w : World) :
    (∃ v v', r = .ok v ∧ (do eqGuard op t xo yo x' y'; binOp op t x' y' : Sem Value).run P w = .ok v' w ∧ VR ρ v v') ∨
    (∃ v v', r = .panic v ∧ (do eqGuard op t xo yo x' y'; binOp op t x' y' : Sem Value).run P w = .halt (.panic v') w ∧ VR ρ v v') := by
  unfold aBin at h
  split at h
  · rename_i a b
    rw [hx.string_inv, hy.string_inv]
    split at h
    · rename_i v hv
      cases h
      obtain ⟨h1, n, h2⟩ := aStr_run (P := P) (t := t) (xo := xo) (yo := yo) hv w
      exact .inl ⟨v, v, rfl, h1, VR.refl n h2⟩
    · cases h
  · cases hg : (ground 4 x && ground 4 y) with
    | true =>
      rw [hg] at h
      simp only [cond_true] at h
      simp only [Bool.and_eq_true] at hg
      rw [VR.ground 4 hg.1 hx, VR.ground 4 hg.2 hy]
      split at h
      · rename_i v hv
        obtain ⟨h1, h2⟩ := cond_ok h
        cases h2
        exact .inl ⟨v, v, rfl, pureRun_ok hv w, refl1_VR h1⟩
      · rename_i v hv
        obtain ⟨h1, h2⟩ := cond_ok h
        cases h2
        exact .inr ⟨v, v, rfl, pureRun_panic hv w, VR.refl 3 h1⟩
      · cases h
    | false =>
      rw [hg] at h
      simp only [cond_false] at h
      split at h
      · rename_i q hq
        obtain ⟨d, h1, h2⟩ := bnd_ok h
        split at h2
        · rename_i b hb
          cases h2
          obtain ⟨e1, e2⟩ := aNil_bin hb hx hy t xo yo
          have hr := aNil_run h1 hb hx hy w
          refine .inl ⟨_, .bool (b == q), rfl, ?_, .bool _⟩
          cases op <;> simp [isEq] at hq
          · subst hq; rw [e1]; simp [hr]
          · subst hq; rw [e2]; simp [hr]
        · cases h2
      · cases h
/-! ### floating-point numbers, where one is none -/
theorem float_inv {ρ : Rho} {k : FloatKind} {a : Nat} {v' : Value} (h : VR ρ (.float k a) v') : ∃ a', v' = .float k a' ∧ nanB k a' = nanB k a ∧ (nanB k a = false → a' = a) := by
  cases h with
  | float => exact ⟨a, rfl, rfl, fun _ => rfl⟩
  | nan _ _ b' h h' => exact ⟨b', rfl, by rw [h, h'], fun e => by rw [h] at e; cases e⟩
theorem nan_read {k : FloatKind} {a : Nat} (h : nanB k a = true) : ∃ s p, k.format.read a = .nan s p := by
  unfold nanB Ieee.Format.order at h
  cases hr : k.format.read a with
  | nan s p => exact ⟨s, p, rfl⟩
  | infinity s => rw [hr] at h; simp [Ieee.Datum.order] at h
  | number s m i => rw [hr] at h; simp [Ieee.Datum.order] at h
theorem arith_nan {k : FloatKind} {a b : Nat} (h : (nanB k a || nanB k b) = true) : k.format.add a b = none ∧ k.format.sub a b = none ∧ k.format.mul a b = none ∧ k.format.div a b = none ∧ k.format.order a b = none := by
  simp only [Bool.or_eq_true] at h
  rcases h with h | h
  · obtain ⟨s, p, e⟩ := nan_read h
    refine ⟨?_, ?_, ?_, ?_, ?_⟩ <;> simp only [Ieee.Format.add, Ieee.Format.sub, Ieee.Format.mul, Ieee.Format.div, Ieee.Format.order, e] <;> cases k.format.read b <;> rfl
  · obtain ⟨s, p, e⟩ := nan_read h
    refine ⟨?_, ?_, ?_, ?_, ?_⟩ <;> simp only [Ieee.Format.add, Ieee.Format.sub, Ieee.Format.mul, Ieee.Format.div, Ieee.Format.order, e] <;> cases k.format.read a <;> rfl
theorem nan_of_read {k : FloatKind} {a : Nat} {s : Bool} {p : Nat} (h : k.format.read a = .nan s p) : nanB k a = true := by
  unfold nanB Ieee.Format.order
  rw [h]
  rfl
theorem cut_nan (k : FloatKind) (x y t : Nat) : nanB k ((Question.nanBits k x y).cut t) = true := by
  cases k with
  | f32 =>
    have h1 : (Question.nanBits .f32 x y).cut t = (t % 2) * 2 ^ 31 + 0x7f800000 + 1 + (t / 2) % (2 ^ 23 - 1) := rfl
    have s1 : Ieee.single.signWeight = 2147483648 := by decide
    have s2 : Ieee.single.infRung = 2139095040 := by decide
    have s3 : Ieee.single.binade = 8388608 := by decide
    apply nan_of_read (s := (Question.nanBits .f32 x y).cut t / Ieee.single.signWeight % 2 == 1) (p := (Question.nanBits .f32 x y).cut t % Ieee.single.signWeight - Ieee.single.infRung)
    have hw : (Question.nanBits .f32 x y).cut t % 2147483648 = 2139095041 + (t / 2) % (2 ^ 23 - 1) := by
      have hlt : (t / 2) % (2 ^ 23 - 1) < 2 ^ 23 - 1 := Nat.mod_lt _ (by decide)
      rw [h1]
      generalize (t / 2) % (2 ^ 23 - 1) = m at hlt ⊢
      rw [show (t % 2) * 2 ^ 31 + 0x7f800000 + 1 + m = 2139095041 + m + 2147483648 * (t % 2) by omega, Nat.add_mul_mod_self_left, Nat.mod_eq_of_lt (by omega)]
    show Ieee.single.read _ = _
    unfold Ieee.Format.read
    simp only [s1, s2, s3]
    rw [hw, if_neg (by omega), if_neg (by omega), if_neg (by omega)]
  | f64 =>
    have h1 : (Question.nanBits .f64 x y).cut t = (t % 2) * 2 ^ 63 + 0x7ff0000000000000 + 1 + (t / 2) % (2 ^ 52 - 1) := rfl
    have s1 : Ieee.double.signWeight = 9223372036854775808 := by decide
    have s2 : Ieee.double.infRung = 9218868437227405312 := by decide
    have s3 : Ieee.double.binade = 4503599627370496 := by decide
    apply nan_of_read (s := (Question.nanBits .f64 x y).cut t / Ieee.double.signWeight % 2 == 1) (p := (Question.nanBits .f64 x y).cut t % Ieee.double.signWeight - Ieee.double.infRung)
    have hw : (Question.nanBits .f64 x y).cut t % 9223372036854775808 = 9218868437227405313 + (t / 2) % (2 ^ 52 - 1) := by
      have hlt : (t / 2) % (2 ^ 52 - 1) < 2 ^ 52 - 1 := Nat.mod_lt _ (by decide)
      rw [h1]
      generalize (t / 2) % (2 ^ 52 - 1) = m at hlt ⊢
      rw [show (t % 2) * 2 ^ 63 + 0x7ff0000000000000 + 1 + m = 9218868437227405313 + m + 9223372036854775808 * (t % 2) by omega, Nat.add_mul_mod_self_left, Nat.mod_eq_of_lt (by omega)]
    show Ieee.double.read _ = _
    unfold Ieee.Format.read
    simp only [s1, s2, s3]
    rw [hw, if_neg (by omega), if_neg (by omega), if_neg (by omega)]
theorem qnan_nan (k : FloatKind) : nanB k (qnan k) = true := by cases k <;> decide +kernel
theorem run_arithF_some {P : Program} {op : BinOp} {k : FloatKind} {a b r : Nat} (h : arithF k op a b = some (some r)) (t : TypeId) (xo yo : Operand) (w : World) :
    (do eqGuard op t xo yo (.float k a) (.float k b); binOp op t (.float k a) (.float k b) : Sem Value).run P w = .ok (.float k r) w := by
  unfold arithF at h
  split at h <;> first | (cases h; done) | (simp only [Option.some.injEq] at h; simp [eqGuard, binOp, Op.floatArith, h])
theorem run_arithF_none {P : Program} {op : BinOp} {k : FloatKind} {a b : Nat} (h : arithF k op a b = some none) (t : TypeId) (xo yo : Operand) (w : World) :
    (do eqGuard op t xo yo (.float k a) (.float k b); binOp op t (.float k a) (.float k b) : Sem Value).run P w = .ok (.float k ((Question.nanBits k a b).cut (w.tape w.drawn (.nanBits k a b)))) w.drew := by
  unfold arithF at h
  split at h <;> first | (cases h; done) | (simp only [Option.some.injEq] at h; simp [eqGuard, binOp, Op.floatArith, h, run_choose_drew, Question.forced])
theorem run_cmpF {P : Program} {op : BinOp} {k : FloatKind} {a b : Nat} {v : Value} (hn : (nanB k a || nanB k b) = true) (h : (match op with
        | .add | .sub | .mul | .quo => some (.float k (qnan k))
        | .eql | .lss | .leq | .gtr | .geq => some (.bool false)
        | .neq => some (.bool true)
        | _ => none : Option Value) = some v) (ha : arithF k op a b = none) (t : TypeId) (xo yo : Operand) (w : World) :
    (do eqGuard op t xo yo (.float k a) (.float k b); binOp op t (.float k a) (.float k b) : Sem Value).run P w = .ok v w ∧ ∃ q, v = .bool q := by
  have ho := (arith_nan hn).2.2.2.2
  cases op <;> simp [arithF] at ha <;> simp at h <;> subst h <;> exact ⟨by simp [eqGuard, binOp, Op.floatCmp, ho], _, rfl⟩
theorem WR.drew {ρ : Rho} {g : Mem} {w : World} (h : WR ρ g w) : WR ρ g w.drew := ⟨h.blk, fun a o e => by obtain ⟨s, e1, e2⟩ := h.obj a o e; exact ⟨s, e1, e2.kept (Sub.refl _) (fun _ => rfl) (fun _ _ => rfl)⟩, h.inj, h.fz, gl_keep h (Nat.le_refl _) (fun _ _ _ => rfl) fun _ h => .inr h⟩
theorem Mv.drew {ρ : Rho} {g : Mem} {w : World} (h : WR ρ g w) (n : Nat) : Mv ρ ρ g g n n w w.drew :=
  ⟨Nat.le_refl _, Sub.refl _, fun _ _ h => .inl h, Nat.le_refl _, fun _ _ _ => rfl, fun _ h => .inr h, rfl, rfl, rfl, h.drew, fun a o h => .inl ⟨o, h⟩, fun _ _ h _ => .inl h, fun _ h => .inl h⟩
theorem sameF_eq {a b : FloatKind} (h : sameF a b = true) : a = b := by cases a <;> cases b <;> simp [sameF] at h <;> rfl
theorem op_float {P : Program} {o : Oper} {f : AFr} {st : ASt} {op : BinOp} {t ty : TypeId} {x y : Operand} {v : Value} (h : o.op = .binOp op t x y ty) (hr : aFloat op (f.ev x) (f.ev y) = some v) : OpR P o f st (.val v st) := by
  refine ⟨LoS.refl st, fun ρ w a hf hw _ => ?_⟩
  have ex := hf.ev x
  have ey := hf.ev y
  unfold aFloat at hr
  split at hr
  · rename_i k n k' m hx hy
    rw [hx] at ex; rw [hy] at ey
    cases hk : sameF k k' with
    | false => rw [hk] at hr; cases hr
    | true =>
      rw [hk] at hr
      simp only [cond_true] at hr
      have := sameF_eq hk
      subst this
      obtain ⟨n', e1, e2, e3⟩ := float_inv ex
      obtain ⟨m', f1, f2, f3⟩ := float_inv ey
      have key : ∀ {v' : Value} {w' : World}, (do eqGuard op t x y (.float k n') (.float k m'); binOp op t (.float k n') (.float k m') : Sem Value).run P w = .ok v' w' → (execOp a.eval o).run P w = .ok (.value v') w' := by
        intro v' w' e
        simp only [execOp, h, e1, f1]
        rw [Sem.run_bind, e]
        rfl
      cases hn : (nanB k n || nanB k m) with
      | true =>
        rw [hn] at hr
        simp only [cond_true] at hr
        have hn' : (nanB k n' || nanB k m') = true := by rw [e2, f2]; exact hn
        cases ha : arithF k op n' m' with
        | none =>
          obtain ⟨r1, q, rfl⟩ := run_cmpF (P := P) hn' hr ha t x y w
          exact ⟨ρ, _, w, .inl (key r1), .bool _, Mv.refl hw _⟩
        | some r =>
          obtain ⟨z1, z2, z3, z4, _⟩ := arith_nan hn'
          have hrn : r = none ∧ v = .float k (qnan k) := by
            unfold arithF at ha
            split at ha <;> simp at ha <;> simp at hr <;> subst ha <;> subst hr
            · exact ⟨z1, rfl⟩
            · exact ⟨z2, rfl⟩
            · exact ⟨z3, rfl⟩
            · exact ⟨z4, rfl⟩
          obtain ⟨rfl, rfl⟩ := hrn
          have r1 := run_arithF_none (P := P) ha t x y w
          exact ⟨ρ, _, w.drew, .inl (key r1), .nan _ _ _ (qnan_nan k) (cut_nan _ _ _ _), Mv.drew hw _⟩
      | false =>
        rw [hn] at hr
        simp only [cond_false] at hr
        simp only [Bool.or_eq_false_iff] at hn
        have e4 := e3 hn.1
        have f4 := f3 hn.2
        subst e4 f4
        split at hr
        · rename_i ha
          cases hr
          have r1 := run_arithF_none (P := P) ha t x y w
          exact ⟨ρ, _, w.drew, .inl (key r1), .nan _ _ _ (qnan_nan k) (cut_nan _ _ _ _), Mv.drew hw _⟩
        · rename_i r ha
          cases hr
          have r1 := run_arithF_some (P := P) ha t x y w
          exact ⟨ρ, _, w, .inl (key r1), .float _ _, Mv.refl hw _⟩
        · cases hr
  · cases hr
theorem op_binOp {P : Program} {o : Oper} {f : AFr} {st : ASt} {op : BinOp} {t ty : TypeId} {x y : Operand} {r : Pr Value} (h : o.op = .binOp op t x y ty) (hr : aBin P op t x y (f.ev x) (f.ev y) = .ok r) :
    (∀ v, r = .ok v → OpR P o f st (.val v st)) ∧ (∀ v, r = .panic v → OpR P o f st (.panic v)) := by
  refine ⟨fun v e => OpR.quiet fun ρ w a hf hw => ?_, fun v e ρ w a hf hw => ?_⟩
  · rcases aBin_ok hr (hf.ev x) (hf.ev y) w with ⟨u, u', e1, e2, e3⟩ | ⟨u, u', e1, e2, e3⟩
    · rw [e] at e1; cases e1
      exact ⟨u', by simp only [execOp, h]; rw [Sem.run_bind, e2]; rfl, e3⟩
    · rw [e] at e1; cases e1
  · rcases aBin_ok hr (hf.ev x) (hf.ev y) w with ⟨u, u', e1, e2, e3⟩ | ⟨u, u', e1, e2, e3⟩
    · rw [e] at e1; cases e1
    · rw [e] at e1; cases e1
      exact ⟨u', by simp only [execOp, h]; rw [Sem.run_bind, e2]; rfl, e3⟩
/-! ### the sign turned -/
theorem neg_mod (a : Nat) : Op.negFloat .f64 a % 2 ^ 63 = a % 2 ^ 63 := by
  show (a ^^^ 2 ^ 63) % 2 ^ 63 = _
  rw [Nat.xor_mod_two_pow]
  simp
theorem neg_div (a : Nat) : Op.negFloat .f64 a / 2 ^ 63 % 2 = 1 - a / 2 ^ 63 % 2 := by
  show (a ^^^ 2 ^ 63) / 2 ^ 63 % 2 = _
  rw [Nat.xor_div_two_pow, Nat.div_self (by decide)]
  have h := Nat.xor_mod_two_pow (a := a / 2 ^ 63) (b := 1) (n := 1)
  rw [Nat.pow_one] at h
  rw [h]
  rcases Nat.mod_two_eq_zero_or_one (a / 2 ^ 63) with e | e <;> rw [e] <;> rfl
theorem read_neg (a : Nat) : Ieee.double.read (Op.negFloat .f64 a) = (Ieee.double.read a).opposite := by
  have s1 : Ieee.double.signWeight = 2 ^ 63 := by decide
  unfold Ieee.Format.read
  simp only [s1, neg_mod, neg_div]
  have hb : (1 - a / 2 ^ 63 % 2 == 1) = !(a / 2 ^ 63 % 2 == 1) := by
    have : a / 2 ^ 63 % 2 < 2 := Nat.mod_lt _ (by decide)
    rcases (by omega : a / 2 ^ 63 % 2 = 0 ∨ a / 2 ^ 63 % 2 = 1) with h | h <;> rw [h] <;> rfl
  rw [hb]
  split
  · rfl
  · split
    · rfl
    · split <;> rfl
theorem neg_nan {a : Nat} (h : nanB .f64 a = true) : nanB .f64 (Op.negFloat .f64 a) = true := by
  obtain ⟨s, p, e⟩ := nan_read h
  have e' : Ieee.double.read a = .nan s p := e
  have h2 := read_neg a
  rw [e'] at h2
  exact nan_of_read (k := .f64) h2
theorem op_negF {P : Program} {o : Oper} {f : AFr} {st : ASt} {u : UnOp} {t : TypeId} {x : Operand} {v : Value} (h : o.op = .unOp u t x) (hv : aNegF u (f.ev x) = some v) : OpR P o f st (.val v st) :=
  OpR.quiet fun ρ w a hf hw => by
    have hc := hf.ev x
    unfold aNegF at hv
    split at hv
    · rename_i u' x' b hx
      rw [hx] at hc
      cases hv
      obtain ⟨b', e1, e2, e3⟩ := float_inv hc
      refine ⟨.float .f64 (Op.negFloat .f64 b'), ?_, ?_⟩
      · simp only [execOp, h, e1]; rfl
      · cases hb : nanB .f64 b with
        | true => exact .nan _ _ _ (qnan_nan _) (neg_nan (e2.trans hb))
        | false => rw [e3 hb]; exact .float _ _
    · cases hv
end Go.Proofs.YtpbnlbbieaokoaaGreatDoor.Ev
