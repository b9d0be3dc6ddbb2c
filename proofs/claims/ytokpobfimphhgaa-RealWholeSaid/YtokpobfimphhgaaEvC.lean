/-
  What the evaluator says of single operations holds of their runs: maps.
-/
import Derived.Test.YtokpobfimphhgaaEvB
set_option linter.unusedVariables false
set_option linter.unusedSimpArgs false
namespace Go.Proofs.Ytokpobfimphhgaa.Ev
open Go

def EL (ρ : Rho) : List MapEntry → List MapEntry → Prop
  | [], [] => True
  | e :: l, e' :: l' => (e'.key = e.key ∧ e'.born = e.born ∧ ground 3 e.key = true ∧ VR ρ e.val e'.val) ∧ EL ρ l l'
  | _, _ => False
theorem EL.of_idx {ρ : Rho} : ∀ {l l' : List MapEntry}, l'.length = l.length → (∀ (i : Nat) (e : MapEntry), l[i]? = some e → ∃ e', l'[i]? = some e' ∧ e'.key = e.key ∧ e'.born = e.born ∧ ground 3 e.key = true ∧ VR ρ e.val e'.val) → EL ρ l l'
  | [], [], _, _ => trivial
  | e :: l, e' :: l', hl, h => by
    obtain ⟨e2, h1, h2⟩ := h 0 e rfl
    cases h1
    exact ⟨h2, EL.of_idx (by simpa using hl) fun i x hx => by simpa using h (i + 1) x (by simpa using hx)⟩
  | [], _ :: _, hl, _ => by simp at hl
  | _ :: _, [], hl, _ => by simp at hl
theorem EL.idx {ρ : Rho} : ∀ {l l' : List MapEntry}, EL ρ l l' → l'.length = l.length ∧ ∀ (i : Nat) (e : MapEntry), l[i]? = some e → ∃ e', l'[i]? = some e' ∧ e'.key = e.key ∧ e'.born = e.born ∧ ground 3 e.key = true ∧ VR ρ e.val e'.val
  | [], [], _ => ⟨rfl, fun i e h => by simp at h⟩
  | e :: l, e' :: l', h => by
    obtain ⟨h1, h2⟩ := EL.idx h.2
    refine ⟨by simp [h1], fun i x hx => ?_⟩
    cases i with
    | zero => simp at hx; subst hx; exact ⟨e', rfl, h.1⟩
    | succ i => simpa using h2 i x (by simpa using hx)
  | [], _ :: _, h => h.elim
  | _ :: _, [], h => h.elim
theorem keyEq_run {P : Program} {kt : TypeId} {k l : Value} {b : Bool} (h : keyEq P kt k l = .ok b) (w : World) : (Op.equal kt k l).run P w = .ok b w := by
  unfold keyEq at h
  split at h
  · rename_i b' hb; cases h; exact pureRun_ok hb w
  · cases h
theorem sameNow_eq {P : Program} {kt : TypeId} {d : TypeDesc} {k l : Value} {b b' : Bool} (n : Nat) (hd : undL P kt = .ok d) (h : Instr.sameNow d k l = some b) (w : World) (hr : (Op.equalIn (n + 1) kt k l).run P w = .ok b' w) : b = b' := by
  unfold Instr.sameNow at h
  split at h
  · rename_i _ kk a kk' b2
    split at h
    · rename_i hk
      cases h
      simp [Op.equalIn, run_und hd, hk] at hr
      exact hr
    · cases h
  · cases h
    simp [Op.equalIn, run_und hd] at hr
    exact hr
  · cases h
    simp [Op.equalIn, run_und hd] at hr
    exact hr
  · cases h
theorem findL_run {P : Program} {ρ : Rho} {kt : TypeId} {k : Value} {d : TypeDesc} (w : World) (hd : undL P kt = .ok d) : ∀ {es E : List MapEntry} {i : Nat} {r : Option (Nat × MapEntry)}, findL P kt k es i = .ok r → EL ρ es E →
    ∃ r', (Instr.findAsking kt k E i).run P w = .ok r' w ∧ (∀ q, Instr.findNow d k E i = some q → q = r') ∧
      ((r = none ∧ r' = none) ∨ ∃ j e e', r = some (i + j, e) ∧ r' = some (i + j, e'.val) ∧ es[j]? = some e ∧ E[j]? = some e' ∧ VR ρ e.val e'.val) := by
  intro es
  induction es with
  | nil =>
    intro E i r h hE
    cases E with
    | nil => cases h; exact ⟨none, rfl, fun q hq => by simp only [Instr.findNow, Option.some.injEq] at hq; exact hq.symm, .inl ⟨rfl, rfl⟩⟩
    | cons e' E => exact hE.elim
  | cons e es ih =>
    intro E i r h hE
    cases E with
    | nil => exact hE.elim
    | cons e' E =>
      simp only [findL] at h
      obtain ⟨b, h1, h2⟩ := bnd_ok h
      have hk := keyEq_run h1 w
      obtain ⟨⟨a1, a2, a3, a4⟩, a5⟩ := hE
      rw [← a1] at hk
      cases b with
      | true =>
        simp only [cond_true] at h2
        cases h2
        refine ⟨some (i, e'.val), by simp only [Instr.findAsking, Sem.run_bind, hk, Result.andThen_ok, if_true, Sem.run_pure], fun q hq => ?_, .inr ⟨0, e, e', by simp, by simp, rfl, rfl, a4⟩⟩
        simp only [Instr.findNow] at hq
        cases hs : Instr.sameNow d k e'.key with
        | none => rw [hs] at hq; cases hq
        | some b =>
          have := sameNow_eq 9999 hd hs w hk
          subst this
          rw [hs] at hq
          simp only [Option.some.injEq] at hq
          exact hq.symm
      | false =>
        simp only [cond_false] at h2
        obtain ⟨r', r1, r2, r3⟩ := ih h2 a5
        refine ⟨r', by simp only [Instr.findAsking, Sem.run_bind, hk, Result.andThen_ok, Bool.false_eq_true, if_false]; exact r1, fun q hq => ?_, ?_⟩
        · simp only [Instr.findNow] at hq
          cases hs : Instr.sameNow d k e'.key with
          | none => rw [hs] at hq; cases hq
          | some b =>
            have := sameNow_eq 9999 hd hs w hk
            subst this
            rw [hs] at hq
            exact r2 q hq
        · rcases r3 with r3 | ⟨j, x, x', b1, b2, b3, b4, b5⟩
          · exact .inl r3
          · exact .inr ⟨j + 1, x, x', by rw [b1]; congr 2; omega, by rw [b2]; congr 2; omega, by simpa using b3, by simpa using b4, b5⟩
theorem findKey_run {P : Program} {ρ : Rho} {kt : TypeId} {k : Value} (w : World) (hdd : ∃ d, undL P kt = .ok d) {es E : List MapEntry} {r : Option (Nat × MapEntry)} (h : findL P kt k es 0 = .ok r) (hE : EL ρ es E) :
    ∃ r', (Instr.findKey kt k E).run P w = .ok r' w ∧ ((r = none ∧ r' = none) ∨ ∃ j e e', r = some (j, e) ∧ r' = some (j, e'.val) ∧ es[j]? = some e ∧ E[j]? = some e' ∧ VR ρ e.val e'.val) := by
  obtain ⟨d, hd⟩ := hdd
  obtain ⟨r', r1, r2, r3⟩ := findL_run w hd h hE
  refine ⟨r', ?_, by simpa using r3⟩
  simp only [Instr.findKey, Sem.run_bind, run_und hd, Result.andThen_ok]
  cases hq : Instr.findNow d k E 0 with
  | none => exact r1
  | some q => rw [r2 q hq]; rfl
theorem keyOk_run {P : Program} {kt : TypeId} {e : Bool} {k : Value} {u : Unit} (h : keyOk P kt e k = .ok u) : ground 3 k = true ∧ ∀ w, (Instr.checkKey e 10000 kt k).run P w = .ok () w := by
  unfold keyOk at h
  obtain ⟨h1, h2⟩ := cond_ok h
  split at h2
  · rename_i hu; exact ⟨h1, fun w => pureRun_ok hu w⟩
  · cases h2
theorem ObjR.map_el {ρ : Rho} {es : List MapEntry} {clock : Nat} {s : Spot} {w : World} (h : ObjR ρ (.map es clock) s w) : ∃ E, w.heap[s.blk]? = some (.map E clock) ∧ EL ρ es E.toList := by
  obtain ⟨_, E, h1, h2, h3⟩ := h
  exact ⟨E, h1, EL.of_idx (by simpa using h2) fun i e he => by simpa using h3 i e he⟩
theorem ObjR.of_el {ρ : Rho} {es : List MapEntry} {clock : Nat} {s : Spot} {w : World} {E : Array MapEntry} (h0 : s.void = false) (h1 : w.heap[s.blk]? = some (.map E clock)) (h2 : EL ρ es E.toList) : ObjR ρ (.map es clock) s w := by
  obtain ⟨h3, h4⟩ := h2.idx
  exact ⟨h0, E, h1, by simpa using h3, fun i e he => by simpa using h4 i e he⟩
theorem op_lookup {P : Program} {o : Oper} {f : AFr} {st : ASt} {t kt et : TypeId} {x i : Operand} {ok : Bool} {es : List MapEntry} {u : Unit} {r : Option (Nat × MapEntry)} {z : Value} (h : o.op = .lookup t x i ok) (hd : undL P t = .ok (.map kt et)) (hk : ∃ d, undL P kt = .ok d)
    (hm : mapEs st (f.ev x) = .ok es) (hc : keyOk P kt es.isEmpty (f.ev i) = .ok u) (hf : findL P kt (f.ev i) es 0 = .ok r) (hz : zeroV P et = .ok z) :
    OpR P o f st (.val (cond ok (.tuple #[foundV r z, .bool r.isSome]) (foundV r z)) st) :=
  OpR.quiet fun ρ w a hfr hw => by
    obtain ⟨g1, g2⟩ := keyOk_run hc
    have hI := VR.ground 3 g1 (hfr.ev i)
    have hX := hfr.ev x
    obtain ⟨z1, z2⟩ := zeroV_run (ρ := ρ) hz
    have main : ∃ E : Array MapEntry, EL ρ es E.toList ∧ ((a.eval x = .map none ∧ E = #[]) ∨ ∃ b clock, a.eval x = .map (some b) ∧ w.heap[b]? = some (.map E clock)) := by
      unfold mapEs at hm
      split at hm
      · rename_i e
        cases hm
        rw [e] at hX
        generalize hA : a.eval x = A at hX
        cases hX
        exact ⟨#[], trivial, .inl ⟨rfl, rfl⟩⟩
      · rename_i b e
        split at hm
        · rename_i es' clock hg
          cases hm
          rw [e] at hX
          generalize hA : a.eval x = A at hX
          cases hX with
          | map _ s hs =>
            obtain ⟨s', e1, e2⟩ := hw.obj _ _ hg
            rw [hs] at e1; cases e1
            obtain ⟨E, e3, e4⟩ := e2.map_el
            exact ⟨E, e4, .inr ⟨_, _, rfl, e3⟩⟩
        · cases hm
      · cases hm
    obtain ⟨E, hE, hx⟩ := main
    obtain ⟨r', r1, r2⟩ := findKey_run (P := P) w hk hf hE
    have hemp : E.isEmpty = es.isEmpty := by
      have := hE.idx.1
      cases es with
      | nil => simp at this; simp [this]
      | cons e l => cases hl : E.toList with
        | nil => rw [hl] at this; simp at this
        | cons => simp only [List.isEmpty_cons]; rw [← Array.isEmpty_toList, hl]; rfl
    have hval : ∀ v', (v' = (match r' with | some (_, v) => v | none => z)) → VR ρ (cond ok (.tuple #[foundV r z, .bool r.isSome]) (foundV r z)) (if ok then .tuple #[v', .bool r.isSome] else v') := by
      intro v' hv'
      have hv : VR ρ (foundV r z) v' := by
        rcases r2 with ⟨rfl, rfl⟩ | ⟨j, e, e', rfl, rfl, _, _, hv⟩
        · rw [hv']; exact z2
        · rw [hv']; exact hv
      cases ok with
      | true => exact VR.pair hv _
      | false => exact hv
    refine ⟨_, ?_, hval _ rfl⟩
    have hgo : ∀ b clock, w.heap[b]? = some (.map E clock) → (getObj b).run P w = .ok (.map E clock) w := fun b clock e => by simp [getObj, Sem.run, e]
    rcases hx with ⟨hx, rfl⟩ | ⟨b, clock, hx, hb⟩
    · rcases r2 with ⟨rfl, rfl⟩ | ⟨j, e, e', rfl, rfl, _, hj, hv⟩
      · simp only [execOp, h, Instr.lookup, Sem.run_bind, run_und hd, Result.andThen_ok, hx, Sem.run_pure, hI, hemp, g2, r1, z1]
        cases ok <;> rfl
      · simp at hj
    · rcases r2 with ⟨rfl, rfl⟩ | ⟨j, e, e', rfl, rfl, _, hj, hv⟩
      · simp only [execOp, h, Instr.lookup, Sem.run_bind, run_und hd, Result.andThen_ok, hx, hgo b clock hb, Sem.run_pure, hI, hemp, g2, r1, z1]
        cases ok <;> rfl
      · simp only [execOp, h, Instr.lookup, Sem.run_bind, run_und hd, Result.andThen_ok, hx, hgo b clock hb, Sem.run_pure, hI, hemp, g2, r1, z1]
        cases ok <;> rfl
theorem EL.mono {ρ ρ' : Rho} (hs : Sub ρ ρ') : ∀ {l l' : List MapEntry}, EL ρ l l' → EL ρ' l l'
  | [], [], _ => trivial
  | _ :: _, _ :: _, h => ⟨⟨h.1.1, h.1.2.1, h.1.2.2.1, h.1.2.2.2.mono hs⟩, EL.mono hs h.2⟩
  | [], _ :: _, h => h.elim
  | _ :: _, [], h => h.elim
theorem EL.snoc {ρ : Rho} {x x' : MapEntry} (hx : x'.key = x.key ∧ x'.born = x.born ∧ ground 3 x.key = true ∧ VR ρ x.val x'.val) : ∀ {l l' : List MapEntry}, EL ρ l l' → EL ρ (l ++ [x]) (l' ++ [x'])
  | [], [], _ => ⟨hx, trivial⟩
  | _ :: _, _ :: _, h => ⟨h.1, EL.snoc hx h.2⟩
  | [], _ :: _, h => h.elim
  | _ :: _, [], h => h.elim
theorem EL.set {ρ : Rho} {x x' : MapEntry} (hx : x'.key = x.key ∧ x'.born = x.born ∧ ground 3 x.key = true ∧ VR ρ x.val x'.val) : ∀ {l l' : List MapEntry} (i : Nat), EL ρ l l' → EL ρ (l.set i x) (l'.set i x')
  | [], [], _, _ => trivial
  | _ :: _, _ :: _, 0, h => ⟨hx, h.2⟩
  | _ :: _, _ :: _, i + 1, h => ⟨h.1, EL.set hx i h.2⟩
  | [], _ :: _, _, h => h.elim
  | _ :: _, [], _, h => h.elim
theorem op_mapUpdate {P : Program} {o : Oper} {f : AFr} {st : ASt} {t kt et : TypeId} {m k x : Operand} {b : Nat} {es : List MapEntry} {clock : Nat} {u : Unit} {r : Option (Nat × MapEntry)} {out : AN} (h : o.op = .mapUpdate t m k x ∨ o.op = .insert t m k x) (hd : undL P t = .ok (.map kt et)) (hk : ∃ d, undL P kt = .ok d)
    (hm : f.ev m = .map (some b)) (hg : st.h.get b = some (.map es clock)) (hc : keyOk P kt false (f.ev k) = .ok u)
    (ho : (match r with
      | some (i, e) => cond (Instr.sameBits 10000 e.key (f.ev k)) (.ok (.val undef (st.set b (some (.map (es.set i { e with key := f.ev k, val := f.ev x }) clock))))) (.er "update: bits")
      | none => .ok (.val undef (st.set b (some (.map (es ++ [{ key := f.ev k, val := f.ev x, born := clock }]) (clock + 1))))) : Rs AN) = .ok out) (hf : findL P kt (f.ev k) es 0 = .ok r) : OpR P o f st out := by
  obtain ⟨g1, g2⟩ := keyOk_run hc
  have hexec : ∀ ρv : Operand → Value, execOp ρv o = (do Instr.mapUpdate t (ρv m) (ρv k) (ρv x); pure .skip) := by
    intro ρv; rcases h with h | h <;> simp only [execOp, h]
  have common : ∀ (ρ : Rho) (w : World) (a : Act), FrR ρ f a → WR ρ st.h.get w → ∃ s E, ρ b = some s ∧ a.eval m = .map (some s.blk) ∧ w.heap[s.blk]? = some (.map E clock) ∧ EL ρ es E.toList ∧ a.eval k = f.ev k ∧ (getObj s.blk).run P w = .ok (.map E clock) w ∧
      ∀ o' : Obj, (setObj s.blk o').run P w = .ok () { w with heap := w.heap.setIfInBounds s.blk o' } := by
    intro ρ w a hfr hw
    have hM := hfr.ev m
    rw [hm] at hM
    generalize hA : a.eval m = A at hM
    cases hM with
    | map _ s hs =>
      obtain ⟨s', e1, e2⟩ := hw.obj _ _ hg
      rw [hs] at e1; cases e1
      obtain ⟨E, e3, e4⟩ := e2.map_el
      exact ⟨s, E, hs, rfl, e3, e4, VR.ground 3 g1 (hfr.ev k), by simp [getObj, Sem.run, e3], fun o' => by simp [setObj, Sem.run, e3]⟩
  have fin : ∀ (ρ : Rho) (w : World) (es' : List MapEntry) (cl : Nat) (E' : Array MapEntry) (s : Spot), WR ρ st.h.get w → ρ b = some s → EL ρ es' E'.toList →
      Mv ρ ρ st.h.get (st.set b (some (.map es' cl))).h.get st.next st.next w { w with heap := w.heap.setIfInBounds s.blk (.map E' cl) } := by
    intro ρ w es' cl E' s hw hs hE
    have : (st.set b (some (.map es' cl))).h.get = upd st.h.get b (some (.map es' cl)) := by simp [ASt.set, set_get]
    rw [this]
    have h0 : s.void = false := by obtain ⟨s', e1, e2⟩ := hw.obj _ _ hg; rw [hs] at e1; cases e1; exact e2.1
    have hlt := hw.blk b s hs h0
    exact Mv.write _ hw hg rfl hs h0 _ rfl (ObjR.of_el h0 (E := E') (by simp [hlt]) hE) (by simp) (fun b' hb => by simp only; rw [Array.getElem?_setIfInBounds_ne (Ne.symm hb)]) rfl rfl rfl
  cases r with
  | none =>
    cases ho
    refine ⟨LoS.set _ _ _ (.inr ⟨_, hg⟩), fun ρ w a hfr hw _ => ?_⟩
    obtain ⟨s, E, c1, c2, c3, c4, c5, c6, c7⟩ := common ρ w a hfr hw
    obtain ⟨r', r1, r2⟩ := findKey_run (P := P) w hk hf c4
    rcases r2 with ⟨_, rfl⟩ | ⟨j, e, e', q, _⟩
    · refine ⟨ρ, undef, _, .inr ⟨?_, rfl⟩, .tuple _ _ rfl (fun i x y hx => by simp at hx), fin ρ w _ _ (E.push { key := f.ev k, val := a.eval x, born := clock }) s hw c1 ?_⟩
      · rw [hexec, c2, c5]
        simp only [Instr.mapUpdate, Sem.run_bind, run_und hd, Result.andThen_ok, c6, g2, r1, c7, Sem.run_pure]
      · rw [Array.toList_push]
        exact EL.snoc (x := { key := f.ev k, val := f.ev x, born := clock }) (x' := { key := f.ev k, val := a.eval x, born := clock }) ⟨rfl, rfl, g1, hfr.ev x⟩ c4
    · cases q
  | some p =>
    obtain ⟨i, e⟩ := p
    simp only at ho
    obtain ⟨hb, ho⟩ := cond_ok ho
    cases ho
    refine ⟨LoS.set _ _ _ (.inr ⟨_, hg⟩), fun ρ w a hfr hw _ => ?_⟩
    obtain ⟨s, E, c1, c2, c3, c4, c5, c6, c7⟩ := common ρ w a hfr hw
    obtain ⟨r', r1, r2⟩ := findKey_run (P := P) w hk hf c4
    rcases r2 with ⟨q, _⟩ | ⟨j, e2, e', q, rfl, q3, q4, q5⟩
    · cases q
    · cases q
      obtain ⟨i1, i2⟩ := c4.idx
      obtain ⟨e3, j1, j2, j3, j4, j5⟩ := i2 i e q3
      rw [q4] at j1; cases j1
      have hE : E[i]? = some e' := by simpa using q4
      refine ⟨ρ, undef, _, .inr ⟨?_, rfl⟩, .tuple _ _ rfl (fun i x y hx => by simp at hx), fin ρ w _ _ (E.modify i fun z => { z with key := f.ev k, val := a.eval x }) s hw c1 ?_⟩
      · rw [hexec, c2, c5]
        simp only [Instr.mapUpdate, Sem.run_bind, run_und hd, Result.andThen_ok, c6, g2, r1, hE, Option.map_some, Option.getD_some, j2, Instr.keyThatStays, hb, if_true, Sem.run_pure, c7]
      · have : (E.modify i fun z => { z with key := f.ev k, val := a.eval x }).toList = E.toList.set i { e' with key := f.ev k, val := a.eval x } := by
          apply List.ext_getElem?
          intro q
          rw [Array.getElem?_toList, Array.getElem?_modify, List.getElem?_set]
          by_cases hq : i = q
          · subst hq
            have hlt : i < E.toList.length := (List.getElem?_eq_some_iff.1 q4).1
            simp [hE, hlt]
            simpa using hlt
          · simp [hq]
        rw [this]
        exact EL.set (x := { e with key := f.ev k, val := f.ev x }) (x' := { e' with key := f.ev k, val := a.eval x }) ⟨rfl, j3, g1, hfr.ev x⟩ i c4
end Go.Proofs.Ytokpobfimphhgaa.Ev
