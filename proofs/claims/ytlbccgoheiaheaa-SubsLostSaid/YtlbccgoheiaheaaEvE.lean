/-
  What the evaluator says of single operations holds of their runs: all of them.
-/
import Derived.Test.YtlbccgoheiaheaaEvC
set_option linter.unusedVariables false
set_option linter.unusedSimpArgs false
namespace Go.Proofs.Ytlbccgoheiaheaa.Ev
open Go

theorem builtin_exec {P : Program} {o : Oper} {b : Builtin} {xs : List Operand} {ts : List TypeId} (h : o.op = .call { callee := .builtin b, args := xs.toArray, argTypes := ts.toArray }) (ρ : Operand → Value) :
    ∃ cs, execOp ρ o = builtin b ts.toArray o.type cs (xs.map ρ).toArray := by
  refine ⟨xs.toArray.map fun | .const _ => true | _ => false, ?_⟩
  simp only [execOp, h, resolve]
  rw [LawfulMonad.pure_bind]
  simp [invoke]
  rfl
theorem all_ground {ρ : Rho} {l l' : List Value} (h : VRL ρ l l') (hg : l.all (ground 1) = true) : l' = l := by
  apply List.ext_getElem?
  intro i
  cases hx : l[i]? with
  | none => rw [List.getElem?_eq_none_iff] at hx ⊢; have := h.1; omega
  | some x =>
    obtain ⟨y, hy, hv⟩ := h.get hx
    rw [List.all_eq_true] at hg
    rw [hy, VR.ground 1 (hg x (List.mem_of_getElem? hx)) hv]
theorem op_builtin {P : Program} {o : Oper} {f : AFr} {st : ASt} {b : Builtin} {xs : List Operand} {ts : List TypeId} {r : AN} (h : o.op = .call { callee := .builtin b, args := xs.toArray, argTypes := ts.toArray }) (hr : aBuiltin P st b ts (xs.map f.ev) = .ok r) : OpR P o f st r := by
  have hev : ∀ ρ a, FrR ρ f a → VRL ρ (xs.map f.ev) (xs.map a.eval) := fun ρ a hf => hf.evs xs
  have hexec : ∀ a : Act, ∃ cs, execOp a.eval o = builtin b ts.toArray o.type cs (xs.map a.eval).toArray := fun a => builtin_exec (P := P) h a.eval
  generalize xs.map f.ev = vs at hr hev
  unfold aBuiltin at hr
  split at hr
  · -- append
    unfold aAppend at hr
    split at hr
    rotate_left
    · cases hr
    rename_i t t2 ts s x
    cases hrow : (isRowV s || isRowV x) with
    | true =>
      rw [hrow] at hr
      simp only [cond_true] at hr
      obtain ⟨d, hd, hr1⟩ := bnd_ok hr
      clear hr
      obtain ⟨d2, hd2, hr2⟩ := bnd_ok hr1
      clear hr1
      split at hr2
      · rename_i elem
        obtain ⟨size, hs, hr3⟩ := bnd_ok hr2
        clear hr2
        obtain ⟨by_, hby, hr4⟩ := bnd_ok hr3
        clear hr3
        obtain ⟨z, hz, hr5⟩ := bnd_ok hr4
        clear hr4
        obtain ⟨nf, hn, hr6⟩ := bnd_ok hr5
        clear hr5
        split at hr6
        · rename_i base len cap
          obtain ⟨hc, hr7⟩ := cond_ok hr6
          clear hr6
          obtain ⟨c1, hr8⟩ := cond_ok hr7
          clear hr7
          simp only [Bool.and_eq_true] at hc
          have c1 := Nat.le_of_ble_eq_true c1
          have c2 := Nat.le_of_ble_eq_true hc.1
          have c3 := Nat.eq_of_beq_eq_true hc.2
          obtain ⟨n, ff⟩ := nf
          simp only at c1 hr8
          have hst : ∃ v st', r = .val v st' ∧ LoS st st' ∧ st'.next = st.next + 1 := by
            unfold aAppendR at hr8
            split at hr8
            · cases hr8; exact ⟨_, _, rfl, LoS.new _ _, rfl⟩
            · split at hr8
              · cases hr8; exact ⟨_, _, rfl, LoS.new _ _, rfl⟩
              · cases hr8
            · split at hr8
              · obtain ⟨_, hr8⟩ := cond_ok hr8
                obtain ⟨_, hr8⟩ := cond_ok hr8
                cases hr8; exact ⟨_, _, rfl, (LoS.set _ _ _ (.inl rfl)).trans (LoS.new _ _), rfl⟩
              · cases hr8
            · cases hr8
          obtain ⟨v, st', rfl, hlo, hnx⟩ := hst
          refine ⟨hlo, fun ρ w a hfa hw hfr => ?_⟩
          have hv := hev ρ a hfa
          obtain ⟨s', l1, e1, hS, hv⟩ := hv.uncons
          obtain ⟨x', l2, e2, hX, hv⟩ := hv.uncons
          have e3 := hv.nil_inv
          obtain ⟨cs, hex⟩ := hexec a
          subst e3 e2
          rw [e1] at hex
          obtain ⟨ρ', v', w', k1, k2, k3⟩ := appR_sound (P := P) (ty := o.type) (ts := ts) hd hd2 hs hby hz hn c1 c2 c3 hr8 hw hS hX (by rw [← hnx]; exact hfr)
          refine ⟨ρ', v', w', .inl ?_, k2, k3⟩
          rw [hex]
          simp only [builtin, Sem.run_bind]
          rw [k1]
          rfl
        · cases hr6
      · cases hr2
    | false =>
    rw [hrow] at hr
    simp only [cond_false] at hr
    simp only [aAppendC] at hr
    · obtain ⟨d, hd, hr1⟩ := bnd_ok hr
      clear hr
      obtain ⟨d2, hd2, hr2⟩ := bnd_ok hr1
      clear hr1
      split at hr2
      · rename_i elem base len cap
        obtain ⟨size, hs, hr3⟩ := bnd_ok hr2
        clear hr2
        obtain ⟨by_, hby, hr4⟩ := bnd_ok hr3
        clear hr3
        obtain ⟨z, hz, hr5⟩ := bnd_ok hr4
        clear hr4
        obtain ⟨nn, hn, hr6⟩ := bnd_ok hr5
        clear hr5
        obtain ⟨hc, hr7⟩ := cond_ok hr6
        clear hr6
        simp only [Bool.and_eq_true] at hc
        obtain ⟨⟨c1, c2⟩, c3⟩ := hc
        have c1 := Nat.le_of_ble_eq_true c1
        have c2 := Nat.le_of_ble_eq_true c2
        have c3 := Nat.eq_of_beq_eq_true c3
        obtain ⟨n, new⟩ := nn
        simp only at c1 hr7
        have hst : ∃ v st', r = .val v st' := by
          cases hb : Nat.ble (len + n) cap with
          | true =>
            rw [hb] at hr7
            simp only [cond_true] at hr7
            split at hr7
            · cases hr7; exact ⟨_, _, rfl⟩
            · obtain ⟨st1, _, e⟩ := bnd_ok hr7; cases e; exact ⟨_, _, rfl⟩
            · cases hr7
          | false =>
            rw [hb] at hr7
            simp only [cond_false] at hr7
            split at hr7
            · cases hr7; exact ⟨_, _, rfl⟩
            · obtain ⟨old, _, e⟩ := bnd_ok hr7
              split at e
              · cases e; exact ⟨_, _, rfl⟩
              · obtain ⟨_, e⟩ := cond_ok e; cases e; exact ⟨_, _, rfl⟩
              · cases e
            · cases hr7
        obtain ⟨v, st', rfl⟩ := hst
        refine ⟨?_, fun ρ w a hfa hw hfr => ?_⟩
        · cases hb : Nat.ble (len + n) cap with
          | true =>
            rw [hb] at hr7
            simp only [cond_true] at hr7
            split at hr7
            · cases hr7; exact LoS.refl _
            · obtain ⟨st1, e1, e⟩ := bnd_ok hr7; cases e; exact write_lo e1
            · cases hr7
          | false =>
            rw [hb] at hr7
            simp only [cond_false] at hr7
            split at hr7
            · cases hr7; exact LoS.new _ _
            · obtain ⟨old, _, e⟩ := bnd_ok hr7
              split at e
              · cases e; exact LoS.new _ _
              · obtain ⟨_, e⟩ := cond_ok e; cases e; exact (LoS.set _ _ _ (.inl rfl)).trans (LoS.new _ _)
              · cases e
            · cases hr7
        · have hv := hev ρ a hfa
          obtain ⟨s', l1, e1, hS, hv⟩ := hv.uncons
          obtain ⟨x', l2, e2, hX, hv⟩ := hv.uncons
          have e3 := hv.nil_inv
          obtain ⟨cs, hex⟩ := hexec a
          subst e3 e2
          rw [e1] at hex
          obtain ⟨ρ', v', w', k1, k2, k3⟩ := app_sound (P := P) (ty := o.type) (ts := ts) hd hd2 hs hby hz hn c1 c2 c3 hr7 hw hS hX hfr
          refine ⟨ρ', v', w', .inl ?_, k2, k3⟩
          rw [hex]
          simp only [builtin, Sem.run_bind]
          rw [k1]
          rfl
      · cases hr2
  · -- len
    rename_i t ts x
    obtain ⟨v, h1, h2⟩ := bnd_ok hr
    cases h2
    refine OpR.quiet fun ρ w a hfa hw => ?_
    obtain ⟨x', l1, e1, hX, hv⟩ := (hev ρ a hfa).uncons
    have e3 := hv.nil_inv
    obtain ⟨cs, hex⟩ := hexec a
    subst e3
    rw [e1] at hex
    obtain ⟨k1, k2⟩ := len_rel (P := P) (ts := ts) (ty := o.type) h1 hX hw
    refine ⟨v, ?_, k2⟩
    rw [hex]
    simp only [builtin, Sem.run_bind]
    rw [k1]
    rfl
  · -- cap
    rename_i t ts x
    obtain ⟨d, hd, h2⟩ := bnd_ok hr
    split at h2
    · obtain ⟨v, h1, h3⟩ := bnd_ok h2
      cases h3
      refine OpR.quiet fun ρ w a hfa hw => ?_
      obtain ⟨x', l1, e1, hX, hv⟩ := (hev ρ a hfa).uncons
      have e3 := hv.nil_inv
      obtain ⟨cs, hex⟩ := hexec a
      subst e3
      rw [e1] at hex
      obtain ⟨k1, k2⟩ := cap_rel (P := P) (ts := ts) (ty := o.type) h1 hd hX hw
      refine ⟨v, ?_, k2⟩
      rw [hex]
      simp only [builtin, Sem.run_bind]
      rw [k1]
      rfl
    · cases h2
  · -- min
    rename_i ts x rest
    obtain ⟨hg, h2⟩ := cond_ok hr
    split at h2
    · rename_i v hv
      obtain ⟨hg1, h3⟩ := cond_ok h2
      cases h3
      refine OpR.quiet fun ρ w a hfa hw => ?_
      have hall : (x :: rest).all (ground 1) = true := by simpa using hg
      have e1 := all_ground (hev ρ a hfa) hall
      obtain ⟨cs, hex⟩ := hexec a
      rw [e1] at hex
      refine ⟨v, ?_, refl1_VR hg1⟩
      rw [hex]
      simp only [builtin, Sem.run_bind, Builtin.min_, pureRun_ok hv, Result.andThen_ok, Sem.run_pure]
    · cases h2
  · -- max
    rename_i ts x rest
    obtain ⟨hg, h2⟩ := cond_ok hr
    split at h2
    · rename_i v hv
      obtain ⟨hg1, h3⟩ := cond_ok h2
      cases h3
      refine OpR.quiet fun ρ w a hfa hw => ?_
      have hall : (x :: rest).all (ground 1) = true := by simpa using hg
      have e1 := all_ground (hev ρ a hfa) hall
      obtain ⟨cs, hex⟩ := hexec a
      rw [e1] at hex
      refine ⟨v, ?_, refl1_VR hg1⟩
      rw [hex]
      simp only [builtin, Sem.run_bind, Builtin.max_, pureRun_ok hv, Result.andThen_ok, Sem.run_pure]
    · cases h2
  · cases hr
/-- what is called -/
theorem aCall_run {P : Program} {f : FuncId} {args : List Value} {st : ASt} {r : AN} (h : aCall P f args st = .ok r) :
    (r = .enter f args ∧ ∀ (args' : Array Value) (w : World), (callFunc f args').run P w = .ok (.enter f args') w) ∨
    (∃ v, r = .val v st ∧ refl1 v = true ∧ args.all (ground 1) = true ∧ ∀ w, (callFunc f args.toArray).run P w = .ok (.value v) w) := by
  unfold aCall at h
  split at h
  · rename_i fn hfn
    have hfn' : P.funcs[f]? = some fn := by simpa using hfn
    split at h
    · rename_i body hb
      have hc : (fn.name == "runtime.NumGoroutine") = false ∧ r = .enter f args := by
        cases hc : fn.name == "runtime.NumGoroutine" with
        | true => rw [hc] at h; cases h
        | false => rw [hc] at h; cases h; exact ⟨rfl, rfl⟩
      refine .inl ⟨hc.2, fun args' w => ?_⟩
      simp only [callFunc, Sem.run_bind, run_program, Result.andThen_ok, hfn', hc.1, Bool.false_eq_true, if_false, hb, Option.isNone_some, Sem.run_pure]
    · obtain ⟨h1, h2⟩ := cond_ok h
      split at h2
      · rename_i v hv
        obtain ⟨h3, h4⟩ := cond_ok h2
        cases h4
        exact .inr ⟨v, rfl, h3, h1, fun w => pureRun_ok hv w⟩
      · cases h2
  · cases h
theorem op_callValue {P : Program} {o : Oper} {f : AFr} {st : ASt} {g : Operand} {xs : List Operand} {ts : Array TypeId} {fn : Fn} {a0 b0 : Array Value} {r : AN} (h : o.op = .call { callee := .value g, args := xs.toArray, argTypes := ts }) (hg : f.ev g = .func fn a0 b0)
    (hr : aInvoke P fn (a0.toList ++ xs.map f.ev) b0.toList st = .ok r) : OpR P o f st r := by
  unfold aInvoke at hr
  split at hr
  · rename_i fid
    have common : ∀ (ρ : Rho) (w : World) (a : Act), FrR ρ f a → ∃ args' : List Value, execOp a.eval o = callFunc fid args'.toArray ∧ VRL ρ (a0.toList ++ xs.map f.ev ++ b0.toList) args' := by
      intro ρ w a hf
      have hG := hf.ev g
      rw [hg] at hG
      generalize hA : a.eval g = A at hG
      cases hG with
      | func _ _ a1 _ b1 ha hb h1 h2 =>
        refine ⟨a1.toList ++ xs.map a.eval ++ b1.toList, ?_, ((VRL.of_arrays ha h1).append (hf.evs xs)).append (VRL.of_arrays hb h2)⟩
        simp only [execOp, h, resolve, hA, Deferred.ofValue]
        rw [LawfulMonad.pure_bind]
        simp only [invoke]
        congr 1
        apply Array.toList_inj.1
        simp
    rcases aCall_run hr with ⟨rfl, h1⟩ | ⟨v, rfl, h1, h2, h3⟩
    · intro ρ w a hf hw
      obtain ⟨args', e1, e2⟩ := common ρ w a hf
      exact ⟨args'.toArray, by rw [e1]; exact h1 _ w, by simpa using e2⟩
    · refine OpR.quiet fun ρ w a hf hw => ?_
      obtain ⟨args', e1, e2⟩ := common ρ w a hf
      have := all_ground e2 h2
      subst this
      exact ⟨v, by rw [e1]; exact h3 w, refl1_VR h1⟩
  · cases hr
theorem op_defer {P : Program} {o : Oper} {f : AFr} {st : ASt} {g : Operand} {xs : List Operand} {ts : Array TypeId} {fn : Fn} {a0 b0 : Array Value} (h : o.op = .defer { callee := .value g, args := xs.toArray, argTypes := ts }) (hg : f.ev g = .func fn a0 b0) :
    OpR P o f st (.defer ⟨fn, b0.toList, a0.toList ++ xs.map f.ev⟩) := by
  intro ρ w a hf hw
  have hG := hf.ev g
  rw [hg] at hG
  generalize hA : a.eval g = A at hG
  cases hG with
  | func _ _ a1 _ b1 ha hb h1 h2 =>
    refine ⟨{ target := .fn fn b1, args := a1 ++ (xs.map a.eval).toArray }, ?_, b1, _, rfl, VRL.of_arrays hb h2, ?_⟩
    · simp only [execOp, h, resolve, hA, Deferred.ofValue]
      rw [LawfulMonad.pure_bind]
      simp
    · simpa using (VRL.of_arrays ha h1).append (hf.evs xs)
theorem op_panic {P : Program} {o : Oper} {f : AFr} {st : ASt} {x : Operand} {t : TypeId} {v : Value} (h : o.op = .panic x) (hx : f.ev x = .iface t v) : OpR P o f st (.panic (.iface t v)) := by
  intro ρ w a hf hw
  have hX := hf.ev x
  rw [hx] at hX
  generalize hA : a.eval x = A at hX
  cases hX with
  | iface _ _ v' hv => exact ⟨.iface t v', by simp [execOp, h, hA, Instr.panic], .iface _ _ _ hv⟩
end Go.Proofs.Ytlbccgoheiaheaa.Ev
