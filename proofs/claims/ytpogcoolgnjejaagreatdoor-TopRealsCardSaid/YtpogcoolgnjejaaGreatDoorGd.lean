/-
  What the evaluator says of single operations holds of their runs: all of them.
-/
import Derived.Test.YtpogcoolgnjejaaGreatDoorGc
import Derived.Test.YtpogcoolgnjejaaGreatDoorGa
import Derived.Orders
set_option linter.unusedVariables false
set_option linter.unusedSimpArgs false
namespace Go.Proofs.YtpogcoolgnjejaaGreatDoor.Ev
open Go

theorem builtin_exec {P : Program} {o : Oper} {b : Builtin} {xs : List Operand} {ts : List TypeId} (h : o.op = .call { callee := .builtin b, args := xs.toArray, argTypes := ts.toArray }) (ρ : Operand → Value) :
    ∃ cs, execOp ρ o = builtin b ts.toArray o.type cs (xs.map ρ).toArray := by
  refine ⟨xs.toArray.map fun | .const _ => true | _ => false, ?_⟩
  simp only [execOp, h, resolve]
  rw [LawfulMonad.pure_bind]
  simp [invoke]
  rfl
theorem all_ground {ρ : Rho} {l l' : List Value} (h : VRL ρ l l') (hg : l.all (ground 1) = true) : l' = l := by
  apply List.ext_getElem?
  intro i
  cases hx : l[i]? with
  | none => rw [List.getElem?_eq_none_iff] at hx ⊢; have := h.1; omega
  | some x =>
    obtain ⟨y, hy, hv⟩ := h.get hx
    rw [List.all_eq_true] at hg
    rw [hy, VR.ground 1 (hg x (List.mem_of_getElem? hx)) hv]
theorem cut_mm (k : FloatKind) (mx : Bool) (x y t : Nat) : nanB k ((Question.nanMinMax k mx x y).cut t) = true := by
  have : (Question.nanMinMax k mx x y).cut t = (Question.nanBits k x y).cut t := by cases k <;> rfl
  rw [this]
  exact cut_nan k x y t
theorem mm_run {P : Program} (ρ : Rho) {k : FloatKind} {a b a' b' : Nat} (a1 : nanB k a' = nanB k a) (a2 : nanB k a = false → a' = a) (b1 : nanB k b' = nanB k b) (b2 : nanB k b = false → b' = b) (mx : Bool) (w : World) :
    ∃ r w', ((cond mx Builtin.max2 Builtin.min2) (.float k a') (.float k b')).run P w = .ok (.float k r) w' ∧ (w' = w ∨ w' = w.drew) ∧ VR ρ (.float k (mmF mx k a b)) (.float k r) := by
  have hord : k.format.order a' b' = k.format.order a b := by
    cases hn : (nanB k a || nanB k b) with
    | true => rw [(arith_nan hn).2.2.2.2, (arith_nan (a := a') (b := b') (by rw [a1, b1]; exact hn)).2.2.2.2]
    | false =>
      simp only [Bool.or_eq_false_iff] at hn
      rw [a2 hn.1, b2 hn.2]
  cases ho : k.format.order a b with
  | none =>
    rw [ho] at hord
    refine ⟨(Question.nanMinMax k mx a' b').cut (w.tape w.drawn (.nanMinMax k mx a' b')), w.drew, ?_, .inr rfl, ?_⟩
    · cases mx <;> simp only [cond_true, cond_false, Builtin.max2, Builtin.min2, hord, Sem.run_bind, run_choose_drew, Question.forced, Bool.false_eq_true, if_false, Result.andThen_ok, Sem.run_pure]
    · unfold mmF; rw [ho]; exact .nan _ _ _ (qnan_nan k) (cut_mm _ _ _ _ _)
  | some o =>
    have hn : (nanB k a || nanB k b) = false := by
      cases hn : (nanB k a || nanB k b) with
      | false => rfl
      | true => rw [(arith_nan hn).2.2.2.2] at ho; cases ho
    simp only [Bool.or_eq_false_iff] at hn
    have e1 := a2 hn.1
    have e2 := b2 hn.2
    subst e1 e2
    refine ⟨mmF mx k a' b', w, ?_, .inl rfl, .float _ _⟩
    unfold mmF
    rw [ho]
    cases mx <;> cases o <;> simp only [cond_true, cond_false, Builtin.max2, Builtin.min2, ho, Sem.run_pure]
    all_goals (cases (k.decode a').neg <;> rfl)
theorem minN_min (a b : Nat) : minN a b = Nat.min b a := by
  unfold minN
  cases h : Nat.ble a b with
  | true => have := Nat.le_of_ble_eq_true h; simp only [cond_true]; exact (Nat.min_eq_right this).symm
  | false =>
    have : ¬ a ≤ b := fun h2 => by rw [Nat.ble_eq_true_of_le h2] at h; cases h
    simp only [cond_false]
    exact (Nat.min_eq_left (by omega)).symm
/-- copy, of cells to cells -/
theorem copy_sound {P : Program} {ρ : Rho} {st st' : ASt} {w : World} {t ty : TypeId} {ts : List TypeId} {base b2 : Option Addr} {len c n2 c2 : Nat} {s' x' v : Value} (h : aCopy P st t base len b2 n2 = .ok (.val v st'))
    (hw : WR ρ st.h.get w) (hS : VR ρ (.slice base len c) s') (hX : VR ρ (.slice b2 n2 c2) x') :
    ∃ v' w', (Builtin.copy_ (t :: ts).toArray ty #[s', x']).run P w = .ok v' w' ∧ VR ρ v v' ∧ Mv ρ ρ st.h.get st'.h.get st.next st'.next w w' := by
  unfold aCopy at h
  obtain ⟨d, hd, h0⟩ := bnd_ok h
  clear h
  split at h0
  rotate_left
  · cases h0
  rename_i elem
  obtain ⟨size, hs, h⟩ := bnd_ok h0
  clear h0
  cases hz : Nat.beq (minN len n2) 0 with
  | true =>
    rw [hz] at h
    simp only [cond_true] at h
    cases h
    obtain ⟨b', c', rfl⟩ := slice_form hS
    obtain ⟨b2', c2', rfl⟩ := slice_form hX
    have h0 : Nat.min n2 len = 0 := by rw [← minN_min]; exact Nat.eq_of_beq_eq_true hz
    refine ⟨.int .i64 0, w, ?_, .int _ _, Mv.refl hw _⟩
    have hfc : ∀ w0, (Builtin.firstCells size 0 (.slice b2' n2 c2')).run P w0 = .ok #[] w0 := by
      intro w0
      have h0 : 0 * size = 0 := Nat.zero_mul _
      cases b2' <;> simp only [Builtin.firstCells, loadCells, h0] <;> rfl
    have hlen : ∀ w0, (Builtin.lenOf (.slice b2' n2 c2')).run P w0 = .ok n2 w0 := fun w0 => rfl
    cases b' <;> simp only [Builtin.copy_, List.getElem?_toArray, List.getElem?_cons_zero, List.getElem?_cons_succ, Sem.run_bind, run_und hd, run_sizeL hs, Result.andThen_ok, hlen, h0, hfc, Sem.run_pure, storeCells, goInt] <;> rfl
  | false =>
    rw [hz] at h
    simp only [cond_false] at h
    split at h
    rotate_left
    · cases h
    rename_i b0 o0 a2
    obtain ⟨l, h1, h3⟩ := bnd_ok h
    clear h
    obtain ⟨st1, h2, h4⟩ := bnd_ok h3
    clear h3
    cases h4
    have hk0 : minN len n2 ≠ 0 := Nat.ne_of_beq_eq_false hz
    have hmin := minN_min len n2
    obtain ⟨hle1, hle2⟩ := minN_le len n2
    generalize minN len n2 = k at *
    obtain ⟨b2', c2', rfl⟩ : ∃ b' c', x' = .slice b' n2 c' := slice_form hX
    have hsrc : ∃ l', VRL ρ l l' ∧ ∀ w1 : World, w1.heap = w.heap → (Builtin.firstCells size k (.slice b2' n2 c2')).run P w1 = .ok l'.toArray w1 := by
      cases hX with
      | slice b o s _ _ c' o' hs' hn hc hxx hr ho =>
        obtain ⟨l', r1, r2, r3⟩ := readC_rel h1 hw hs'
        refine ⟨l', r1, fun w1 hw1 => ?_⟩
        simp only [locOf] at r3
        have ho' : o' = s.base + o := by
          rcases ho with ho | ho
          · exact ho
          · omega
        subst ho'
        have := run_loadCells_list (P := P) (w := w1) ⟨s.blk, s.base + o, none⟩ l' (fun j v hv => by
          have := r3 j v hv
          unfold World.cell? at this ⊢
          rw [hw1]; exact this)
        rw [r2] at this
        simp only [Builtin.firstCells, this]
      | sliceI b i s _ _ c' o' hs hn hc hr hv ho =>
        exfalso
        unfold ASt.readC at h1
        split at h1 <;> cases h1
      | sliceE => exact absurd (Nat.le_zero.1 hle2) hk0
      | sliceN => exact absurd (Nat.le_zero.1 hle2) hk0
      | sliceZ => exact absurd (Nat.le_zero.1 hle2) hk0
      | sliceX => exact absurd (Nat.le_zero.1 hle2) hk0
    obtain ⟨l', r1, r4⟩ := hsrc
    have hall := writeC_oneC h2
    cases hS with
    | slice _ _ s _ _ c' o' hsp hn hc hxx hro hoo =>
      obtain ⟨w', k1, k2⟩ := writeC_rel (P := P) h2 hw (s := s) hsp r1 (oneC_list r1 hall)
      have ho' : o' = s.base + o0 := by
        rcases hoo with hoo | hoo
        · exact hoo
        · omega
      subst ho'
      have hloc : locOf s (⟨b0, o0, none⟩ : Addr) = s.base + o0 := rfl
      rw [hloc] at k1
      refine ⟨.int .i64 (Int.ofNat k), w', ?_, .int _ _, k2⟩
      have hlen : ∀ w0, (Builtin.lenOf (.slice b2' n2 c2')).run P w0 = .ok n2 w0 := fun w0 => rfl
      simp only [Builtin.copy_, List.getElem?_toArray, List.getElem?_cons_zero, List.getElem?_cons_succ, Sem.run_bind, run_und hd, run_sizeL hs, Result.andThen_ok, hlen, ← hmin, r4 w rfl, Sem.run_pure, k1, goInt]
      rfl
theorem clear_sound {P : Program} {ρ : Rho} {st st' : ASt} {w : World} {t ty : TypeId} {ts : List TypeId} {base : Option Addr} {len c : Nat} {s' v : Value} (h : aClear P st t base len = .ok (.val v st'))
    (hw : WR ρ st.h.get w) (hS : VR ρ (.slice base len c) s') :
    ∃ v' w', (Builtin.clear_ (t :: ts).toArray ty #[s']).run P w = .ok v' w' ∧ VR ρ v v' ∧ Mv ρ ρ st.h.get st'.h.get st.next st'.next w w' := by
  unfold aClear at h
  obtain ⟨d, hd, h0⟩ := bnd_ok h
  clear h
  have h := h0
  clear h0
  split at h
  rotate_left
  · cases h
  rename_i elem
  have hu : VR ρ undef (.tuple #[]) := .tuple _ _ rfl (fun i x y hx => by simp at hx)
  cases hz : Nat.beq len 0 with
  | true =>
    rw [hz] at h
    simp only [cond_true] at h
    cases h
    obtain ⟨b', c', rfl⟩ := slice_form hS
    have h0 : len = 0 := Nat.eq_of_beq_eq_true hz
    subst h0
    refine ⟨.tuple #[], w, ?_, hu, Mv.refl hw _⟩
    cases b' <;> simp only [Builtin.clear_, List.getElem?_toArray, List.getElem?_cons_zero, Sem.run_bind, run_und hd, Result.andThen_ok, Sem.run_pure]
  | false =>
    rw [hz] at h
    simp only [cond_false] at h
    split at h
    rotate_left
    · cases h
    rename_i b0 o0
    obtain ⟨z, hzl, h3⟩ := bnd_ok h
    clear h
    obtain ⟨st1, h2, h4⟩ := bnd_ok h3
    clear h3
    cases h4
    have hk0 : len ≠ 0 := Nat.ne_of_beq_eq_false hz
    obtain ⟨zv, z1, z2, z3⟩ := run_zeroL hzl
    have hr := rep_rel (ρ := ρ) (z := z) (zc := zv.cells) (n := len) (N := len * zv.cells.size) (ground_list z2) (fun _ => z1) (by rw [← z1]; simp)
    have hall := writeC_oneC h2
    cases hS with
    | slice _ _ s _ _ c' o' hsp hn hc hxx hro hoo =>
      obtain ⟨w', k1, k2⟩ := writeC_rel (P := P) h2 hw (s := s) hsp hr (oneC_list hr hall)
      have ho' : o' = s.base + o0 := by
        rcases hoo with hoo | hoo
        · exact hoo
        · omega
      subst ho'
      have hloc : locOf s (⟨b0, o0, none⟩ : Addr) = s.base + o0 := rfl
      rw [hloc] at k1
      refine ⟨.tuple #[], w', ?_, hu, k2⟩
      obtain ⟨m, rfl⟩ : ∃ m, len = m + 1 := ⟨len - 1, by omega⟩
      simp only [Builtin.clear_, List.getElem?_toArray, List.getElem?_cons_zero, Sem.run_bind, run_und hd, Result.andThen_ok, z3, Builtin.zeroCells, k1, Sem.run_pure]
theorem op_builtin {P : Program} {o : Oper} {f : AFr} {st : ASt} {b : Builtin} {xs : List Operand} {ts : List TypeId} {r : AN} (h : o.op = .call { callee := .builtin b, args := xs.toArray, argTypes := ts.toArray }) (hr : aBuiltin P st b ts (xs.map f.ev) = .ok r) : OpR P o f st r := by
  have hev : ∀ ρ a, FrR ρ f a → VRL ρ (xs.map f.ev) (xs.map a.eval) := fun ρ a hf => hf.evs xs
  have hexec : ∀ a : Act, ∃ cs, execOp a.eval o = builtin b ts.toArray o.type cs (xs.map a.eval).toArray := fun a => builtin_exec (P := P) h a.eval
  generalize xs.map f.ev = vs at hr hev
  unfold aBuiltin at hr
  split at hr
  · -- append
    unfold aAppend at hr
    split at hr
    rotate_left
    · cases hr
    rename_i t t2 ts s x
    cases hrow : isRowA s x with
    | true =>
      rw [hrow] at hr
      simp only [cond_true] at hr
      obtain ⟨d, hd, hr1⟩ := bnd_ok hr
      clear hr
      obtain ⟨d2, hd2, hr2⟩ := bnd_ok hr1
      clear hr1
      split at hr2
      · rename_i elem
        obtain ⟨size, hs, hr3⟩ := bnd_ok hr2
        clear hr2
        obtain ⟨by_, hby, hr4⟩ := bnd_ok hr3
        clear hr3
        obtain ⟨z, hz, hr5⟩ := bnd_ok hr4
        clear hr4
        obtain ⟨nf, hn, hr6⟩ := bnd_ok hr5
        clear hr5
        split at hr6
        · rename_i base len cap
          obtain ⟨hc, hr7⟩ := cond_ok hr6
          clear hr6
          obtain ⟨c1, hr8⟩ := cond_ok hr7
          clear hr7
          simp only [Bool.and_eq_true] at hc
          have c1 := Nat.le_of_ble_eq_true c1
          have c2 := Nat.le_of_ble_eq_true hc.1
          have c3 := Nat.eq_of_beq_eq_true hc.2
          obtain ⟨n, ff, st1⟩ := nf
          simp only at c1 hr8
          have hst : ∃ v st', r = .val v st' := appQ_val hr8
          obtain ⟨v, st', rfl⟩ := hst
          have hlo : LoS st st' := (srcX_lo hn).trans (appQ_next hr8).2
          refine ⟨hlo, fun ρ w a hfa hw hfr => ?_⟩
          have hv := hev ρ a hfa
          obtain ⟨s', l1, e1, hS, hv⟩ := hv.uncons
          obtain ⟨x', l2, e2, hX, hv⟩ := hv.uncons
          have e3 := hv.nil_inv
          obtain ⟨cs, hex⟩ := hexec a
          subst e3 e2
          rw [e1] at hex
          obtain ⟨ρ', v', w', k1, k2, k3⟩ := appR_sound (P := P) (ty := o.type) (ts := ts) hd hd2 hs hby hz hn c1 c2 c3 hr8 hw hS hX hfr
          refine ⟨ρ', v', w', .inl ?_, k2, k3⟩
          rw [hex]
          simp only [builtin, Sem.run_bind]
          rw [k1]
          rfl
        · cases hr6
      · cases hr2
    | false =>
    rw [hrow] at hr
    simp only [cond_false] at hr
    simp only [aAppendC] at hr
    · obtain ⟨d, hd, hr1⟩ := bnd_ok hr
      clear hr
      obtain ⟨d2, hd2, hr2⟩ := bnd_ok hr1
      clear hr1
      split at hr2
      · rename_i elem base len cap
        obtain ⟨size, hs, hr3⟩ := bnd_ok hr2
        clear hr2
        obtain ⟨by_, hby, hr4⟩ := bnd_ok hr3
        clear hr3
        obtain ⟨z, hz, hr5⟩ := bnd_ok hr4
        clear hr4
        obtain ⟨nn, hn, hr6⟩ := bnd_ok hr5
        clear hr5
        obtain ⟨hc, hr7⟩ := cond_ok hr6
        clear hr6
        simp only [Bool.and_eq_true] at hc
        obtain ⟨⟨c1, c2⟩, c3⟩ := hc
        have c1 := Nat.le_of_ble_eq_true c1
        have c2 := Nat.le_of_ble_eq_true c2
        have c3 := Nat.eq_of_beq_eq_true c3
        obtain ⟨n, new⟩ := nn
        simp only at c1 hr7
        have hst : ∃ v st', r = .val v st' := by
          cases hb : Nat.ble (len + n) cap with
          | true =>
            rw [hb] at hr7
            simp only [cond_true] at hr7
            split at hr7
            · cases hr7; exact ⟨_, _, rfl⟩
            · obtain ⟨st1, _, e⟩ := bnd_ok hr7; cases e; exact ⟨_, _, rfl⟩
            · cases hr7
          | false =>
            rw [hb] at hr7
            simp only [cond_false] at hr7
            split at hr7
            · cases hr7; exact ⟨_, _, rfl⟩
            · obtain ⟨old, _, e⟩ := bnd_ok hr7
              split at e
              · cases e; exact ⟨_, _, rfl⟩
              · obtain ⟨_, e⟩ := cond_ok e; cases e; exact ⟨_, _, rfl⟩
              · cases e
            · cases hr7
        obtain ⟨v, st', rfl⟩ := hst
        refine ⟨?_, fun ρ w a hfa hw hfr => ?_⟩
        · cases hb : Nat.ble (len + n) cap with
          | true =>
            rw [hb] at hr7
            simp only [cond_true] at hr7
            split at hr7
            · cases hr7; exact LoS.refl _
            · obtain ⟨st1, e1, e⟩ := bnd_ok hr7; cases e; exact writeC_lo e1
            · cases hr7
          | false =>
            rw [hb] at hr7
            simp only [cond_false] at hr7
            split at hr7
            · cases hr7; exact LoS.new _ _
            · obtain ⟨old, _, e⟩ := bnd_ok hr7
              split at e
              · cases e; exact LoS.new _ _
              · obtain ⟨_, e⟩ := cond_ok e; cases e; exact (LoS.set _ _ _ (.inl rfl)).trans (LoS.new _ _)
              · cases e
            · cases hr7
        · have hv := hev ρ a hfa
          obtain ⟨s', l1, e1, hS, hv⟩ := hv.uncons
          obtain ⟨x', l2, e2, hX, hv⟩ := hv.uncons
          have e3 := hv.nil_inv
          obtain ⟨cs, hex⟩ := hexec a
          subst e3 e2
          rw [e1] at hex
          obtain ⟨ρ', v', w', k1, k2, k3⟩ := app_sound (P := P) (ty := o.type) (ts := ts) hd hd2 hs hby hz hn c1 c2 c3 hr7 hw hS hX hfr
          refine ⟨ρ', v', w', .inl ?_, k2, k3⟩
          rw [hex]
          simp only [builtin, Sem.run_bind]
          rw [k1]
          rfl
      · cases hr2
  · -- len
    rename_i t ts x
    obtain ⟨v, h1, h2⟩ := bnd_ok hr
    cases h2
    refine OpR.quiet fun ρ w a hfa hw => ?_
    obtain ⟨x', l1, e1, hX, hv⟩ := (hev ρ a hfa).uncons
    have e3 := hv.nil_inv
    obtain ⟨cs, hex⟩ := hexec a
    subst e3
    rw [e1] at hex
    obtain ⟨k1, k2⟩ := len_rel (P := P) (ts := ts) (ty := o.type) h1 hX hw
    refine ⟨v, ?_, k2⟩
    rw [hex]
    simp only [builtin, Sem.run_bind]
    rw [k1]
    rfl
  · -- cap
    rename_i t ts x
    obtain ⟨d, hd, h2⟩ := bnd_ok hr
    split at h2
    · obtain ⟨v, h1, h3⟩ := bnd_ok h2
      cases h3
      refine OpR.quiet fun ρ w a hfa hw => ?_
      obtain ⟨x', l1, e1, hX, hv⟩ := (hev ρ a hfa).uncons
      have e3 := hv.nil_inv
      obtain ⟨cs, hex⟩ := hexec a
      subst e3
      rw [e1] at hex
      obtain ⟨k1, k2⟩ := cap_rel (P := P) (ts := ts) (ty := o.type) h1 hd hX hw
      refine ⟨v, ?_, k2⟩
      rw [hex]
      simp only [builtin, Sem.run_bind]
      rw [k1]
      rfl
    · cases h2
  · -- min of two
    rename_i ts k a0 k' b0
    obtain ⟨hk, h2⟩ := cond_ok hr
    cases h2
    have := sameF_eq hk
    subst this
    refine ⟨LoS.refl st, fun ρ w a hfa hw _ => ?_⟩
    obtain ⟨x', l1, e1, hx, hl1⟩ := (hev ρ a hfa).uncons
    obtain ⟨y', l2, e2, hy, hl2⟩ := hl1.uncons
    have e3 := hl2.nil_inv
    obtain ⟨cs, hex⟩ := hexec a
    rw [e1, e2, e3] at hex
    obtain ⟨a', rfl, a1, a2⟩ := float_inv hx
    obtain ⟨b', rfl, b1, b2⟩ := float_inv hy
    obtain ⟨r, w', q1, q2, q3⟩ := mm_run (P := P) ρ a1 a2 b1 b2 false w
    simp only [cond_true, cond_false] at q1
    refine ⟨ρ, .float k r, w', .inl ?_, q3, ?_⟩
    · rw [hex]
      simp only [builtin, Sem.run_bind, Builtin.min_, Builtin.max_, List.foldlM_cons, List.foldlM_nil, q1, Result.andThen_ok, Sem.run_pure]
    · rcases q2 with rfl | rfl
      · exact Mv.refl hw _
      · exact Mv.drew hw _
  · -- max of two
    rename_i ts k a0 k' b0
    obtain ⟨hk, h2⟩ := cond_ok hr
    cases h2
    have := sameF_eq hk
    subst this
    refine ⟨LoS.refl st, fun ρ w a hfa hw _ => ?_⟩
    obtain ⟨x', l1, e1, hx, hl1⟩ := (hev ρ a hfa).uncons
    obtain ⟨y', l2, e2, hy, hl2⟩ := hl1.uncons
    have e3 := hl2.nil_inv
    obtain ⟨cs, hex⟩ := hexec a
    rw [e1, e2, e3] at hex
    obtain ⟨a', rfl, a1, a2⟩ := float_inv hx
    obtain ⟨b', rfl, b1, b2⟩ := float_inv hy
    obtain ⟨r, w', q1, q2, q3⟩ := mm_run (P := P) ρ a1 a2 b1 b2 true w
    simp only [cond_true, cond_false] at q1
    refine ⟨ρ, .float k r, w', .inl ?_, q3, ?_⟩
    · rw [hex]
      simp only [builtin, Sem.run_bind, Builtin.min_, Builtin.max_, List.foldlM_cons, List.foldlM_nil, q1, Result.andThen_ok, Sem.run_pure]
    · rcases q2 with rfl | rfl
      · exact Mv.refl hw _
      · exact Mv.drew hw _
  · -- min
    rename_i ts x rest _
    obtain ⟨hg, h2⟩ := cond_ok hr
    split at h2
    · rename_i v hv
      obtain ⟨hg1, h3⟩ := cond_ok h2
      cases h3
      refine OpR.quiet fun ρ w a hfa hw => ?_
      have hall : (x :: rest).all (ground 1) = true := by simpa using hg
      have e1 := all_ground (hev ρ a hfa) hall
      obtain ⟨cs, hex⟩ := hexec a
      rw [e1] at hex
      refine ⟨v, ?_, refl1_VR hg1⟩
      rw [hex]
      simp only [builtin, Sem.run_bind, Builtin.min_, pureRun_ok hv, Result.andThen_ok, Sem.run_pure]
    · cases h2
  · -- max
    rename_i ts x rest _
    obtain ⟨hg, h2⟩ := cond_ok hr
    split at h2
    · rename_i v hv
      obtain ⟨hg1, h3⟩ := cond_ok h2
      cases h3
      refine OpR.quiet fun ρ w a hfa hw => ?_
      have hall : (x :: rest).all (ground 1) = true := by simpa using hg
      have e1 := all_ground (hev ρ a hfa) hall
      obtain ⟨cs, hex⟩ := hexec a
      rw [e1] at hex
      refine ⟨v, ?_, refl1_VR hg1⟩
      rw [hex]
      simp only [builtin, Sem.run_bind, Builtin.max_, pureRun_ok hv, Result.andThen_ok, Sem.run_pure]
    · cases h2
  · -- copy
    rename_i t ts base len c b2 n2 c2
    have hst : ∃ v st', r = .val v st' := by
      unfold aCopy at hr
      obtain ⟨d, hd, h⟩ := bnd_ok hr
      split at h
      · obtain ⟨size, hs, h⟩ := bnd_ok h
        cases hz : Nat.beq (minN len n2) 0 with
        | true => rw [hz] at h; cases h; exact ⟨_, _, rfl⟩
        | false =>
          rw [hz] at h
          simp only [cond_false] at h
          split at h
          · obtain ⟨l, h1, h⟩ := bnd_ok h
            obtain ⟨st1, h2, h⟩ := bnd_ok h
            cases h; exact ⟨_, _, rfl⟩
          · cases h
      · cases h
    obtain ⟨v, st', rfl⟩ := hst
    refine ⟨?_, fun ρ w a hfa hw hfr => ?_⟩
    · have h := hr
      unfold aCopy at h
      obtain ⟨d, hd, h⟩ := bnd_ok h
      split at h
      · obtain ⟨size, hs, h⟩ := bnd_ok h
        cases hz : Nat.beq (minN len n2) 0 with
        | true => rw [hz] at h; cases h; exact LoS.refl _
        | false =>
          rw [hz] at h
          simp only [cond_false] at h
          split at h
          · obtain ⟨l, h1, h⟩ := bnd_ok h
            obtain ⟨st1, h2, h⟩ := bnd_ok h
            cases h; exact writeC_lo h2
          · cases h
      · cases h
    · have hv := hev ρ a hfa
      obtain ⟨s', l1, e1, hS, hv⟩ := hv.uncons
      obtain ⟨x', l2, e2, hX, hv⟩ := hv.uncons
      have e3 := hv.nil_inv
      obtain ⟨cs, hex⟩ := hexec a
      subst e3 e2
      rw [e1] at hex
      obtain ⟨v', w', k1, k2, k3⟩ := copy_sound (P := P) (ty := o.type) (ts := ts) hr hw hS hX
      refine ⟨ρ, v', w', .inl ?_, k2, k3⟩
      rw [hex]
      simp only [builtin, Sem.run_bind]
      rw [k1]
      rfl
  · -- clear
    rename_i t ts base len c
    have hst : ∃ v st', r = .val v st' := by
      unfold aClear at hr
      obtain ⟨d, hd, h⟩ := bnd_ok hr
      split at h
      · cases hz : Nat.beq len 0 with
        | true => rw [hz] at h; cases h; exact ⟨_, _, rfl⟩
        | false =>
          rw [hz] at h
          simp only [cond_false] at h
          split at h
          · obtain ⟨l, h1, h⟩ := bnd_ok h
            obtain ⟨st1, h2, h⟩ := bnd_ok h
            cases h; exact ⟨_, _, rfl⟩
          · cases h
      · cases h
    obtain ⟨v, st', rfl⟩ := hst
    refine ⟨?_, fun ρ w a hfa hw hfr => ?_⟩
    · have h := hr
      unfold aClear at h
      obtain ⟨d, hd, h⟩ := bnd_ok h
      split at h
      · cases hz : Nat.beq len 0 with
        | true => rw [hz] at h; cases h; exact LoS.refl _
        | false =>
          rw [hz] at h
          simp only [cond_false] at h
          split at h
          · obtain ⟨l, h1, h⟩ := bnd_ok h
            obtain ⟨st1, h2, h⟩ := bnd_ok h
            cases h; exact writeC_lo h2
          · cases h
      · cases h
    · have hv := hev ρ a hfa
      obtain ⟨s', l1, e1, hS, hv⟩ := hv.uncons
      have e3 := hv.nil_inv
      obtain ⟨cs, hex⟩ := hexec a
      subst e3
      rw [e1] at hex
      obtain ⟨v', w', k1, k2, k3⟩ := clear_sound (P := P) (ty := o.type) (ts := ts) hr hw hS
      refine ⟨ρ, v', w', .inl ?_, k2, k3⟩
      rw [hex]
      simp only [builtin, Sem.run_bind]
      rw [k1]
      rfl
  · cases hr
theorem find_trunc {fn : Func} (h : fn.name = "math.archTrunc") : Extern.find fn = some (Extern.MathFloor.toIntegral "math.archTrunc" .zero) := by
  have h1 : Extern.allGenericRows.lookup "math.archTrunc" = none := by kernel_rfl
  have h2 : Extern.allTypedRows.lookup "math.archTrunc" = none := by kernel_rfl
  have h3 : Extern.allRows.lookup "math.archTrunc" = some (Extern.MathFloor.toIntegral "math.archTrunc" .zero) := by kernel_rfl
  unfold Extern.find
  simp only [h, h1, h2, h3, Option.map_none]
  rfl
theorem nan_quiet {s : Bool} {t x : Nat} (h : FloatKind.f64.decode x = .nan s t) : nanB .f64 (FloatKind.f64.encode (.nan s (FloatKind.f64.format.quiet t))) = true := by
  have e1 : FloatKind.f64.encode (.nan s (FloatKind.f64.format.quiet t)) = Ieee.double.word s (Ieee.double.infRung + Ieee.double.quiet t % Ieee.double.binade) := rfl
  have s1 : Ieee.double.signWeight = 9223372036854775808 := by decide
  have s2 : Ieee.double.infRung = 9218868437227405312 := by decide
  have s3 : Ieee.double.binade = 4503599627370496 := by decide
  have hq : 0 < Ieee.double.quiet t % Ieee.double.binade := by
    have h51 : (Ieee.double.quiet t % Ieee.double.binade).testBit 51 = true := by
      have : Ieee.double.binade = 2 ^ 52 := by decide
      rw [this, Nat.testBit_mod_two_pow]
      have : Ieee.double.quiet t = t ||| 2 ^ 51 := rfl
      rw [this, Nat.testBit_or]
      have h51 : Nat.testBit (2 ^ 51) 51 = true := by decide
      rw [h51, Bool.or_true]
      rfl
    rcases Nat.eq_zero_or_pos (Ieee.double.quiet t % Ieee.double.binade) with h | h
    · rw [h] at h51; simp at h51
    · exact h
  have hl : Ieee.double.quiet t % Ieee.double.binade < 4503599627370496 := by rw [← s3]; exact Nat.mod_lt _ (by decide)
  rw [e1]
  generalize Ieee.double.quiet t % Ieee.double.binade = q at hq hl
  refine nan_of_read (k := .f64) (s := Ieee.double.word s (Ieee.double.infRung + q) / Ieee.double.signWeight % 2 == 1) (p := Ieee.double.word s (Ieee.double.infRung + q) % Ieee.double.signWeight - Ieee.double.infRung) ?_
  have hw : Ieee.double.word s (Ieee.double.infRung + q) % Ieee.double.signWeight = Ieee.double.infRung + q := by
    unfold Ieee.Format.word
    rw [s1, s2]
    cases s <;> simp <;> omega
  show Ieee.double.read _ = _
  unfold Ieee.Format.read
  rw [hw, s1, s2, s3]
  simp only
  rw [if_neg (by omega), if_neg (by omega), if_neg (by omega)]
theorem trunc_eq (x : Nat) : Extern.MathFloor.toIntegral "math.archTrunc" .zero #[.float .f64 x] = (match FloatKind.f64.decode x with
    | .nan s t => if FloatKind.f64.format.quiet t = t then pure (.float .f64 x) else do
      let kept ← choose (.extern "math.Floor,Ceil,Trunc,RoundToEven.signallingNaN kept" 2)
      pure (.float .f64 (if kept == 1 then x else FloatKind.f64.encode (.nan s (FloatKind.f64.format.quiet t))))
    | d => pure (.float .f64 (FloatKind.f64.encode (d.integral .zero))) : Sem Value) := rfl
/-- a number without what stands behind its point -/
theorem trunc_run {P : Program} {f : FuncId} {fn : Func} (hfn : P.funcs[f]? = some fn) (hb : fn.body = none) (ht : isTrunc fn = true) (ρ : Rho) (x x' : Nat) (h1 : nanB .f64 x' = nanB .f64 x) (h2 : nanB .f64 x = false → x' = x) (w : World) :
    ∃ v w', (callFunc f #[.float .f64 x']).run P w = .ok (.value v) w' ∧ (w' = w ∨ w' = w.drew) ∧ VR ρ (.float .f64 (truncR x)) v := by
  unfold isTrunc at ht
  simp only [Bool.and_eq_true, beq_iff_eq, Option.isNone_iff_eq_none] at ht
  have hg : (fn.name == "runtime.NumGoroutine") = false := by rw [ht.1]; decide
  have hrun : ∀ v w', (Extern.MathFloor.toIntegral "math.archTrunc" .zero #[.float .f64 x']).run P w = .ok v w' → (callFunc f #[.float .f64 x']).run P w = .ok (.value v) w' := by
    intro v w' e
    simp only [callFunc, Sem.run_bind, run_program, Result.andThen_ok, hfn, hg, Bool.false_eq_true, if_false, hb, Option.isNone_none, if_true, run_mark, ht.2, find_trunc ht.1, e, Sem.run_pure]
  have hdec : (∃ s t, FloatKind.f64.decode x' = .nan s t) ∨ nanB .f64 x' = false := by
    cases hn : nanB .f64 x' with
    | false => exact .inr rfl
    | true => exact .inl (nan_read hn)
  rcases hdec with ⟨s, t, hd⟩ | hn
  · have hn : nanB .f64 x' = true := nan_of_read (k := .f64) hd
    have hR : truncR x = qnan .f64 := by unfold truncR; rw [← h1, hn]; rfl
    rw [hR]
    by_cases hq : FloatKind.f64.format.quiet t = t
    · exact ⟨.float .f64 x', w, hrun _ _ (by rw [trunc_eq, hd]; simp only [hq, if_true, Sem.run_pure]), .inl rfl, .nan _ _ _ (qnan_nan _) hn⟩
    · refine ⟨_, w.drew, hrun _ _ (by rw [trunc_eq, hd]; simp only [hq, if_false, Sem.run_bind, run_choose_drew, Question.forced, Result.andThen_ok, Sem.run_pure]; rfl), .inr rfl, .nan _ _ _ (qnan_nan _) ?_⟩
      split
      · exact hn
      · exact nan_quiet hd
  · have hxx := h2 (by rw [← h1]; exact hn)
    subst hxx
    have hnn : ∀ s t, FloatKind.f64.decode x' ≠ .nan s t := fun s t e => by
      have := nan_of_read (k := .f64) e
      rw [hn] at this; cases this
    have hR : truncR x' = FloatKind.f64.encode ((FloatKind.f64.decode x').integral .zero) := by unfold truncR; rw [hn]; rfl
    rw [hR]
    refine ⟨_, w, hrun _ _ ?_, .inl rfl, .float _ _⟩
    cases hd : FloatKind.f64.decode x' with
    | nan s t => exact absurd hd (hnn s t)
    | infinity s => rw [trunc_eq, hd]; rfl
    | number s m i => rw [trunc_eq, hd]; rfl
/-- what is called -/
theorem aCall_run {P : Program} {f : FuncId} {args : List Value} {st : ASt} {r : AN} (h : aCall P f args st = .ok r) :
    (r = .enter f args ∧ ∀ (args' : Array Value) (w : World), (callFunc f args').run P w = .ok (.enter f args') w) ∨
    (∃ v, r = .val v st ∧ ((refl1 v = true ∧ args.all (ground 1) = true ∧ ∀ w, (callFunc f args.toArray).run P w = .ok (.value v) w) ∨
      (∃ x fn, args = [.float .f64 x] ∧ v = .float .f64 (truncR x) ∧ P.funcs[f]? = some fn ∧ fn.body = none ∧ isTrunc fn = true))) := by
  unfold aCall at h
  split at h
  · rename_i fn hfn
    have hfn' : P.funcs[f]? = some fn := by simpa using hfn
    split at h
    · rename_i body hb
      have hc : (fn.name == "runtime.NumGoroutine") = false ∧ r = .enter f args := by
        cases hc : fn.name == "runtime.NumGoroutine" with
        | true => rw [hc] at h; cases h
        | false => rw [hc] at h; cases h; exact ⟨rfl, rfl⟩
      refine .inl ⟨hc.2, fun args' w => ?_⟩
      simp only [callFunc, Sem.run_bind, run_program, Result.andThen_ok, hfn', hc.1, Bool.false_eq_true, if_false, hb, Option.isNone_some, Sem.run_pure]
    · rename_i hb
      cases ht : isTrunc fn with
      | true =>
        rw [ht] at h
        simp only [cond_true] at h
        split at h
        · rename_i x
          cases h
          exact .inr ⟨_, rfl, .inr ⟨x, fn, rfl, rfl, hfn', hb, ht⟩⟩
        · cases h
      | false =>
        rw [ht] at h
        simp only [cond_false] at h
        obtain ⟨h1, h2⟩ := cond_ok h
        split at h2
        · rename_i v hv
          obtain ⟨h3, h4⟩ := cond_ok h2
          cases h4
          exact .inr ⟨v, rfl, .inl ⟨h3, h1, fun w => pureRun_ok hv w⟩⟩
        · cases h2
  · cases h
theorem op_callValue {P : Program} {o : Oper} {f : AFr} {st : ASt} {g : Operand} {xs : List Operand} {ts : Array TypeId} {fn : Fn} {a0 b0 : Array Value} {r : AN} (h : o.op = .call { callee := .value g, args := xs.toArray, argTypes := ts }) (hg : f.ev g = .func fn a0 b0)
    (hr : aInvoke P fn (a0.toList ++ xs.map f.ev) b0.toList st = .ok r) : OpR P o f st r := by
  unfold aInvoke at hr
  split at hr
  · rename_i fid
    have common : ∀ (ρ : Rho) (w : World) (a : Act), FrR ρ f a → ∃ args' : List Value, execOp a.eval o = callFunc fid args'.toArray ∧ VRL ρ (a0.toList ++ xs.map f.ev ++ b0.toList) args' := by
      intro ρ w a hf
      have hG := hf.ev g
      rw [hg] at hG
      generalize hA : a.eval g = A at hG
      cases hG with
      | func _ _ a1 _ b1 ha hb h1 h2 =>
        refine ⟨a1.toList ++ xs.map a.eval ++ b1.toList, ?_, ((VRL.of_arrays ha h1).append (hf.evs xs)).append (VRL.of_arrays hb h2)⟩
        simp only [execOp, h, resolve, hA, Deferred.ofValue]
        rw [LawfulMonad.pure_bind]
        simp only [invoke]
        congr 1
        apply Array.toList_inj.1
        simp
    rcases aCall_run hr with ⟨rfl, h1⟩ | ⟨v, rfl, ⟨h1, h2, h3⟩ | ⟨x, fn, hx, rfl, hfn, hb, ht⟩⟩
    · intro ρ w a hf hw
      obtain ⟨args', e1, e2⟩ := common ρ w a hf
      exact ⟨args'.toArray, by rw [e1]; exact h1 _ w, by simpa using e2⟩
    · refine OpR.quiet fun ρ w a hf hw => ?_
      obtain ⟨args', e1, e2⟩ := common ρ w a hf
      have := all_ground e2 h2
      subst this
      exact ⟨v, by rw [e1]; exact h3 w, refl1_VR h1⟩
    · refine ⟨LoS.refl st, fun ρ w a hf hw _ => ?_⟩
      obtain ⟨args', e1, e2⟩ := common ρ w a hf
      rw [hx] at e2
      obtain ⟨y, l, rfl, hy, hl⟩ := e2.uncons
      have := hl.nil_inv
      subst this
      obtain ⟨x', rfl, y1, y2⟩ := float_inv hy
      obtain ⟨v', w', q1, q2, q3⟩ := trunc_run hfn hb ht ρ x x' y1 y2 w
      refine ⟨ρ, v', w', .inl (by rw [e1]; exact q1), q3, ?_⟩
      rcases q2 with rfl | rfl
      · exact Mv.refl hw _
      · exact Mv.drew hw _
  · cases hr
theorem op_defer {P : Program} {o : Oper} {f : AFr} {st : ASt} {g : Operand} {xs : List Operand} {ts : Array TypeId} {fn : Fn} {a0 b0 : Array Value} (h : o.op = .defer { callee := .value g, args := xs.toArray, argTypes := ts }) (hg : f.ev g = .func fn a0 b0) :
    OpR P o f st (.defer ⟨fn, b0.toList, a0.toList ++ xs.map f.ev⟩) := by
  intro ρ w a hf hw
  have hG := hf.ev g
  rw [hg] at hG
  generalize hA : a.eval g = A at hG
  cases hG with
  | func _ _ a1 _ b1 ha hb h1 h2 =>
    refine ⟨{ target := .fn fn b1, args := a1 ++ (xs.map a.eval).toArray }, ?_, b1, _, rfl, VRL.of_arrays hb h2, ?_⟩
    · simp only [execOp, h, resolve, hA, Deferred.ofValue]
      rw [LawfulMonad.pure_bind]
      simp
    · simpa using (VRL.of_arrays ha h1).append (hf.evs xs)
theorem op_panic {P : Program} {o : Oper} {f : AFr} {st : ASt} {x : Operand} {t : TypeId} {v : Value} (h : o.op = .panic x) (hx : f.ev x = .iface t v) : OpR P o f st (.panic (.iface t v)) := by
  intro ρ w a hf hw
  have hX := hf.ev x
  rw [hx] at hX
  generalize hA : a.eval x = A at hX
  cases hX with
  | iface _ _ v' hv => exact ⟨.iface t v', by simp [execOp, h, hA, Instr.panic], .iface _ _ _ hv⟩
end Go.Proofs.YtpogcoolgnjejaaGreatDoor.Ev
/-
  What the evaluator says of single operations holds of their runs: joined.
-/
set_option linter.unusedVariables false
set_option linter.unusedSimpArgs false
namespace Go.Proofs.YtpogcoolgnjejaaGreatDoor.Ev
open Go

theorem ble_le {a b : Nat} (h : Nat.ble a b = true) : a ≤ b := Nat.le_of_ble_eq_true h
theorem blt_lt {a b : Nat} (h : Nat.blt a b = true) : a < b := by simpa using h

set_option maxHeartbeats 1000000 in
theorem aOp_sound {P : Program} {f : AFr} {st : ASt} {o : Oper} {r : AN} (h : aOp P f st o = .ok r) : OpR P o f st r := by
  unfold aOp at h
  cases hop : o.op with
  | move x => simp only [hop] at h; cases h; exact op_move (.inl hop)
  | assign x => simp only [hop] at h; cases h; exact op_move (.inr hop)
  | pick c a b =>
    simp only [hop] at h
    split at h
    · rename_i b' hb; cases h; exact op_pick hop hb
    · cases h
  | alloc t =>
    simp only [hop] at h
    obtain ⟨z, hz, h1⟩ := bnd_ok h
    cases h1
    exact op_alloc hop hz
  | box t x =>
    simp only [hop] at h
    obtain ⟨h1, h2⟩ := cond_ok h
    cases h2
    exact op_box hop h1
  | build t ps =>
    simp only [hop] at h
    obtain ⟨z, hz, h1⟩ := bnd_ok h
    obtain ⟨d, hd, h2⟩ := bnd_ok h1
    split at h2
    · obtain ⟨pl, hp, h3⟩ := bnd_ok h2
      obtain ⟨cs, hc, h4⟩ := bnd_ok h3
      cases h4
      exact op_build_struct hop hz hd hp hc
    · obtain ⟨n, hn, h3⟩ := bnd_ok h2
      obtain ⟨cs, hc, h4⟩ := bnd_ok h3
      cases h4
      exact op_build_array hop hz hd hn hc
    · cases h2
  | buildSlice t len ps =>
    simp only [hop] at h
    obtain ⟨d, hd, h2⟩ := bnd_ok h
    split at h2
    · obtain ⟨n, hn, h3⟩ := bnd_ok h2
      obtain ⟨z, hz, h4⟩ := bnd_ok h3
      obtain ⟨hc, h5⟩ := cond_ok h4
      simp only [Bool.and_eq_true] at hc
      obtain ⟨cs, hf, h6⟩ := bnd_ok h5
      cases h6
      exact op_buildSlice hop hd hn hz (Nat.eq_of_beq_eq_true hc.1) (ble_le hc.2) hf
    · cases h2
  | load t x =>
    simp only [hop] at h
    split at h
    · rename_i a0 hx
      obtain ⟨n, hn, h3⟩ := bnd_ok h
      obtain ⟨l, hl, h4⟩ := bnd_ok h3
      obtain ⟨v, hv, h5⟩ := bnd_ok h4
      cases h5
      exact op_load hop hx hn hl hv
    · cases h
  | store t x y =>
    simp only [hop] at h
    split at h
    · rename_i a0 hx
      obtain ⟨n, hn, h3⟩ := bnd_ok h
      obtain ⟨hc, h4⟩ := cond_ok h3
      obtain ⟨st', hw, h5⟩ := bnd_ok h4
      cases h5
      exact op_store hop hx hn (Nat.eq_of_beq_eq_true hc) hw
    · cases h
  | nilCheck x =>
    simp only [hop] at h
    split at h <;> first
      | (cases h; done)
      | (rename_i hx; cases h; rw [← hx]; exact op_nilCheck hop (by rw [hx]))
  | binOp op t x y ty =>
    simp only [hop] at h
    split at h
    · rename_i v hv
      cases h
      exact op_float hop hv
    · obtain ⟨q, hq, h1⟩ := bnd_ok h
      obtain ⟨k1, k2⟩ := op_binOp hop hq (st := st)
      split at h1
      · cases h1; exact k1 _ rfl
      · cases h1; exact k2 _ rfl
      · cases h1
  | unOp op t x =>
    simp only [hop] at h
    split at h
    · rename_i v hv
      cases h
      exact op_negF hop hv
    obtain ⟨hc, h1⟩ := cond_ok h
    split at h1
    · rename_i v hv
      obtain ⟨hg, h2⟩ := cond_ok h1
      cases h2
      exact op_unOp hop hc hv hg
    · cases h1
  | convert s d x => simp only [hop] at h; exact op_conv hop h
  | makeInterface t x =>
    simp only [hop] at h
    obtain ⟨d, hd, h1⟩ := bnd_ok h
    split at h1
    · cases h1
    · rename_i hne
      cases h1
      exact op_makeInterface hop hd (fun m e => hne m e)
  | makeFunc fn a b => simp only [hop] at h; cases h; exact op_makeFunc hop
  | makeMap t q =>
    simp only [hop] at h
    split at h
    · cases h; exact op_makeMap hop (fun x e => by cases e)
    · rename_i x
      split at h
      · rename_i k n hx
        obtain ⟨d, hd, h1⟩ := bnd_ok h
        split at h1
        · cases h1
          exact op_makeMap hop (fun y e => by cases e; exact ⟨⟨_, _, hx⟩, _, _, hd⟩)
        · cases h1
      · cases h
  | makeSlice t l c =>
    simp only [hop] at h
    split at h
    · rename_i k1 l' k2 c' hl hc
      obtain ⟨d, hd, h1⟩ := bnd_ok h
      split at h1
      · obtain ⟨z, hz, h2⟩ := bnd_ok h1
        obtain ⟨n, hn, h3⟩ := bnd_ok h2
        obtain ⟨b, hb, h4⟩ := bnd_ok h3
        cases hrow : rowMk c with
        | true =>
          rw [hrow] at h4
          obtain ⟨hcc, h5⟩ := cond_ok h4
          simp only [Bool.and_eq_true] at hcc
          cases h5
          have e := Nat.eq_of_beq_eq_true hcc.1.1.1.1
          subst e
          exact op_makeRow hop hl hc hd hz hn hb (ble_le hcc.1.1.1.2) (ble_le hcc.1.1.2) (Nat.eq_of_beq_eq_true hcc.1.2) hcc.2
        | false =>
          rw [hrow] at h4
          obtain ⟨hcc, h5⟩ := cond_ok h4
          simp only [Bool.and_eq_true] at hcc
          cases h5
          exact op_makeSlice hop hl hc hd hz hn hb (ble_le hcc.1.1.1) (ble_le hcc.1.1.2) (ble_le hcc.1.2) (Nat.eq_of_beq_eq_true hcc.2)
      · cases h1
    · cases h
  | slice t x lo hi mx =>
    simp only [hop] at h
    split at h
    · obtain ⟨v, hv, h1⟩ := bnd_ok h
      cases h1
      unfold aSlice at hv
      obtain ⟨d, hd, h2⟩ := bnd_ok hv
      split at h2
      · rename_i s hx
        obtain ⟨b1, e1, h3⟩ := bnd_ok h2
        obtain ⟨b2, e2, h4⟩ := bnd_ok h3
        cases h4
        exact op_slice_str hop hx hd e1 e2
      · rename_i e hx
        obtain ⟨b1, e1, h3⟩ := bnd_ok h2
        obtain ⟨b2, e2, h4⟩ := bnd_ok h3
        obtain ⟨n, hn, h5⟩ := bnd_ok h4
        cases h5
        have hb : b1 = 0 := by
          unfold boundL at e1
          split at e1
          · cases e1; rfl
          · obtain ⟨q, e3⟩ := cond_ok e1; cases e3; have := ble_le q; omega
          · cases e1
        subst hb
        exact op_slice_nil hop hx hd hn e1 e2
      · rename_i e b0 o0 len cap hx
        obtain ⟨b1, e1, h3⟩ := bnd_ok h2
        obtain ⟨b2, e2, h4⟩ := bnd_ok h3
        obtain ⟨n, hn, h5⟩ := bnd_ok h4
        split at h5
        · rename_i cs es hg
          cases h5
          exact op_slice_ex hop hx hd hn hg e1 e2
        · rename_i cs es hg
          obtain ⟨hes, h6⟩ := cond_ok h5
          cases h6
          have := Nat.eq_of_beq_eq_true hes
          subst this
          exact op_slice_own hop hx hd hn hg e1 e2
        · cases h5
      · rename_i e b0 i0 len cap hx
        obtain ⟨b1, e1, h3⟩ := bnd_ok h2
        obtain ⟨b2, e2, h4⟩ := bnd_ok h3
        obtain ⟨n, hn, h5⟩ := bnd_ok h4
        split at h5
        · rename_i own es lo m elem hg
          obtain ⟨hes, h6⟩ := cond_ok h5
          cases h6
          have := Nat.eq_of_beq_eq_true hes
          subst this
          exact op_slice_row hop hx hd hn hg e1 e2
        · cases h5
      · cases h2
    · rename_i m
      split at h
      · rename_i k2 k3 hm hh
        cases hi with
        | none => cases hh
        | some hi =>
        simp only [Option.map_some, Option.some.injEq] at hh
        obtain ⟨d, hd, h1⟩ := bnd_ok h
        split at h1
        · rename_i e b0 i0 a c hx
          obtain ⟨n, hn, h2⟩ := bnd_ok h1
          cases h2
          exact op_slice_none hop hm hh hd hn (.inl ⟨_, _, _, _, hx, rfl⟩)
        · rename_i e hx
          obtain ⟨n, hn, h2⟩ := bnd_ok h1
          cases h2
          exact op_slice_none hop hm hh hd hn (.inr (.inl ⟨hx, rfl⟩))
        · rename_i e b0 o0 a c hx
          obtain ⟨n, hn, h2⟩ := bnd_ok h1
          cases h2
          exact op_slice_none hop hm hh hd hn (.inr (.inr ⟨_, _, _, _, hx, rfl⟩))
        · cases h1
      · cases h
  | fieldAddr s x i =>
    simp only [hop] at h
    split at h
    · rename_i b0 o0 hx
      obtain ⟨fd, hf, h1⟩ := bnd_ok h
      obtain ⟨n, hn, h2⟩ := bnd_ok h1
      cases hb : Nat.beq n 0 with
      | true => rw [hb] at h2; cases h2
      | false =>
        rw [hb] at h2
        cases h2
        exact op_fieldAddr hop hx hf hn (Nat.ne_of_beq_eq_false hb)
    · rename_i b0 o0 i0 hx
      obtain ⟨fd, hf, h1⟩ := bnd_ok h
      obtain ⟨n, hn, h2⟩ := bnd_ok h1
      cases hb : Nat.beq n 0 with
      | true => rw [hb] at h2; cases h2
      | false =>
        rw [hb] at h2
        cases h2
        exact op_fieldAddrI hop hx hf hn (Nat.ne_of_beq_eq_false hb)
    · cases h
  | field t x i =>
    simp only [hop] at h
    split at h
    · rename_i cs hx
      obtain ⟨fd, hf, h1⟩ := bnd_ok h
      obtain ⟨v, hv, h2⟩ := bnd_ok h1
      cases h2
      exact op_field hop hx hf hv
    · cases h
  | indexAddr t x i =>
    simp only [hop] at h
    split at h
    · rename_i k i' hi
      obtain ⟨d, hd, h1⟩ := bnd_ok h
      split at h1
      · rename_i e b0 o0 n c hx
        obtain ⟨s, hs, h2⟩ := bnd_ok h1
        obtain ⟨hc, h3⟩ := cond_ok h2
        cases h3
        exact op_indexAddr hop hi hd hx hs (blt_lt hc)
      · rename_i e b0 i0 n c hx
        obtain ⟨s, hs, h2⟩ := bnd_ok h1
        split at h2
        · rename_i own es lo m elem hg
          obtain ⟨hes, h3⟩ := cond_ok h2
          obtain ⟨hc, h3⟩ := cond_ok h3
          cases h3
          have := Nat.eq_of_beq_eq_true hes
          subst this
          exact op_indexAddrI hop hi hd hx hs (blt_lt hc) hg
        · cases h2
      · rename_i n e b0 o0 hx
        obtain ⟨s, hs, h2⟩ := bnd_ok h1
        obtain ⟨hc, h3⟩ := cond_ok h2
        cases h3
        exact op_indexAddr_arr hop hi hd hx hs (blt_lt hc)
      · rename_i n e b0 o0 i0 hx
        obtain ⟨s, hs, h2⟩ := bnd_ok h1
        obtain ⟨hc, h3⟩ := cond_ok h2
        cases h3
        exact op_indexAddr_arrI hop hi hd hx hs (blt_lt hc)
      · cases h1
    · cases h
  | index t x i =>
    simp only [hop] at h
    split at h
    · rename_i k i' s hi hx
      obtain ⟨d, hd, h1⟩ := bnd_ok h
      split at h1
      · split at h1
        · rename_i b hb
          cases h1
          exact op_index_str hop hi hx hd hb
        · cases h1
      · cases h1
    · rename_i k i' cs hi hx
      obtain ⟨d, hd, h1⟩ := bnd_ok h
      split at h1
      · obtain ⟨s, hs, h2⟩ := bnd_ok h1
        obtain ⟨hc, h3⟩ := cond_ok h2
        obtain ⟨v, hv, h4⟩ := bnd_ok h3
        cases h4
        exact op_index_arr hop hi hx hd hs (blt_lt hc) hv
      · cases h1
    · cases h
  | lookup t x i ok =>
    simp only [hop] at h
    obtain ⟨d, hd, h1⟩ := bnd_ok h
    split at h1
    · rename_i kt et
      split at h1
      · rename_i kk vk es hm
        obtain ⟨v, hv, h2⟩ := bnd_ok h1
        cases h2
        exact op_lookupO hop hd hm hv
      · obtain ⟨kd, hk, h1⟩ := bnd_ok h1
        obtain ⟨es, hm, h2⟩ := bnd_ok h1
        obtain ⟨u, hu, h3⟩ := bnd_ok h2
        obtain ⟨q, hq, h4⟩ := bnd_ok h3
        obtain ⟨z, hz, h5⟩ := bnd_ok h4
        cases h5
        exact op_lookup hop hd ⟨kd, hk⟩ hm hu hq hz
    · cases h1
  | mapUpdate t m k x =>
    simp only [hop] at h
    obtain ⟨d, hd, h1⟩ := bnd_ok h
    split at h1
    · obtain ⟨kd, hk, h1⟩ := bnd_ok h1
      split at h1
      · rename_i b hm
        split at h1
        · rename_i es clock hg
          obtain ⟨u, hu, h2⟩ := bnd_ok h1
          obtain ⟨q, hq, h3⟩ := bnd_ok h2
          exact op_mapUpdate (.inl hop) hd ⟨kd, hk⟩ hm hg hu h3 hq
        · rename_i kk vk es hg
          obtain ⟨o', ho, h2⟩ := bnd_ok h1
          cases h2
          exact op_updateO (.inl hop) hd hm hg ho
        · cases h1
      · cases h1
    · cases h1
  | insert t m k x =>
    simp only [hop] at h
    obtain ⟨d, hd, h1⟩ := bnd_ok h
    split at h1
    · obtain ⟨kd, hk, h1⟩ := bnd_ok h1
      split at h1
      · rename_i b hm
        split at h1
        · rename_i es clock hg
          obtain ⟨u, hu, h2⟩ := bnd_ok h1
          obtain ⟨q, hq, h3⟩ := bnd_ok h2
          exact op_mapUpdate (.inr hop) hd ⟨kd, hk⟩ hm hg hu h3 hq
        · rename_i kk vk es hg
          obtain ⟨o', ho, h2⟩ := bnd_ok h1
          cases h2
          exact op_updateO (.inr hop) hd hm hg ho
        · cases h1
      · cases h1
    · cases h1
  | typeAssert x xt t ok =>
    simp only [hop] at h
    obtain ⟨d, hd, h1⟩ := bnd_ok h
    split at h1
    · cases h1
    · rename_i hne hx
      refine op_typeAssert hop hd (fun m e => hne m e) ?_
      rw [hx]; exact h1
    · rename_i t' v hne hx
      refine op_typeAssert hop hd (fun m e => hne m e) ?_
      rw [hx]; exact h1
    · cases h1
  | extract t i =>
    simp only [hop] at h
    split at h
    · rename_i vs hx
      obtain ⟨v, hv, h1⟩ := bnd_ok h
      cases h1
      exact op_extract hop hx (of_ok hv)
    · cases h
  | call c =>
    simp only [hop] at h
    obtain ⟨callee, ⟨args⟩, ⟨ts⟩⟩ := c
    split at h
    · rename_i b hb
      simp only at hb
      subst hb
      exact op_builtin hop h
    · rename_i g hb
      simp only at hb
      subst hb
      split at h
      · rename_i fn a b hg
        exact op_callValue hop hg h
      · cases h
    · cases h
  | defer c =>
    simp only [hop] at h
    obtain ⟨callee, ⟨args⟩, ts⟩ := c
    split at h
    · rename_i g hb
      simp only at hb
      subst hb
      split at h
      · rename_i fn a b hg
        cases h
        exact op_defer hop hg
      · cases h
    · cases h
  | panic x =>
    simp only [hop] at h
    split at h
    · rename_i t v hx; cases h; exact op_panic hop hx
    · cases h
  | _ => simp only [hop] at h; cases h
end Go.Proofs.YtpogcoolgnjejaaGreatDoor.Ev
/-
  Steps on a memory and on slots that may come in many orders: what is told of one order holds of all. Plain lists and numbers.
-/
set_option linter.unusedVariables false
set_option linter.unusedSimpArgs false
namespace Go.Proofs.YtpogcoolgnjejaaGreatDoor.Ev
open Go

/-- a step: the numbers that it may take; what it looks at, and what becomes of that; the slot that it writes, and what -/
structure It where
  s : Nat
  e : Nat
  hb : Mem
  ha : Mem
  dst : Option Nat
  v : Value
  looks : List Nat
  /-- what is only looked at, and what is asked of it -/
  rb : Option Nat
  rp : AObj → Prop
def It.dom (i : It) (x : Nat) : Prop := (∃ o, i.hb x = some o) ∨ (i.s ≤ x ∧ x < i.e)
instance It.decDom (i : It) (x : Nat) : Decidable (i.dom x) := decidable_of_iff ((i.hb x).isSome = true ∨ (i.s ≤ x ∧ x < i.e)) (by
  unfold It.dom
  rw [Option.isSome_iff_exists])
def It.upd (i : It) (g : Mem) : Mem := fun x => if i.dom x then i.ha x else g x
def gK (it : Nat → It) (g0 : Mem) (L : Nat → Bool) : Nat → Mem
  | 0 => g0
  | k + 1 => if L k then (it k).upd (gK it g0 L k) else gK it g0 L k
def slK (it : Nat → It) (s0 : Nat → Option Value) (L : Nat → Bool) : Nat → Nat → Option Value
  | 0 => s0
  | k + 1 => fun t => if L k = true ∧ (it k).dst = some t then some (it k).v else slK it s0 L k t
def allL : Nat → Bool := fun _ => true
theorem gK_all (it : Nat → It) (g0 : Mem) (k : Nat) : gK it g0 allL (k + 1) = (it k).upd (gK it g0 allL k) := if_pos rfl
theorem gK_on (it : Nat → It) (g0 : Mem) {L : Nat → Bool} {k : Nat} (h : L k = true) : gK it g0 L (k + 1) = (it k).upd (gK it g0 L k) := if_pos h
theorem gK_off (it : Nat → It) (g0 : Mem) {L : Nat → Bool} {k : Nat} (h : L k = false) : gK it g0 L (k + 1) = gK it g0 L k := if_neg (by rw [h]; simp)

/-- what one order tells -/
structure Run (it : Nat → It) (n : Nat) (g0 : Mem) (anc : Nat → Nat → Prop) : Prop where
  le : ∀ k, k < n → (it k).s ≤ (it k).e
  mono : ∀ i j, i < j → j < n → (it i).e ≤ (it j).s
  sub : ∀ k, k < n → ∀ x o, (it k).hb x = some o → gK it g0 allL k x = some o
  low : ∀ k, k < n → ∀ x o, (it k).hb x = some o → x < (it k).s
  ind : ∀ i j, i < j → j < n → ¬ anc j i → ∀ x o, (it j).hb x = some o → ¬ ((it i).s ≤ x ∧ x < (it i).e) ∧ ∀ o', (it i).hb x = some o' → (it i).ha x = (it i).hb x ∧ (it j).ha x = (it j).hb x
  slots : ∀ i j, i < j → j < n → ¬ anc j i → (∀ t, (it i).dst = some t → t ∉ (it j).looks ∧ (it j).dst ≠ some t) ∧ (∀ t, (it j).dst = some t → t ∉ (it i).looks)
  rlo : ∀ j, j < n → ∀ b, (it j).rb = some b → b < (it j).s ∧ ∃ o, gK it g0 allL j b = some o ∧ (it j).rp o
  rbk : ∀ i j, i < j → j < n → ¬ anc j i → ∀ b, (it j).rb = some b → ¬ ((it i).s ≤ b ∧ b < (it i).e) ∧ ∀ o, (it i).hb b = some o → (it i).ha b = (it i).hb b
  rfw : ∀ i j, i < j → j < n → ¬ anc j i → ∀ b, (it i).rb = some b → ∀ o, (it j).hb b = some o → (it j).ha b = (it j).hb b ∨ ∃ o', (it j).ha b = some o' ∧ (it i).rp o'
def Down (n : Nat) (anc : Nat → Nat → Prop) (L : Nat → Bool) : Prop := ∀ j, j < n → L j = true → ∀ i, i < j → anc j i → L i = true
def addL (L : Nat → Bool) (j : Nat) : Nat → Bool := fun i => if i = j then true else L i

theorem Run.ahead {it : Nat → It} {n : Nat} {g0 : Mem} {anc : Nat → Nat → Prop} (R : Run it n g0 anc) {L : Nat → Bool} {i : Nat} (hi : i < n) (hL : ∀ k, k < i → anc i k → L k = true) {x : Nat} {o : AObj} (hx : (it i).hb x = some o) : ∀ k, k ≤ i → gK it g0 L k x = gK it g0 allL k x := by
  intro k
  induction k with
  | zero => intro _; rfl
  | succ k ih =>
    intro hk
    have h1 := ih (by omega)
    rw [gK_all]
    cases hl : L k with
    | true =>
      rw [gK_on it g0 hl]
      simp only [It.upd]
      split
      · rfl
      · exact h1
    | false =>
      rw [gK_off it g0 hl]
      have hna : ¬ anc i k := fun h => by rw [hL k (by omega) h] at hl; cases hl
      obtain ⟨a1, a2⟩ := R.ind k i (by omega) hi hna x o hx
      rw [h1]
      simp only [It.upd]
      split
      · rename_i hd
        rcases hd with ⟨o', hd⟩ | hd
        · rw [(a2 o' hd).1, hd]
          exact R.sub k (by omega) x o' hd
        · exact absurd hd a1
      · rfl
theorem Run.at {it : Nat → It} {n : Nat} {g0 : Mem} {anc : Nat → Nat → Prop} (R : Run it n g0 anc) {L : Nat → Bool} {j : Nat} (hj : j < n) (hLj : L j = false) (hD : Down n anc L) (hL : ∀ k, k < j → anc j k → L k = true) {x : Nat} {o : AObj} (hx : (it j).hb x = some o) : ∀ k, j ≤ k → k ≤ n → gK it g0 L k x = some o := by
  have h0 : gK it g0 L j x = some o := (R.ahead hj hL hx j (Nat.le_refl _)).trans (R.sub j hj x o hx)
  intro k hjk
  induction k with
  | zero => intro _; have : j = 0 := by omega
            subst this; exact h0
  | succ k ih =>
    intro hk
    by_cases he : j = k + 1
    · subst he; exact h0
    · have h1 := ih (by omega) (by omega)
      simp only [gK]
      cases hl : L k with
      | false => simpa using h1
      | true =>
        simp only [if_true, It.upd]
        have hkj : j < k := by
          rcases Nat.lt_or_ge j k with h | h
          · exact h
          · have : j = k := by omega
            subst this; rw [hLj] at hl; cases hl
        have hna : ¬ anc k j := fun h => by rw [hD k (by omega) hl j hkj h] at hLj; cases hLj
        split
        · rename_i hd
          rcases hd with ⟨o', hd⟩ | hd
          · obtain ⟨_, a2⟩ := R.ind j k hkj (by omega) hna x o' hd
            obtain ⟨b1, b2⟩ := a2 o hx
            rw [b2, hd]
            have h3 := R.ahead (L := L) (i := k) (by omega) (fun i h4 h5 => hD k (by omega) hl i h4 h5) hd k (Nat.le_refl _)
            rw [R.sub k (by omega) x o' hd, h1] at h3
            exact h3.symm
          · have := R.low j hj x o hx
            have := R.mono j k hkj (by omega)
            have := R.le j hj
            omega
        · exact h1
theorem Run.ahead_rd {it : Nat → It} {n : Nat} {g0 : Mem} {anc : Nat → Nat → Prop} (R : Run it n g0 anc) {L : Nat → Bool} {i : Nat} (hi : i < n) (hL : ∀ k, k < i → anc i k → L k = true) {b : Nat} (hb : (it i).rb = some b) : ∀ k, k ≤ i → gK it g0 L k b = gK it g0 allL k b := by
  intro k
  induction k with
  | zero => intro _; rfl
  | succ k ih =>
    intro hk
    have h1 := ih (by omega)
    rw [gK_all]
    cases hl : L k with
    | true =>
      rw [gK_on it g0 hl]
      simp only [It.upd]
      split
      · rfl
      · exact h1
    | false =>
      rw [gK_off it g0 hl]
      have hna : ¬ anc i k := fun h => by rw [hL k (by omega) h] at hl; cases hl
      obtain ⟨a1, a2⟩ := R.rbk k i (by omega) hi hna b hb
      rw [h1]
      simp only [It.upd]
      split
      · rename_i hd
        rcases hd with ⟨o', hd⟩ | hd
        · rw [a2 o' hd, hd]
          exact R.sub k (by omega) b o' hd
        · exact absurd hd a1
      · rfl
/-- what is only looked at is there, in whatever order -/
theorem Run.at_rd {it : Nat → It} {n : Nat} {g0 : Mem} {anc : Nat → Nat → Prop} (R : Run it n g0 anc) {L : Nat → Bool} {j : Nat} (hj : j < n) (hLj : L j = false) (hD : Down n anc L) (hL : ∀ k, k < j → anc j k → L k = true) {b : Nat} (hb : (it j).rb = some b) : ∀ k, j ≤ k → k ≤ n → ∃ o, gK it g0 L k b = some o ∧ (it j).rp o := by
  obtain ⟨hlo, o0, g1, g2⟩ := R.rlo j hj b hb
  have h0 : ∃ o, gK it g0 L j b = some o ∧ (it j).rp o := ⟨o0, (R.ahead_rd hj hL hb j (Nat.le_refl _)).trans g1, g2⟩
  intro k hjk
  induction k with
  | zero => intro _; have : j = 0 := by omega
            subst this; exact h0
  | succ k ih =>
    intro hk
    by_cases he : j = k + 1
    · subst he; exact h0
    · obtain ⟨o1, q1, q2⟩ := ih (by omega) (by omega)
      simp only [gK]
      cases hl : L k with
      | false => exact ⟨o1, by simpa using q1, q2⟩
      | true =>
        simp only [if_true, It.upd]
        have hkj : j < k := by
          rcases Nat.lt_or_ge j k with h | h
          · exact h
          · have : j = k := by omega
            subst this; rw [hLj] at hl; cases hl
        have hna : ¬ anc k j := fun h => by rw [hD k (by omega) hl j hkj h] at hLj; cases hLj
        split
        · rename_i hd
          rcases hd with ⟨o', hd⟩ | hd
          · rcases R.rfw j k hkj (by omega) hna b hb o' hd with h2 | h2
            · have h3 := R.ahead (L := L) (i := k) (by omega) (fun i h4 h5 => hD k (by omega) hl i h4 h5) hd k (Nat.le_refl _)
              rw [R.sub k (by omega) b o' hd, q1] at h3
              refine ⟨o1, ?_, q2⟩
              rw [h2, hd, ← h3]
            · exact h2
          · have := R.mono j k hkj (by omega)
            have := R.le j hj
            omega
        · exact ⟨o1, q1, q2⟩
theorem Run.add {it : Nat → It} {n : Nat} {g0 : Mem} {anc : Nat → Nat → Prop} (R : Run it n g0 anc) {L : Nat → Bool} {j : Nat} (hj : j < n) (hLj : L j = false) (hD : Down n anc L) (hL : ∀ k, k < j → anc j k → L k = true) : ∀ k, k ≤ n → gK it g0 (addL L j) k = if j < k then (it j).upd (gK it g0 L k) else gK it g0 L k := by
  intro k
  induction k with
  | zero => intro _; rw [if_neg (by omega)]; rfl
  | succ k ih =>
    intro hk
    have h1 := ih (by omega)
    rcases Nat.lt_trichotomy k j with hkj | hkj | hkj
    · rw [if_neg (by omega)] at h1 ⊢
      simp only [gK, addL, if_neg (show k ≠ j by omega)]
      rw [h1]
    · subst hkj
      rw [if_neg (by omega)] at h1
      rw [if_pos (by omega)]
      simp only [gK, addL, if_true, hLj, Bool.false_eq_true, if_false]
      rw [h1]
    · rw [if_pos hkj] at h1
      rw [if_pos (by omega)]
      simp only [gK, addL, if_neg (show k ≠ j by omega)]
      rw [h1]
      cases hl : L k with
      | false => simp
      | true =>
        simp only [if_true]
        have hna : ¬ anc k j := fun h => by rw [hD k (by omega) hl j hkj h] at hLj; cases hLj
        funext x
        simp only [It.upd]
        by_cases hk1 : (it k).dom x
        · by_cases hj1 : (it j).dom x
          · rw [if_pos hk1, if_pos hj1]
            rcases hk1 with ⟨o', hk1⟩ | hk1
            · obtain ⟨a1, a2⟩ := R.ind j k hkj (by omega) hna x o' hk1
              rcases hj1 with ⟨o, hj1⟩ | hj1
              · obtain ⟨b1, b2⟩ := a2 o hj1
                rw [b1, b2, hk1, hj1]
                have h3 := R.ahead (L := L) (i := k) (by omega) (fun i h4 h5 => hD k (by omega) hl i h4 h5) hk1 k (Nat.le_refl _)
                rw [R.sub k (by omega) x o' hk1, R.at hj hLj hD hL hj1 k (by omega) (by omega)] at h3
                exact h3.symm
              · exact absurd hj1 a1
            · exfalso
              have m1 := R.mono j k hkj (by omega)
              have m2 := R.le j hj
              rcases hj1 with ⟨o, hj1⟩ | hj1
              · have := R.low j hj x o hj1; omega
              · omega
          · rw [if_pos hk1, if_neg hj1, if_pos hk1]
        · rw [if_neg hk1]
          by_cases hj1 : (it j).dom x
          · rw [if_pos hj1, if_pos hj1]
          · rw [if_neg hj1, if_neg hj1, if_neg hk1]
theorem Run.slot_prefix {it : Nat → It} {n : Nat} {g0 : Mem} {anc : Nat → Nat → Prop} (R : Run it n g0 anc) {s0 : Nat → Option Value} {L : Nat → Bool} {i t : Nat} (hi : i < n) (hL : ∀ k, k < i → anc i k → L k = true) (ht : t ∈ (it i).looks) : ∀ k, k ≤ i → slK it s0 L k t = slK it s0 allL k t := by
  intro k
  induction k with
  | zero => intro _; rfl
  | succ k ih =>
    intro hk
    have h1 := ih (by omega)
    simp only [slK, allL, true_and]
    cases hl : L k with
    | true => simp [h1, allL]
    | false =>
      have hna : ¬ anc i k := fun h => by rw [hL k (by omega) h] at hl; cases hl
      have hd : (it k).dst ≠ some t := fun e => ((R.slots k i (by omega) hi hna).1 t e).1 ht
      simp [hd, h1, allL]
theorem Run.slot_at {it : Nat → It} {n : Nat} {g0 : Mem} {anc : Nat → Nat → Prop} (R : Run it n g0 anc) {s0 : Nat → Option Value} {L : Nat → Bool} {j t : Nat} (hj : j < n) (hLj : L j = false) (hD : Down n anc L) (hL : ∀ k, k < j → anc j k → L k = true) (ht : t ∈ (it j).looks) : ∀ k, j ≤ k → k ≤ n → slK it s0 L k t = slK it s0 allL j t := by
  have h0 := R.slot_prefix (s0 := s0) hj hL ht j (Nat.le_refl _)
  intro k hjk
  induction k with
  | zero => intro _; have : j = 0 := by omega
            subst this; exact h0
  | succ k ih =>
    intro hk
    by_cases he : j = k + 1
    · subst he; exact h0
    · have h1 := ih (by omega) (by omega)
      simp only [slK]
      cases hl : L k with
      | false => simpa using h1
      | true =>
        have hkj : j < k := by
          rcases Nat.lt_or_ge j k with h | h
          · exact h
          · have : j = k := by omega
            subst this; rw [hLj] at hl; cases hl
        have hna : ¬ anc k j := fun h => by rw [hD k (by omega) hl j hkj h] at hLj; cases hLj
        have hd : (it k).dst ≠ some t := fun e => (R.slots j k hkj (by omega) hna).2 t e ht
        simp [hd, h1]
theorem Run.slot_add {it : Nat → It} {n : Nat} {g0 : Mem} {anc : Nat → Nat → Prop} (R : Run it n g0 anc) {s0 : Nat → Option Value} {L : Nat → Bool} {j : Nat} (hj : j < n) (hLj : L j = false) (hD : Down n anc L) : ∀ k, k ≤ n → ∀ t, slK it s0 (addL L j) k t = if j < k ∧ (it j).dst = some t then some (it j).v else slK it s0 L k t := by
  intro k
  induction k with
  | zero => intro _ t; rw [if_neg (by omega)]; rfl
  | succ k ih =>
    intro hk t
    have h1 := ih (by omega) t
    have h1' := h1
    rcases Nat.lt_trichotomy k j with hkj | hkj | hkj
    · rw [if_neg (by omega)] at h1' ⊢
      simp only [slK, addL, if_neg (show k ≠ j by omega)]
      rw [h1']
    · subst hkj
      rw [if_neg (by omega)] at h1'
      simp only [slK, addL, if_true, hLj, true_and, Bool.false_eq_true, false_and, if_false]
      rw [h1']
      by_cases hd : (it k).dst = some t
      · rw [if_pos hd, if_pos ⟨by omega, hd⟩]
      · rw [if_neg hd, if_neg (by simp [hd])]
    · simp only [slK, addL, if_neg (show k ≠ j by omega)]
      rw [h1']
      by_cases hd : (it j).dst = some t
      · have e1 : j < k + 1 := by omega
        simp only [hd, hkj, e1, and_self, if_true]
        cases hl : L k with
        | false => simp
        | true =>
          have hna : ¬ anc k j := fun h => by rw [hD k (by omega) hl j hkj h] at hLj; cases hLj
          have := ((R.slots j k hkj (by omega) hna).1 t hd).2
          simp [this]
      · simp only [hd, and_false, if_false]
end Go.Proofs.YtpogcoolgnjejaaGreatDoor.Ev
/-
  The checks that the evaluator makes of a region that draws its order, and what they give.
-/
set_option linter.unusedVariables false
set_option linter.unusedSimpArgs false
namespace Go.Proofs.YtpogcoolgnjejaaGreatDoor.Ev
open Go

theorem hasBit_iff (m j : Nat) : hasBit m j = m.testBit j := by
  unfold hasBit Nat.testBit
  rw [Nat.and_comm, Nat.and_one_is_mod]
  rcases Nat.mod_two_eq_zero_or_one (m >>> j) with h | h <;> rw [h] <;> rfl
theorem bindsA_iff (e : Edge) : bindsA e = Region.binds .any e := by
  unfold bindsA Region.binds
  cases e.ground <;> rfl
theorem maskL_bit {k : Nat} : ∀ {es : List Edge} {acc : List Nat}, hasBit (maskL es acc) k = true → ∃ e ∈ es, bindsA e = true ∧ (k = e.on ∨ hasBit (acc.getD e.on 0) k = true) := by
  intro es
  induction es with
  | nil => intro acc h; simp [maskL, hasBit_iff] at h
  | cons e es ih =>
    intro acc h
    simp only [maskL] at h
    cases hb : bindsA e with
    | false =>
      rw [hb] at h
      obtain ⟨e', h1, h2⟩ := ih h
      exact ⟨e', by simp [h1], h2⟩
    | true =>
      rw [hb] at h
      simp only [cond_true] at h
      rw [hasBit_iff, Nat.testBit_or, Nat.testBit_or, Bool.or_eq_true, Bool.or_eq_true] at h
      rcases h with (h | h) | h
      · obtain ⟨e', h1, h2⟩ := ih (acc := acc) (by rw [hasBit_iff]; exact h)
        exact ⟨e', by simp [h1], h2⟩
      · have : e.on = k := by simpa [Nat.testBit_two_pow] using h
        exact ⟨e, by simp, hb, .inl this.symm⟩
      · exact ⟨e, by simp, hb, .inr (by rw [hasBit_iff]; exact h)⟩
/-- the masks, one by one -/
theorem ancL_spec : ∀ (l : List Oper) (acc : List Nat), (ancL l acc).length = acc.length + l.length ∧ (∀ i, i < acc.length → (ancL l acc)[i]? = acc[i]?) ∧
    ∀ (k : Nat) (o : Oper), l[k]? = some o → ∃ pre, pre.length = acc.length + k ∧ (∀ i, i < pre.length → (ancL l acc)[i]? = pre[i]?) ∧ (ancL l acc)[acc.length + k]? = some (maskL o.after.toList pre) := by
  intro l
  induction l with
  | nil => intro acc; exact ⟨by simp [ancL], fun i _ => rfl, fun k o h => by simp at h⟩
  | cons o l ih =>
    intro acc
    obtain ⟨h1, h2, h3⟩ := ih (acc ++ [maskL o.after.toList acc])
    simp only [ancL]
    refine ⟨by rw [h1]; simp; omega, fun i hi => ?_, fun k o' hk => ?_⟩
    · rw [h2 i (by simp; omega), List.getElem?_append_left hi]
    · cases k with
      | zero =>
        simp only [List.getElem?_cons_zero, Option.some.injEq] at hk
        subst hk
        refine ⟨acc, by simp, fun i hi => ?_, ?_⟩
        · rw [h2 i (by simp; omega), List.getElem?_append_left hi]
        · rw [h2 _ (by simp), List.getElem?_append_right (by omega)]; simp
      | succ k =>
        obtain ⟨pre, p1, p2, p3⟩ := h3 k o' (by simpa using hk)
        refine ⟨pre, by rw [p1]; simp; omega, p2, ?_⟩
        rw [← p3]
        congr 1
        simp; omega
def maskOf (all : List Oper) (j : Nat) : Nat := (ancL all []).getD j 0
def Anc (all : List Oper) (j i : Nat) : Prop := hasBit (maskOf all j) i = true
theorem anc_edge {all : List Oper} {j k : Nat} {o : Oper} (ho : all[j]? = some o) (h : Anc all j k) (hb : ∀ e ∈ o.after.toList, bindsA e = true → e.on < j) : ∃ e ∈ o.after.toList, bindsA e = true ∧ (k = e.on ∨ Anc all e.on k) := by
  obtain ⟨h1, h2, h3⟩ := ancL_spec all []
  obtain ⟨pre, p1, p2, p3⟩ := h3 j o ho
  simp only [List.length_nil, Nat.zero_add] at p1 p3
  unfold Anc maskOf at h ⊢
  rw [List.getD_eq_getElem?_getD, p3] at h
  obtain ⟨e, e1, e2, e3⟩ := maskL_bit (by simpa using h)
  refine ⟨e, e1, e2, ?_⟩
  rcases e3 with e3 | e3
  · exact .inl e3
  · right
    have := hb e e1 e2
    rw [List.getD_eq_getElem?_getD] at e3 ⊢
    rw [p2 e.on (by omega)]
    exact e3
theorem zip_get {all : List Oper} {j : Nat} {o : Oper} (ho : all[j]? = some o) : (all.zip (ancL all []))[j]? = some (o, maskOf all j) := by
  obtain ⟨h1, h2, h3⟩ := ancL_spec all []
  obtain ⟨pre, p1, p2, p3⟩ := h3 j o ho
  simp only [List.length_nil, Nat.zero_add] at p3
  rw [List.getElem?_zip_eq_some]
  exact ⟨ho, by unfold maskOf; rw [List.getD_eq_getElem?_getD, p3]; simp⟩
theorem backOk_spec {all : List Oper} : ∀ {n : Nat}, backOk all n = true → ∀ (j : Nat) (o : Oper), j < n → all[j]? = some o → (∀ e ∈ o.after.toList, bindsA e = true → e.on < j) ∧ (∀ cs b, o.op ≠ .select cs b) ∧ ∀ c, o.op ≠ .defer c := by
  intro n
  induction n with
  | zero => intro _ j o h; omega
  | succ n ih =>
    intro h j o hj ho
    simp only [backOk, Bool.and_eq_true] at h
    rcases Nat.lt_or_ge j n with hl | hl
    · exact ih h.2 j o hl ho
    · have : j = n := by omega
      subst this
      have h1 := h.1
      rw [ho] at h1
      simp only [Bool.and_eq_true, List.all_eq_true, Bool.or_eq_true, Bool.not_eq_true'] at h1
      refine ⟨fun e he hb => ?_, fun cs b e => ?_, fun c e => ?_⟩
      · rcases h1.1 e he with h2 | h2
        · rw [hb] at h2; cases h2
        · exact blt_lt h2
      · rw [e] at h1; simp at h1
      · rw [e] at h1; simp at h1
theorem anc_lt {all : List Oper} {n : Nat} (hb : backOk all n = true) : ∀ j, j < n → ∀ k, Anc all j k → k < j := by
  intro j
  induction j using Nat.strongRecOn with
  | _ j ih =>
    intro hj k h
    cases ho : all[j]? with
    | none =>
      exfalso
      obtain ⟨h1, _, _⟩ := ancL_spec all []
      unfold Anc maskOf at h
      rw [List.getD_eq_getElem?_getD, List.getElem?_eq_none (by rw [h1]; have := List.getElem?_eq_none_iff.1 ho; simpa using this)] at h
      simp [hasBit_iff] at h
    | some o =>
      have hbk := (backOk_spec hb j o hj ho).1
      obtain ⟨e, e1, e2, e3⟩ := anc_edge ho h hbk
      have := hbk e e1 e2
      rcases e3 with e3 | e3
      · omega
      · have := ih e.on (by omega) (by omega) k e3; omega
theorem hasN_iff (l : List Nat) (d : Option Nat) : hasN l d = true ↔ ∃ t, d = some t ∧ t ∈ l := by
  unfold hasN
  cases d with
  | none => simp
  | some d =>
    simp only [List.any_eq_true, Option.some.injEq, exists_eq_left']
    constructor
    · rintro ⟨x, h1, h2⟩
      have := Nat.eq_of_beq_eq_true h2
      subst this; exact h1
    · intro h; exact ⟨d, h, Nat.beq_refl d⟩
theorem sameD_iff (a b : Option Nat) : sameD a b = true ↔ ∃ t, a = some t ∧ b = some t := by
  unfold sameD
  split
  · rename_i x y
    constructor
    · intro h; have := Nat.eq_of_beq_eq_true h; subst this; exact ⟨x, rfl, rfl⟩
    · rintro ⟨t, h1, h2⟩; cases h1; cases h2; exact Nat.beq_refl _
  · rename_i hne
    constructor
    · intro h; cases h
    · rintro ⟨t, h1, h2⟩; exact absurd h2 (by subst h1; intro h3; exact hne t t rfl h3)
theorem slotsGo_spec {ops : List Oper} : ∀ {l : List (Oper × Nat)} {seen : List (Nat × List Nat × Option Nat)} {j0 : Nat}, slotsGo ops l seen j0 = true →
    (∀ (k : Nat) (o : Oper) (m : Nat), l[k]? = some (o, m) → ∀ r ∈ seen, hasBit m r.1 = true ∨ (¬ hasN (looksL ops o) r.2.2 = true ∧ ¬ hasN r.2.1 o.dst = true ∧ ¬ sameD o.dst r.2.2 = true)) ∧
    ∀ (i k : Nat) (oi : Oper) (mi : Nat) (o : Oper) (m : Nat), i < k → l[i]? = some (oi, mi) → l[k]? = some (o, m) → hasBit m (j0 + i) = true ∨ (¬ hasN (looksL ops o) oi.dst = true ∧ ¬ hasN (looksL ops oi) o.dst = true ∧ ¬ sameD o.dst oi.dst = true) := by
  intro l
  induction l with
  | nil => intro seen j0 _; exact ⟨fun k o m h => by simp at h, fun i k oi mi o m _ h => by simp at h⟩
  | cons p l ih =>
    intro seen j0 h
    obtain ⟨o0, m0⟩ := p
    simp only [slotsGo, Bool.and_eq_true] at h
    obtain ⟨h1, h2⟩ := h
    obtain ⟨i1, i2⟩ := ih h2
    have key : ∀ r ∈ seen, hasBit m0 r.1 = true ∨ (¬ hasN (looksL ops o0) r.2.2 = true ∧ ¬ hasN r.2.1 o0.dst = true ∧ ¬ sameD o0.dst r.2.2 = true) := by
      intro r hr
      rw [List.all_eq_true] at h1
      have := h1 r hr
      rw [Bool.or_eq_true] at this
      rcases this with h | h
      · exact .inl h
      · right
        simp only [Bool.not_eq_true', Bool.or_eq_false_iff] at h
        exact ⟨by rw [h.1.1]; simp, by rw [h.1.2]; simp, by rw [h.2]; simp⟩
    refine ⟨fun k o m hk r hr => ?_, fun i k oi mi o m hik hi hk => ?_⟩
    · cases k with
      | zero => simp at hk; obtain ⟨rfl, rfl⟩ := hk; exact key r hr
      | succ k => exact i1 k o m (by simpa using hk) r (by simp [hr])
    · cases k with
      | zero => omega
      | succ k =>
        cases i with
        | zero =>
          simp at hi; obtain ⟨rfl, rfl⟩ := hi
          exact i1 k o m (by simpa using hk) (j0, looksL ops o0, o0.dst) (by simp)
        | succ i =>
          have := i2 i k oi mi o m (by omega) (by simpa using hi) (by simpa using hk)
          rw [show j0 + (i + 1) = j0 + 1 + i by omega]
          exact this
/-- what 'slotsOk' gives -/
theorem slotsOk_spec {all : List Oper} (h : slotsOk all = true) : backOk all all.length = true ∧
    ∀ (i j : Nat) (oi oj : Oper), i < j → all[i]? = some oi → all[j]? = some oj → ¬ Anc all j i → (∀ t, oi.dst = some t → t ∉ looksL all oj ∧ oj.dst ≠ some t) ∧ ∀ t, oj.dst = some t → t ∉ looksL all oi := by
  unfold slotsOk at h
  simp only [Bool.and_eq_true] at h
  refine ⟨h.2, fun i j oi oj hij hi hj hna => ?_⟩
  have := (slotsGo_spec h.1).2 i j oi _ oj _ hij (zip_get hi) (zip_get hj)
  rw [Nat.zero_add] at this
  rcases this with h1 | ⟨h1, h2, h3⟩
  · exact absurd h1 hna
  · refine ⟨fun t ht => ⟨fun hm => h1 ((hasN_iff _ _).2 ⟨t, ht, hm⟩), fun he => h3 ((sameD_iff _ _).2 ⟨t, he, ht⟩)⟩, fun t ht hm => h2 ((hasN_iff _ _).2 ⟨t, ht, hm⟩)⟩
end Go.Proofs.YtpogcoolgnjejaaGreatDoor.Ev
