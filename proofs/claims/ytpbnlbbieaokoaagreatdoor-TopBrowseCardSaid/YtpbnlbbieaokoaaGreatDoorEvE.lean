/-
  What the evaluator says of single operations holds of their runs: all of them.
-/
import Derived.Test.YtpbnlbbieaokoaaGreatDoorGe
set_option linter.unusedVariables false
set_option linter.unusedSimpArgs false
namespace Go.Proofs.YtpbnlbbieaokoaaGreatDoor.Ev
open Go

theorem builtin_exec {P : Program} {o : Oper} {b : Builtin} {xs : List Operand} {ts : List TypeId} (h : o.op = .call { callee := .builtin b, args := xs.toArray, argTypes := ts.toArray }) (ρ : Operand → Value) :
    ∃ cs, execOp ρ o = builtin b ts.toArray o.type cs (xs.map ρ).toArray := by
  refine ⟨xs.toArray.map fun | .const _ => true | _ => false, ?_⟩
  simp only [execOp, h, resolve]
  rw [LawfulMonad.pure_bind]
  simp [invoke]
  rfl
theorem all_ground {ρ : Rho} {l l' : List Value} (h : VRL ρ l l') (hg : l.all (ground 1) = true) : l' = l := by
  apply List.ext_getElem?
  intro i
  cases hx : l[i]? with
  | none => rw [List.getElem?_eq_none_iff] at hx ⊢; have := h.1; omega
  | some x =>
    obtain ⟨y, hy, hv⟩ := h.get hx
    rw [List.all_eq_true] at hg
    rw [hy, VR.ground 1 (hg x (List.mem_of_getElem? hx)) hv]
theorem cut_mm (k : FloatKind) (mx : Bool) (x y t : Nat) : nanB k ((Question.nanMinMax k mx x y).cut t) = true := by
  have : (Question.nanMinMax k mx x y).cut t = (Question.nanBits k x y).cut t := by cases k <;> rfl
  rw [this]
  exact cut_nan k x y t
theorem mm_run {P : Program} (ρ : Rho) {k : FloatKind} {a b a' b' : Nat} (a1 : nanB k a' = nanB k a) (a2 : nanB k a = false → a' = a) (b1 : nanB k b' = nanB k b) (b2 : nanB k b = false → b' = b) (mx : Bool) (w : World) :
    ∃ r w', ((cond mx Builtin.max2 Builtin.min2) (.float k a') (.float k b')).run P w = .ok (.float k r) w' ∧ (w' = w ∨ w' = w.drew) ∧ VR ρ (.float k (mmF mx k a b)) (.float k r) := by
  have hord : k.format.order a' b' = k.format.order a b := by
    cases hn : (nanB k a || nanB k b) with
    | true => rw [(arith_nan hn).2.2.2.2, (arith_nan (a := a') (b := b') (by rw [a1, b1]; exact hn)).2.2.2.2]
    | false =>
      simp only [Bool.or_eq_false_iff] at hn
      rw [a2 hn.1, b2 hn.2]
  cases ho : k.format.order a b with
  | none =>
    rw [ho] at hord
    refine ⟨(Question.nanMinMax k mx a' b').cut (w.tape w.drawn (.nanMinMax k mx a' b')), w.drew, ?_, .inr rfl, ?_⟩
    · cases mx <;> simp only [cond_true, cond_false, Builtin.max2, Builtin.min2, hord, Sem.run_bind, run_choose_drew, Question.forced, Bool.false_eq_true, if_false, Result.andThen_ok, Sem.run_pure]
    · unfold mmF; rw [ho]; exact .nan _ _ _ (qnan_nan k) (cut_mm _ _ _ _ _)
  | some o =>
    have hn : (nanB k a || nanB k b) = false := by
      cases hn : (nanB k a || nanB k b) with
      | false => rfl
      | true => rw [(arith_nan hn).2.2.2.2] at ho; cases ho
    simp only [Bool.or_eq_false_iff] at hn
    have e1 := a2 hn.1
    have e2 := b2 hn.2
    subst e1 e2
    refine ⟨mmF mx k a' b', w, ?_, .inl rfl, .float _ _⟩
    unfold mmF
    rw [ho]
    cases mx <;> cases o <;> simp only [cond_true, cond_false, Builtin.max2, Builtin.min2, ho, Sem.run_pure]
    all_goals (cases (k.decode a').neg <;> rfl)
theorem minN_min (a b : Nat) : minN a b = Nat.min b a := by
  unfold minN
  cases h : Nat.ble a b with
  | true => have := Nat.le_of_ble_eq_true h; simp only [cond_true]; exact (Nat.min_eq_right this).symm
  | false =>
    have : ¬ a ≤ b := fun h2 => by rw [Nat.ble_eq_true_of_le h2] at h; cases h
    simp only [cond_false]
    exact (Nat.min_eq_left (by omega)).symm
/-- copy, of cells to cells -/
theorem copy_sound {P : Program} {ρ : Rho} {st st' : ASt} {w : World} {t ty : TypeId} {ts : List TypeId} {base b2 : Option Addr} {len c n2 c2 : Nat} {s' x' v : Value} (h : aCopy P st t base len b2 n2 = .ok (.val v st'))
    (hw : WR ρ st.h.get w) (hS : VR ρ (.slice base len c) s') (hX : VR ρ (.slice b2 n2 c2) x') :
    ∃ v' w', (Builtin.copy_ (t :: ts).toArray ty #[s', x']).run P w = .ok v' w' ∧ VR ρ v v' ∧ Mv ρ ρ st.h.get st'.h.get st.next st'.next w w' := by
  unfold aCopy at h
  obtain ⟨d, hd, h0⟩ := bnd_ok h
  clear h
  split at h0
  rotate_left
  · cases h0
  rename_i elem
  obtain ⟨size, hs, h⟩ := bnd_ok h0
  clear h0
  cases hz : Nat.beq (minN len n2) 0 with
  | true =>
    rw [hz] at h
    simp only [cond_true] at h
    cases h
    obtain ⟨b', c', rfl⟩ := slice_form hS
    obtain ⟨b2', c2', rfl⟩ := slice_form hX
    have h0 : Nat.min n2 len = 0 := by rw [← minN_min]; exact Nat.eq_of_beq_eq_true hz
    refine ⟨.int .i64 0, w, ?_, .int _ _, Mv.refl hw _⟩
    have hfc : ∀ w0, (Builtin.firstCells size 0 (.slice b2' n2 c2')).run P w0 = .ok #[] w0 := by
      intro w0
      have h0 : 0 * size = 0 := Nat.zero_mul _
      cases b2' <;> simp only [Builtin.firstCells, loadCells, h0] <;> rfl
    have hlen : ∀ w0, (Builtin.lenOf (.slice b2' n2 c2')).run P w0 = .ok n2 w0 := fun w0 => rfl
    cases b' <;> simp only [Builtin.copy_, List.getElem?_toArray, List.getElem?_cons_zero, List.getElem?_cons_succ, Sem.run_bind, run_und hd, run_sizeL hs, Result.andThen_ok, hlen, h0, hfc, Sem.run_pure, storeCells, goInt] <;> rfl
  | false =>
    rw [hz] at h
    simp only [cond_false] at h
    split at h
    rotate_left
    · cases h
    rename_i b0 o0 a2
    obtain ⟨l, h1, h3⟩ := bnd_ok h
    clear h
    obtain ⟨st1, h2, h4⟩ := bnd_ok h3
    clear h3
    cases h4
    have hk0 : minN len n2 ≠ 0 := Nat.ne_of_beq_eq_false hz
    have hmin := minN_min len n2
    obtain ⟨hle1, hle2⟩ := minN_le len n2
    generalize minN len n2 = k at *
    obtain ⟨b2', c2', rfl⟩ : ∃ b' c', x' = .slice b' n2 c' := slice_form hX
    have hsrc : ∃ l', VRL ρ l l' ∧ ∀ w1 : World, w1.heap = w.heap → (Builtin.firstCells size k (.slice b2' n2 c2')).run P w1 = .ok l'.toArray w1 := by
      cases hX with
      | slice b o s _ _ c' o' hs' hn hc hxx hr ho =>
        obtain ⟨l', r1, r2, r3⟩ := readC_rel h1 hw hs'
        refine ⟨l', r1, fun w1 hw1 => ?_⟩
        simp only [locOf] at r3
        have ho' : o' = s.base + o := by
          rcases ho with ho | ho
          · exact ho
          · omega
        subst ho'
        have := run_loadCells_list (P := P) (w := w1) ⟨s.blk, s.base + o, none⟩ l' (fun j v hv => by
          have := r3 j v hv
          unfold World.cell? at this ⊢
          rw [hw1]; exact this)
        rw [r2] at this
        simp only [Builtin.firstCells, this]
      | sliceI b i s _ _ c' o' hs hn hc hr hv ho =>
        exfalso
        unfold ASt.readC at h1
        split at h1 <;> cases h1
      | sliceE => exact absurd (Nat.le_zero.1 hle2) hk0
      | sliceN => exact absurd (Nat.le_zero.1 hle2) hk0
      | sliceZ => exact absurd (Nat.le_zero.1 hle2) hk0
      | sliceX => exact absurd (Nat.le_zero.1 hle2) hk0
    obtain ⟨l', r1, r4⟩ := hsrc
    have hall := writeC_oneC h2
    cases hS with
    | slice _ _ s _ _ c' o' hsp hn hc hxx hro hoo =>
      obtain ⟨w', k1, k2⟩ := writeC_rel (P := P) h2 hw (s := s) hsp r1 (oneC_list r1 hall)
      have ho' : o' = s.base + o0 := by
        rcases hoo with hoo | hoo
        · exact hoo
        · omega
      subst ho'
      have hloc : locOf s (⟨b0, o0, none⟩ : Addr) = s.base + o0 := rfl
      rw [hloc] at k1
      refine ⟨.int .i64 (Int.ofNat k), w', ?_, .int _ _, k2⟩
      have hlen : ∀ w0, (Builtin.lenOf (.slice b2' n2 c2')).run P w0 = .ok n2 w0 := fun w0 => rfl
      simp only [Builtin.copy_, List.getElem?_toArray, List.getElem?_cons_zero, List.getElem?_cons_succ, Sem.run_bind, run_und hd, run_sizeL hs, Result.andThen_ok, hlen, ← hmin, r4 w rfl, Sem.run_pure, k1, goInt]
      rfl
theorem clear_sound {P : Program} {ρ : Rho} {st st' : ASt} {w : World} {t ty : TypeId} {ts : List TypeId} {base : Option Addr} {len c : Nat} {s' v : Value} (h : aClear P st t base len = .ok (.val v st'))
    (hw : WR ρ st.h.get w) (hS : VR ρ (.slice base len c) s') :
    ∃ v' w', (Builtin.clear_ (t :: ts).toArray ty #[s']).run P w = .ok v' w' ∧ VR ρ v v' ∧ Mv ρ ρ st.h.get st'.h.get st.next st'.next w w' := by
  unfold aClear at h
  obtain ⟨d, hd, h0⟩ := bnd_ok h
  clear h
  have h := h0
  clear h0
  split at h
  rotate_left
  · cases h
  rename_i elem
  have hu : VR ρ undef (.tuple #[]) := .tuple _ _ rfl (fun i x y hx => by simp at hx)
  cases hz : Nat.beq len 0 with
  | true =>
    rw [hz] at h
    simp only [cond_true] at h
    cases h
    obtain ⟨b', c', rfl⟩ := slice_form hS
    have h0 : len = 0 := Nat.eq_of_beq_eq_true hz
    subst h0
    refine ⟨.tuple #[], w, ?_, hu, Mv.refl hw _⟩
    cases b' <;> simp only [Builtin.clear_, List.getElem?_toArray, List.getElem?_cons_zero, Sem.run_bind, run_und hd, Result.andThen_ok, Sem.run_pure]
  | false =>
    rw [hz] at h
    simp only [cond_false] at h
    split at h
    rotate_left
    · cases h
    rename_i b0 o0
    obtain ⟨z, hzl, h3⟩ := bnd_ok h
    clear h
    obtain ⟨st1, h2, h4⟩ := bnd_ok h3
    clear h3
    cases h4
    have hk0 : len ≠ 0 := Nat.ne_of_beq_eq_false hz
    obtain ⟨zv, z1, z2, z3⟩ := run_zeroL hzl
    have hr := rep_rel (ρ := ρ) (z := z) (zc := zv.cells) (n := len) (N := len * zv.cells.size) (ground_list z2) (fun _ => z1) (by rw [← z1]; simp)
    have hall := writeC_oneC h2
    cases hS with
    | slice _ _ s _ _ c' o' hsp hn hc hxx hro hoo =>
      obtain ⟨w', k1, k2⟩ := writeC_rel (P := P) h2 hw (s := s) hsp hr (oneC_list hr hall)
      have ho' : o' = s.base + o0 := by
        rcases hoo with hoo | hoo
        · exact hoo
        · omega
      subst ho'
      have hloc : locOf s (⟨b0, o0, none⟩ : Addr) = s.base + o0 := rfl
      rw [hloc] at k1
      refine ⟨.tuple #[], w', ?_, hu, k2⟩
      obtain ⟨m, rfl⟩ : ∃ m, len = m + 1 := ⟨len - 1, by omega⟩
      simp only [Builtin.clear_, List.getElem?_toArray, List.getElem?_cons_zero, Sem.run_bind, run_und hd, Result.andThen_ok, z3, Builtin.zeroCells, k1, Sem.run_pure]
theorem op_builtin {P : Program} {o : Oper} {f : AFr} {st : ASt} {b : Builtin} {xs : List Operand} {ts : List TypeId} {r : AN} (h : o.op = .call { callee := .builtin b, args := xs.toArray, argTypes := ts.toArray }) (hr : aBuiltin P st b ts (xs.map f.ev) = .ok r) : OpR P o f st r := by
  have hev : ∀ ρ a, FrR ρ f a → VRL ρ (xs.map f.ev) (xs.map a.eval) := fun ρ a hf => hf.evs xs
  have hexec : ∀ a : Act, ∃ cs, execOp a.eval o = builtin b ts.toArray o.type cs (xs.map a.eval).toArray := fun a => builtin_exec (P := P) h a.eval
  generalize xs.map f.ev = vs at hr hev
  unfold aBuiltin at hr
  split at hr
  · -- append
    unfold aAppend at hr
    split at hr
    rotate_left
    · cases hr
    rename_i t t2 ts s x
    cases hrow : isRowA s x with
    | true =>
      rw [hrow] at hr
      simp only [cond_true] at hr
      obtain ⟨d, hd, hr1⟩ := bnd_ok hr
      clear hr
      obtain ⟨d2, hd2, hr2⟩ := bnd_ok hr1
      clear hr1
      split at hr2
      · rename_i elem
        obtain ⟨size, hs, hr3⟩ := bnd_ok hr2
        clear hr2
        obtain ⟨by_, hby, hr4⟩ := bnd_ok hr3
        clear hr3
        obtain ⟨z, hz, hr5⟩ := bnd_ok hr4
        clear hr4
        obtain ⟨nf, hn, hr6⟩ := bnd_ok hr5
        clear hr5
        split at hr6
        · rename_i base len cap
          obtain ⟨hc, hr7⟩ := cond_ok hr6
          clear hr6
          obtain ⟨c1, hr8⟩ := cond_ok hr7
          clear hr7
          simp only [Bool.and_eq_true] at hc
          have c1 := Nat.le_of_ble_eq_true c1
          have c2 := Nat.le_of_ble_eq_true hc.1
          have c3 := Nat.eq_of_beq_eq_true hc.2
          obtain ⟨n, ff, st1⟩ := nf
          simp only at c1 hr8
          have hst : ∃ v st', r = .val v st' := appQ_val hr8
          obtain ⟨v, st', rfl⟩ := hst
          have hlo : LoS st st' := (srcF_lo hn).trans (appQ_next hr8).2
          refine ⟨hlo, fun ρ w a hfa hw hfr => ?_⟩
          have hv := hev ρ a hfa
          obtain ⟨s', l1, e1, hS, hv⟩ := hv.uncons
          obtain ⟨x', l2, e2, hX, hv⟩ := hv.uncons
          have e3 := hv.nil_inv
          obtain ⟨cs, hex⟩ := hexec a
          subst e3 e2
          rw [e1] at hex
          obtain ⟨ρ', v', w', k1, k2, k3⟩ := appR_sound (P := P) (ty := o.type) (ts := ts) hd hd2 hs hby hz hn c1 c2 c3 hr8 hw hS hX hfr
          refine ⟨ρ', v', w', .inl ?_, k2, k3⟩
          rw [hex]
          simp only [builtin, Sem.run_bind]
          rw [k1]
          rfl
        · cases hr6
      · cases hr2
    | false =>
    rw [hrow] at hr
    simp only [cond_false] at hr
    simp only [aAppendC] at hr
    · obtain ⟨d, hd, hr1⟩ := bnd_ok hr
      clear hr
      obtain ⟨d2, hd2, hr2⟩ := bnd_ok hr1
      clear hr1
      split at hr2
      · rename_i elem base len cap
        obtain ⟨size, hs, hr3⟩ := bnd_ok hr2
        clear hr2
        obtain ⟨by_, hby, hr4⟩ := bnd_ok hr3
        clear hr3
        obtain ⟨z, hz, hr5⟩ := bnd_ok hr4
        clear hr4
        obtain ⟨nn, hn, hr6⟩ := bnd_ok hr5
        clear hr5
        obtain ⟨hc, hr7⟩ := cond_ok hr6
        clear hr6
        simp only [Bool.and_eq_true] at hc
        obtain ⟨⟨c1, c2⟩, c3⟩ := hc
        have c1 := Nat.le_of_ble_eq_true c1
        have c2 := Nat.le_of_ble_eq_true c2
        have c3 := Nat.eq_of_beq_eq_true c3
        obtain ⟨n, new⟩ := nn
        simp only at c1 hr7
        have hst : ∃ v st', r = .val v st' := by
          cases hb : Nat.ble (len + n) cap with
          | true =>
            rw [hb] at hr7
            simp only [cond_true] at hr7
            split at hr7
            · cases hr7; exact ⟨_, _, rfl⟩
            · obtain ⟨st1, _, e⟩ := bnd_ok hr7; cases e; exact ⟨_, _, rfl⟩
            · cases hr7
          | false =>
            rw [hb] at hr7
            simp only [cond_false] at hr7
            split at hr7
            · cases hr7; exact ⟨_, _, rfl⟩
            · obtain ⟨old, _, e⟩ := bnd_ok hr7
              split at e
              · cases e; exact ⟨_, _, rfl⟩
              · obtain ⟨_, e⟩ := cond_ok e; cases e; exact ⟨_, _, rfl⟩
              · cases e
            · cases hr7
        obtain ⟨v, st', rfl⟩ := hst
        refine ⟨?_, fun ρ w a hfa hw hfr => ?_⟩
        · cases hb : Nat.ble (len + n) cap with
          | true =>
            rw [hb] at hr7
            simp only [cond_true] at hr7
            split at hr7
            · cases hr7; exact LoS.refl _
            · obtain ⟨st1, e1, e⟩ := bnd_ok hr7; cases e; exact writeC_lo e1
            · cases hr7
          | false =>
            rw [hb] at hr7
            simp only [cond_false] at hr7
            split at hr7
            · cases hr7; exact LoS.new _ _
            · obtain ⟨old, _, e⟩ := bnd_ok hr7
              split at e
              · cases e; exact LoS.new _ _
              · obtain ⟨_, e⟩ := cond_ok e; cases e; exact (LoS.set _ _ _ (.inl rfl)).trans (LoS.new _ _)
              · cases e
            · cases hr7
        · have hv := hev ρ a hfa
          obtain ⟨s', l1, e1, hS, hv⟩ := hv.uncons
          obtain ⟨x', l2, e2, hX, hv⟩ := hv.uncons
          have e3 := hv.nil_inv
          obtain ⟨cs, hex⟩ := hexec a
          subst e3 e2
          rw [e1] at hex
          obtain ⟨ρ', v', w', k1, k2, k3⟩ := app_sound (P := P) (ty := o.type) (ts := ts) hd hd2 hs hby hz hn c1 c2 c3 hr7 hw hS hX hfr
          refine ⟨ρ', v', w', .inl ?_, k2, k3⟩
          rw [hex]
          simp only [builtin, Sem.run_bind]
          rw [k1]
          rfl
      · cases hr2
  · -- len
    rename_i t ts x
    obtain ⟨v, h1, h2⟩ := bnd_ok hr
    cases h2
    refine OpR.quiet fun ρ w a hfa hw => ?_
    obtain ⟨x', l1, e1, hX, hv⟩ := (hev ρ a hfa).uncons
    have e3 := hv.nil_inv
    obtain ⟨cs, hex⟩ := hexec a
    subst e3
    rw [e1] at hex
    obtain ⟨k1, k2⟩ := len_rel (P := P) (ts := ts) (ty := o.type) h1 hX hw
    refine ⟨v, ?_, k2⟩
    rw [hex]
    simp only [builtin, Sem.run_bind]
    rw [k1]
    rfl
  · -- cap
    rename_i t ts x
    obtain ⟨d, hd, h2⟩ := bnd_ok hr
    split at h2
    · obtain ⟨v, h1, h3⟩ := bnd_ok h2
      cases h3
      refine OpR.quiet fun ρ w a hfa hw => ?_
      obtain ⟨x', l1, e1, hX, hv⟩ := (hev ρ a hfa).uncons
      have e3 := hv.nil_inv
      obtain ⟨cs, hex⟩ := hexec a
      subst e3
      rw [e1] at hex
      obtain ⟨k1, k2⟩ := cap_rel (P := P) (ts := ts) (ty := o.type) h1 hd hX hw
      refine ⟨v, ?_, k2⟩
      rw [hex]
      simp only [builtin, Sem.run_bind]
      rw [k1]
      rfl
    · cases h2
  · -- min of two
    rename_i ts k a0 k' b0
    obtain ⟨hk, h2⟩ := cond_ok hr
    cases h2
    have := sameF_eq hk
    subst this
    refine ⟨LoS.refl st, fun ρ w a hfa hw _ => ?_⟩
    obtain ⟨x', l1, e1, hx, hl1⟩ := (hev ρ a hfa).uncons
    obtain ⟨y', l2, e2, hy, hl2⟩ := hl1.uncons
    have e3 := hl2.nil_inv
    obtain ⟨cs, hex⟩ := hexec a
    rw [e1, e2, e3] at hex
    obtain ⟨a', rfl, a1, a2⟩ := float_inv hx
    obtain ⟨b', rfl, b1, b2⟩ := float_inv hy
    obtain ⟨r, w', q1, q2, q3⟩ := mm_run (P := P) ρ a1 a2 b1 b2 false w
    simp only [cond_true, cond_false] at q1
    refine ⟨ρ, .float k r, w', .inl ?_, q3, ?_⟩
    · rw [hex]
      simp only [builtin, Sem.run_bind, Builtin.min_, Builtin.max_, List.foldlM_cons, List.foldlM_nil, q1, Result.andThen_ok, Sem.run_pure]
    · rcases q2 with rfl | rfl
      · exact Mv.refl hw _
      · exact Mv.drew hw _
  · -- max of two
    rename_i ts k a0 k' b0
    obtain ⟨hk, h2⟩ := cond_ok hr
    cases h2
    have := sameF_eq hk
    subst this
    refine ⟨LoS.refl st, fun ρ w a hfa hw _ => ?_⟩
    obtain ⟨x', l1, e1, hx, hl1⟩ := (hev ρ a hfa).uncons
    obtain ⟨y', l2, e2, hy, hl2⟩ := hl1.uncons
    have e3 := hl2.nil_inv
    obtain ⟨cs, hex⟩ := hexec a
    rw [e1, e2, e3] at hex
    obtain ⟨a', rfl, a1, a2⟩ := float_inv hx
    obtain ⟨b', rfl, b1, b2⟩ := float_inv hy
    obtain ⟨r, w', q1, q2, q3⟩ := mm_run (P := P) ρ a1 a2 b1 b2 true w
    simp only [cond_true, cond_false] at q1
    refine ⟨ρ, .float k r, w', .inl ?_, q3, ?_⟩
    · rw [hex]
      simp only [builtin, Sem.run_bind, Builtin.min_, Builtin.max_, List.foldlM_cons, List.foldlM_nil, q1, Result.andThen_ok, Sem.run_pure]
    · rcases q2 with rfl | rfl
      · exact Mv.refl hw _
      · exact Mv.drew hw _
  · -- min
    rename_i ts x rest _
    obtain ⟨hg, h2⟩ := cond_ok hr
    split at h2
    · rename_i v hv
      obtain ⟨hg1, h3⟩ := cond_ok h2
      cases h3
      refine OpR.quiet fun ρ w a hfa hw => ?_
      have hall : (x :: rest).all (ground 1) = true := by simpa using hg
      have e1 := all_ground (hev ρ a hfa) hall
      obtain ⟨cs, hex⟩ := hexec a
      rw [e1] at hex
      refine ⟨v, ?_, refl1_VR hg1⟩
      rw [hex]
      simp only [builtin, Sem.run_bind, Builtin.min_, pureRun_ok hv, Result.andThen_ok, Sem.run_pure]
    · cases h2
  · -- max
    rename_i ts x rest _
    obtain ⟨hg, h2⟩ := cond_ok hr
    split at h2
    · rename_i v hv
      obtain ⟨hg1, h3⟩ := cond_ok h2
      cases h3
      refine OpR.quiet fun ρ w a hfa hw => ?_
      have hall : (x :: rest).all (ground 1) = true := by simpa using hg
      have e1 := all_ground (hev ρ a hfa) hall
      obtain ⟨cs, hex⟩ := hexec a
      rw [e1] at hex
      refine ⟨v, ?_, refl1_VR hg1⟩
      rw [hex]
      simp only [builtin, Sem.run_bind, Builtin.max_, pureRun_ok hv, Result.andThen_ok, Sem.run_pure]
    · cases h2
  · -- copy
    rename_i t ts base len c b2 n2 c2
    have hst : ∃ v st', r = .val v st' := by
      unfold aCopy at hr
      obtain ⟨d, hd, h⟩ := bnd_ok hr
      split at h
      · obtain ⟨size, hs, h⟩ := bnd_ok h
        cases hz : Nat.beq (minN len n2) 0 with
        | true => rw [hz] at h; cases h; exact ⟨_, _, rfl⟩
        | false =>
          rw [hz] at h
          simp only [cond_false] at h
          split at h
          · obtain ⟨l, h1, h⟩ := bnd_ok h
            obtain ⟨st1, h2, h⟩ := bnd_ok h
            cases h; exact ⟨_, _, rfl⟩
          · cases h
      · cases h
    obtain ⟨v, st', rfl⟩ := hst
    refine ⟨?_, fun ρ w a hfa hw hfr => ?_⟩
    · have h := hr
      unfold aCopy at h
      obtain ⟨d, hd, h⟩ := bnd_ok h
      split at h
      · obtain ⟨size, hs, h⟩ := bnd_ok h
        cases hz : Nat.beq (minN len n2) 0 with
        | true => rw [hz] at h; cases h; exact LoS.refl _
        | false =>
          rw [hz] at h
          simp only [cond_false] at h
          split at h
          · obtain ⟨l, h1, h⟩ := bnd_ok h
            obtain ⟨st1, h2, h⟩ := bnd_ok h
            cases h; exact writeC_lo h2
          · cases h
      · cases h
    · have hv := hev ρ a hfa
      obtain ⟨s', l1, e1, hS, hv⟩ := hv.uncons
      obtain ⟨x', l2, e2, hX, hv⟩ := hv.uncons
      have e3 := hv.nil_inv
      obtain ⟨cs, hex⟩ := hexec a
      subst e3 e2
      rw [e1] at hex
      obtain ⟨v', w', k1, k2, k3⟩ := copy_sound (P := P) (ty := o.type) (ts := ts) hr hw hS hX
      refine ⟨ρ, v', w', .inl ?_, k2, k3⟩
      rw [hex]
      simp only [builtin, Sem.run_bind]
      rw [k1]
      rfl
  · -- clear
    rename_i t ts base len c
    have hst : ∃ v st', r = .val v st' := by
      unfold aClear at hr
      obtain ⟨d, hd, h⟩ := bnd_ok hr
      split at h
      · cases hz : Nat.beq len 0 with
        | true => rw [hz] at h; cases h; exact ⟨_, _, rfl⟩
        | false =>
          rw [hz] at h
          simp only [cond_false] at h
          split at h
          · obtain ⟨l, h1, h⟩ := bnd_ok h
            obtain ⟨st1, h2, h⟩ := bnd_ok h
            cases h; exact ⟨_, _, rfl⟩
          · cases h
      · cases h
    obtain ⟨v, st', rfl⟩ := hst
    refine ⟨?_, fun ρ w a hfa hw hfr => ?_⟩
    · have h := hr
      unfold aClear at h
      obtain ⟨d, hd, h⟩ := bnd_ok h
      split at h
      · cases hz : Nat.beq len 0 with
        | true => rw [hz] at h; cases h; exact LoS.refl _
        | false =>
          rw [hz] at h
          simp only [cond_false] at h
          split at h
          · obtain ⟨l, h1, h⟩ := bnd_ok h
            obtain ⟨st1, h2, h⟩ := bnd_ok h
            cases h; exact writeC_lo h2
          · cases h
      · cases h
    · have hv := hev ρ a hfa
      obtain ⟨s', l1, e1, hS, hv⟩ := hv.uncons
      have e3 := hv.nil_inv
      obtain ⟨cs, hex⟩ := hexec a
      subst e3
      rw [e1] at hex
      obtain ⟨v', w', k1, k2, k3⟩ := clear_sound (P := P) (ty := o.type) (ts := ts) hr hw hS
      refine ⟨ρ, v', w', .inl ?_, k2, k3⟩
      rw [hex]
      simp only [builtin, Sem.run_bind]
      rw [k1]
      rfl
  · cases hr
theorem find_trunc {fn : Func} (h : fn.name = "math.archTrunc") : Extern.find fn = some (Extern.MathFloor.toIntegral "math.archTrunc" .zero) := by
  have h1 : Extern.allGenericRows.lookup "math.archTrunc" = none := by kernel_rfl
  have h2 : Extern.allTypedRows.lookup "math.archTrunc" = none := by kernel_rfl
  have h3 : Extern.allRows.lookup "math.archTrunc" = some (Extern.MathFloor.toIntegral "math.archTrunc" .zero) := by kernel_rfl
  unfold Extern.find
  simp only [h, h1, h2, h3, Option.map_none]
  rfl
theorem nan_quiet {s : Bool} {t x : Nat} (h : FloatKind.f64.decode x = .nan s t) : nanB .f64 (FloatKind.f64.encode (.nan s (FloatKind.f64.format.quiet t))) = true := by
  have e1 : FloatKind.f64.encode (.nan s (FloatKind.f64.format.quiet t)) = Ieee.double.word s (Ieee.double.infRung + Ieee.double.quiet t % Ieee.double.binade) := rfl
  have s1 : Ieee.double.signWeight = 9223372036854775808 := by decide
  have s2 : Ieee.double.infRung = 9218868437227405312 := by decide
  have s3 : Ieee.double.binade = 4503599627370496 := by decide
  have hq : 0 < Ieee.double.quiet t % Ieee.double.binade := by
    have h51 : (Ieee.double.quiet t % Ieee.double.binade).testBit 51 = true := by
      have : Ieee.double.binade = 2 ^ 52 := by decide
      rw [this, Nat.testBit_mod_two_pow]
      have : Ieee.double.quiet t = t ||| 2 ^ 51 := rfl
      rw [this, Nat.testBit_or]
      have h51 : Nat.testBit (2 ^ 51) 51 = true := by decide
      rw [h51, Bool.or_true]
      rfl
    rcases Nat.eq_zero_or_pos (Ieee.double.quiet t % Ieee.double.binade) with h | h
    · rw [h] at h51; simp at h51
    · exact h
  have hl : Ieee.double.quiet t % Ieee.double.binade < 4503599627370496 := by rw [← s3]; exact Nat.mod_lt _ (by decide)
  rw [e1]
  generalize Ieee.double.quiet t % Ieee.double.binade = q at hq hl
  refine nan_of_read (k := .f64) (s := Ieee.double.word s (Ieee.double.infRung + q) / Ieee.double.signWeight % 2 == 1) (p := Ieee.double.word s (Ieee.double.infRung + q) % Ieee.double.signWeight - Ieee.double.infRung) ?_
  have hw : Ieee.double.word s (Ieee.double.infRung + q) % Ieee.double.signWeight = Ieee.double.infRung + q := by
    unfold Ieee.Format.word
    rw [s1, s2]
    cases s <;> simp <;> omega
  show Ieee.double.read _ = _
  unfold Ieee.Format.read
  rw [hw, s1, s2, s3]
  simp only
  rw [if_neg (by omega), if_neg (by omega), if_neg (by omega)]
theorem trunc_eq (x : Nat) : Extern.MathFloor.toIntegral "math.archTrunc" .zero #[.float .f64 x] = (match FloatKind.f64.decode x with
    | .nan s t => if FloatKind.f64.format.quiet t = t then pure (.float .f64 x) else do
      let kept ← choose (.extern "math.Floor,Ceil,Trunc,RoundToEven.signallingNaN kept" 2)
      pure (.float .f64 (if kept == 1 then x else FloatKind.f64.encode (.nan s (FloatKind.f64.format.quiet t))))
    | d => pure (.float .f64 (FloatKind.f64.encode (d.integral .zero))) : Sem Value) := rfl
/-- a number without what stands behind its point -/
theorem trunc_run {P : Program} {f : FuncId} {fn : Func} (hfn : P.funcs[f]? = some fn) (hb : fn.body = none) (ht : isTrunc fn = true) (ρ : Rho) (x x' : Nat) (h1 : nanB .f64 x' = nanB .f64 x) (h2 : nanB .f64 x = false → x' = x) (w : World) :
    ∃ v w', (callFunc f #[.float .f64 x']).run P w = .ok (.value v) w' ∧ (w' = w ∨ w' = w.drew) ∧ VR ρ (.float .f64 (truncR x)) v := by
  unfold isTrunc at ht
  simp only [Bool.and_eq_true, beq_iff_eq, Option.isNone_iff_eq_none] at ht
  have hg : (fn.name == "runtime.NumGoroutine") = false := by rw [ht.1]; decide
  have hrun : ∀ v w', (Extern.MathFloor.toIntegral "math.archTrunc" .zero #[.float .f64 x']).run P w = .ok v w' → (callFunc f #[.float .f64 x']).run P w = .ok (.value v) w' := by
    intro v w' e
    simp only [callFunc, Sem.run_bind, run_program, Result.andThen_ok, hfn, hg, Bool.false_eq_true, if_false, hb, Option.isNone_none, if_true, run_mark, ht.2, find_trunc ht.1, e, Sem.run_pure]
  have hdec : (∃ s t, FloatKind.f64.decode x' = .nan s t) ∨ nanB .f64 x' = false := by
    cases hn : nanB .f64 x' with
    | false => exact .inr rfl
    | true => exact .inl (nan_read hn)
  rcases hdec with ⟨s, t, hd⟩ | hn
  · have hn : nanB .f64 x' = true := nan_of_read (k := .f64) hd
    have hR : truncR x = qnan .f64 := by unfold truncR; rw [← h1, hn]; rfl
    rw [hR]
    by_cases hq : FloatKind.f64.format.quiet t = t
    · exact ⟨.float .f64 x', w, hrun _ _ (by rw [trunc_eq, hd]; simp only [hq, if_true, Sem.run_pure]), .inl rfl, .nan _ _ _ (qnan_nan _) hn⟩
    · refine ⟨_, w.drew, hrun _ _ (by rw [trunc_eq, hd]; simp only [hq, if_false, Sem.run_bind, run_choose_drew, Question.forced, Result.andThen_ok, Sem.run_pure]; rfl), .inr rfl, .nan _ _ _ (qnan_nan _) ?_⟩
      split
      · exact hn
      · exact nan_quiet hd
  · have hxx := h2 (by rw [← h1]; exact hn)
    subst hxx
    have hnn : ∀ s t, FloatKind.f64.decode x' ≠ .nan s t := fun s t e => by
      have := nan_of_read (k := .f64) e
      rw [hn] at this; cases this
    have hR : truncR x' = FloatKind.f64.encode ((FloatKind.f64.decode x').integral .zero) := by unfold truncR; rw [hn]; rfl
    rw [hR]
    refine ⟨_, w, hrun _ _ ?_, .inl rfl, .float _ _⟩
    cases hd : FloatKind.f64.decode x' with
    | nan s t => exact absurd hd (hnn s t)
    | infinity s => rw [trunc_eq, hd]; rfl
    | number s m i => rw [trunc_eq, hd]; rfl
/-- what is called -/
theorem aCall_run {P : Program} {f : FuncId} {args : List Value} {st : ASt} {r : AN} (h : aCall P f args st = .ok r) :
    (r = .enter f args ∧ ∀ (args' : Array Value) (w : World), (callFunc f args').run P w = .ok (.enter f args') w) ∨
    (∃ v, r = .val v st ∧ ((refl1 v = true ∧ args.all (ground 1) = true ∧ ∀ w, (callFunc f args.toArray).run P w = .ok (.value v) w) ∨
      (∃ x fn, args = [.float .f64 x] ∧ v = .float .f64 (truncR x) ∧ P.funcs[f]? = some fn ∧ fn.body = none ∧ isTrunc fn = true))) := by
  unfold aCall at h
  split at h
  · rename_i fn hfn
    have hfn' : P.funcs[f]? = some fn := by simpa using hfn
    split at h
    · rename_i body hb
      have hc : (fn.name == "runtime.NumGoroutine") = false ∧ r = .enter f args := by
        cases hc : fn.name == "runtime.NumGoroutine" with
        | true => rw [hc] at h; cases h
        | false => rw [hc] at h; cases h; exact ⟨rfl, rfl⟩
      refine .inl ⟨hc.2, fun args' w => ?_⟩
      simp only [callFunc, Sem.run_bind, run_program, Result.andThen_ok, hfn', hc.1, Bool.false_eq_true, if_false, hb, Option.isNone_some, Sem.run_pure]
    · rename_i hb
      cases ht : isTrunc fn with
      | true =>
        rw [ht] at h
        simp only [cond_true] at h
        split at h
        · rename_i x
          cases h
          exact .inr ⟨_, rfl, .inr ⟨x, fn, rfl, rfl, hfn', hb, ht⟩⟩
        · cases h
      | false =>
        rw [ht] at h
        simp only [cond_false] at h
        obtain ⟨h1, h2⟩ := cond_ok h
        split at h2
        · rename_i v hv
          obtain ⟨h3, h4⟩ := cond_ok h2
          cases h4
          exact .inr ⟨v, rfl, .inl ⟨h3, h1, fun w => pureRun_ok hv w⟩⟩
        · cases h2
  · cases h
theorem op_callValue {P : Program} {o : Oper} {f : AFr} {st : ASt} {g : Operand} {xs : List Operand} {ts : Array TypeId} {fn : Fn} {a0 b0 : Array Value} {r : AN} (h : o.op = .call { callee := .value g, args := xs.toArray, argTypes := ts }) (hg : f.ev g = .func fn a0 b0)
    (hr : aInvoke P fn (a0.toList ++ xs.map f.ev) b0.toList st = .ok r) : OpR P o f st r := by
  unfold aInvoke at hr
  split at hr
  · rename_i fid
    have common : ∀ (ρ : Rho) (w : World) (a : Act), FrR ρ f a → ∃ args' : List Value, execOp a.eval o = callFunc fid args'.toArray ∧ VRL ρ (a0.toList ++ xs.map f.ev ++ b0.toList) args' := by
      intro ρ w a hf
      have hG := hf.ev g
      rw [hg] at hG
      generalize hA : a.eval g = A at hG
      cases hG with
      | func _ _ a1 _ b1 ha hb h1 h2 =>
        refine ⟨a1.toList ++ xs.map a.eval ++ b1.toList, ?_, ((VRL.of_arrays ha h1).append (hf.evs xs)).append (VRL.of_arrays hb h2)⟩
        simp only [execOp, h, resolve, hA, Deferred.ofValue]
        rw [LawfulMonad.pure_bind]
        simp only [invoke]
        congr 1
        apply Array.toList_inj.1
        simp
    rcases aCall_run hr with ⟨rfl, h1⟩ | ⟨v, rfl, ⟨h1, h2, h3⟩ | ⟨x, fn, hx, rfl, hfn, hb, ht⟩⟩
    · intro ρ w a hf hw
      obtain ⟨args', e1, e2⟩ := common ρ w a hf
      exact ⟨args'.toArray, by rw [e1]; exact h1 _ w, by simpa using e2⟩
    · refine OpR.quiet fun ρ w a hf hw => ?_
      obtain ⟨args', e1, e2⟩ := common ρ w a hf
      have := all_ground e2 h2
      subst this
      exact ⟨v, by rw [e1]; exact h3 w, refl1_VR h1⟩
    · refine ⟨LoS.refl st, fun ρ w a hf hw _ => ?_⟩
      obtain ⟨args', e1, e2⟩ := common ρ w a hf
      rw [hx] at e2
      obtain ⟨y, l, rfl, hy, hl⟩ := e2.uncons
      have := hl.nil_inv
      subst this
      obtain ⟨x', rfl, y1, y2⟩ := float_inv hy
      obtain ⟨v', w', q1, q2, q3⟩ := trunc_run hfn hb ht ρ x x' y1 y2 w
      refine ⟨ρ, v', w', .inl (by rw [e1]; exact q1), q3, ?_⟩
      rcases q2 with rfl | rfl
      · exact Mv.refl hw _
      · exact Mv.drew hw _
  · cases hr
theorem op_defer {P : Program} {o : Oper} {f : AFr} {st : ASt} {g : Operand} {xs : List Operand} {ts : Array TypeId} {fn : Fn} {a0 b0 : Array Value} (h : o.op = .defer { callee := .value g, args := xs.toArray, argTypes := ts }) (hg : f.ev g = .func fn a0 b0) :
    OpR P o f st (.defer ⟨fn, b0.toList, a0.toList ++ xs.map f.ev⟩) := by
  intro ρ w a hf hw
  have hG := hf.ev g
  rw [hg] at hG
  generalize hA : a.eval g = A at hG
  cases hG with
  | func _ _ a1 _ b1 ha hb h1 h2 =>
    refine ⟨{ target := .fn fn b1, args := a1 ++ (xs.map a.eval).toArray }, ?_, b1, _, rfl, VRL.of_arrays hb h2, ?_⟩
    · simp only [execOp, h, resolve, hA, Deferred.ofValue]
      rw [LawfulMonad.pure_bind]
      simp
    · simpa using (VRL.of_arrays ha h1).append (hf.evs xs)
theorem op_panic {P : Program} {o : Oper} {f : AFr} {st : ASt} {x : Operand} {t : TypeId} {v : Value} (h : o.op = .panic x) (hx : f.ev x = .iface t v) : OpR P o f st (.panic (.iface t v)) := by
  intro ρ w a hf hw
  have hX := hf.ev x
  rw [hx] at hX
  generalize hA : a.eval x = A at hX
  cases hX with
  | iface _ _ v' hv => exact ⟨.iface t v', by simp [execOp, h, hA, Instr.panic], .iface _ _ _ hv⟩
end Go.Proofs.YtpbnlbbieaokoaaGreatDoor.Ev
