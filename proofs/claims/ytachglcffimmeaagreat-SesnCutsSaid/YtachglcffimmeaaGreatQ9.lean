/-
  What the evaluator says of functions holds of every run; the answer of a closed call.
-/
import Derived.Test.YtachglcffimmeaaGreatQ8
set_option linter.unusedVariables false
set_option linter.unusedSimpArgs false
namespace Go.Proofs.YtachglcffimmeaaGreat.Ev
open Go
theorem args0_get : ∀ (l : List Value) (i : Nat) (t : Tr Value) (k : Nat), (args0 l i t).get k = if i ≤ k ∧ k < i + l.length then l[k - i]? else t.get k := by
 intro l
 induction l with
 | nil => intro i t k; rw [if_neg (by simp)]; rfl
 | cons v l ih =>
  intro i t k
  simp only [args0, ih, set_get]
  by_cases hk : k = i
  ·subst hk
   rw [if_neg (by omega), upd_same, if_pos (by simp)]
   simp
  ·rw [upd_ne _ _ hk]
   by_cases h2 : i + 1 ≤ k ∧ k < i + 1 + l.length
   ·rw [if_pos h2, if_pos (by simp; omega), show k - i = (k - (i + 1)) + 1 by omega]
    simp
   ·rw [if_neg h2, if_neg (by simp; omega)]
theorem maxN_eq (a b : Nat) : maxN a b = max a b := by
 unfold maxN
 rcases Bool.eq_false_or_eq_true (Nat.ble a b) with h | h
 ·rw [h]; have := ble_le h; simp only [cond_true]; omega
 ·rw [h]
  have : ¬ a ≤ b := fun h2 => by rw [Nat.ble_eq_true_of_le h2] at h; cases h
  simp only [cond_false]; omega
theorem enter_rel {ρ : Rho} {args : List Value} {args' : Array Value} (n : Nat) (h : VRL ρ args args'.toList) : FrR ρ ⟨maxN args.length n, args0 args 0 .leaf, []⟩ { tmps := args' ++ Array.replicate (n - args'.size) undef, defers := [] } := by
 have hl : args.length = args'.size := by have := h.1; simpa using this
 refine ⟨by rw [maxN_eq]; simp; omega, fun t v e => ?_, trivial⟩
 simp only [args0_get, Nat.sub_zero, Nat.zero_add] at e
 split at e
 ·rename_i ht
  obtain ⟨y, hy, hv⟩ := h.get e
  refine ⟨y, ?_, hv⟩
  simp only
  rw [Array.getElem?_append_left (by omega)]
  simpa using hy
 ·cases e
def resS (tmps : Array Value) : ResultVar → Sem Value
 | .tmp t => pure (tmps.getD t undef)
 | .cell a t => (asAddr (tmps.getD a undef)).bind fun x => loadVar t x
theorem results_eq (fn : Func) (tmps : Array Value) : results fn tmps = ((fn.results.mapM (resS tmps)).bind fun vs => pure (if h : vs.size = 1 then vs[0] else .tuple vs)) := by
 unfold results
 have : (fun (x : ResultVar) => (match x with
   | .tmp t => pure (tmps.getD t undef)
   | .cell a t => do loadVar t (← asAddr (tmps.getD a undef)) : Sem Value)) = resS tmps := by
  funext x
  cases x <;> rfl
 rw [← this]
 rfl
theorem resL_run {P : Program} {ρ : Rho} {f : AFr} {st : ASt} {tmps : Array Value} {w : World} (hf : FrR ρ ⟨f.n, f.tmps, []⟩ ⟨tmps, []⟩) (hw : WR ρ st.h.get w) : ∀ {l : List ResultVar} {vs : List Value}, resL P st f l = .ok vs →
  ∃ vs', (l.mapM (resS tmps)).run P w = .ok vs' w ∧ VRL ρ vs vs' := by
 intro l
 have hev : ∀ t, VR ρ (f.tmp t) (tmps.getD t undef) := fun t => hf.ev (.tmp t)
 induction l with
 | nil => intro vs h; cases h; exact ⟨[], rfl, VRL.nil ρ⟩
 | cons x l ih =>
  intro vs h
  cases x with
  | tmp t =>
   simp only [resL] at h
   obtain ⟨r, h1, h2⟩ := bk_ h
   cases h2
   obtain ⟨vs', e1, e2⟩ := ih h1
   refine ⟨tmps.getD t undef :: vs', ?_, VRL.cons (hev t) e2⟩
   have e0 : (resS tmps (.tmp t)).run P w = .ok (tmps.getD t undef) w := rfl
   simp only [List.mapM_cons, Sem.run_bind, Sem.run_pure, Result.andThen_ok, e0, e1]
  | cell x t =>
   simp only [resL] at h
   split at h
   ·rename_i a0 hx
    obtain ⟨n, h1, h2⟩ := bk_ h
    obtain ⟨cs, h3, h4⟩ := bk_ h2
    obtain ⟨v, h5, h6⟩ := bk_ h4
    obtain ⟨r, h7, h8⟩ := bk_ h6
    cases h8
    obtain ⟨vs', e1, e2⟩ := ih h7
    have hX := hev x
    rw [hx] at hX
    obtain ⟨s, g2, g3⟩ := hX.ptr_loc
    obtain ⟨l', r1, r2, r3⟩ := readC_rel h3 hw g2
    have main : ∃ y, (loadVar t ⟨s.blk, locOf s a0, none⟩).run P w = .ok y w ∧ VR ρ v y := by
     rcases shutL_run h5 with ⟨k8, rfl⟩ | ⟨k8, rfl⟩
     ·refine ⟨.agg l'.toArray, ?_, VR.agg' r1⟩
      have := run_loadCells_list (P := P) (w := w) ⟨s.blk, locOf s a0, none⟩ l' r3
      rw [r2] at this
      simp [loadVar, run_aggL k8, run_sizeL h1, this]
     ·obtain ⟨y, m, rfl, hy, hm⟩ := r1.uncons
      refine ⟨y, ?_, hy⟩
      have := r3 0 y (by simp)
      simp only [add_at, Nat.add_zero] at this
      simp [loadVar, run_aggL k8, this]
    obtain ⟨y, m1, m2⟩ := main
    refine ⟨y :: vs', ?_, VRL.cons m2 e2⟩
    have e0 : (resS tmps (.cell x t)).run P w = .ok y w := by
     show ((asAddr (tmps.getD x undef)).bind fun z => loadVar t z).run P w = _
     rw [g3]
     exact m1
    simp only [List.mapM_cons, Sem.run_bind, Sem.run_pure, Result.andThen_ok, e0, e1]
   ·cases h
theorem resOf_run {P : Program} {ρ : Rho} {fn : Func} {f : AFr} {st : ASt} {tmps : Array Value} {w : World} {v : Value} (hf : FrR ρ ⟨f.n, f.tmps, []⟩ ⟨tmps, []⟩) (hw : WR ρ st.h.get w) (h : resOf P fn st f = .ok v) :
  ∃ v', (results fn tmps).run P w = .ok v' w ∧ VR ρ v v' := by
 unfold resOf at h
 obtain ⟨vs, h1, h2⟩ := bk_ h
 obtain ⟨vs', e1, e2⟩ := resL_run hf hw h1
 have hrun : (results fn tmps).run P w = .ok (if h : vs'.toArray.size = 1 then vs'.toArray[0] else .tuple vs'.toArray) w := by
  rw [results_eq, Array.mapM_eq_mapM_toList]
  show (((List.toArray <$> fn.results.toList.mapM (resS tmps)) >>= fun vs => pure (if h : vs.size = 1 then vs[0] else .tuple vs) : Sem Value)).run P w = _
  simp only [Sem.run_bind, Sem.run_map, e1, Result.andThen_ok, Sem.run_pure]
 split at h2
 ·cases h2
  obtain ⟨y, m, rfl, hy, hm⟩ := e2.uncons
  have := hm.nil_inv
  subst this
  exact ⟨y, by rw [hrun]; rfl, hy⟩
 ·rename_i hne
  cases h2
  refine ⟨.tuple vs'.toArray, ?_, VR.tuple' e2⟩
  rw [hrun, dif_neg]
  intro h1
  have hl : vs.length = 1 := by rw [e2.1]; simpa using h1
  match vs, hl with
  | [x], _ => exact hne x rfl
def ModeR (ρ : Rho) : Option Value → FrameMode → Prop
 | none, u => u = .returning
 | some v, u => ∃ v', u = .panicking [{ v := v', recovered := false }] ∧ VR ρ v v'
theorem ModeR.mono {ρ ρ' : Rho} (hs : Sub ρ ρ') {p : Option Value} {u : FrameMode} (h : ModeR ρ p u) : ModeR ρ' p u := by
 cases p with
 | none => exact h
 | some v => obtain ⟨v', h1, h2⟩ := h; exact ⟨v', h1, h2.mono hs⟩
theorem ModeR.settle {ρ : Rho} {p : Option Value} {u : FrameMode} (h : ModeR ρ p u) : ModeR ρ p (settle u) ∧ u ≠ .run := by
 cases p with
 | none => cases h; exact ⟨rfl, by simp⟩
 | some v => obtain ⟨v', rfl, h2⟩ := h; exact ⟨⟨v', rfl, h2⟩, by simp⟩
def SelfD (P : Program) (selfD : FuncId → List Value → Option Value → ASt → Rs (Option Value × ASt)) : Prop := ∀ g args p st p' st', Wf st → selfD g args p st = .ok (p', st') → LoS st st' ∧ ∀ ρ w (args' : Array Value) u, VRL ρ args args'.toList → WR ρ st.h.get w → Fresh ρ st.next st'.next → ModeR ρ p u →
 CallsD P g args' u w fun e u' w' => ∃ ρ', (∃ v, e = .returned v) ∧ ModeR ρ' p' (settle u') ∧ Mv ρ ρ' st.h.get st'.h.get st.next st'.next w w'
theorem leave_sound {P : Program} {selfD : FuncId → List Value → Option Value → ASt → Rs (Option Value × ASt)} (hsd : SelfD P selfD) {fn : Func} {f : AFr} : ∀ (ds : List ADef) (p : Option Value) (st : ASt) (r : AE) (st' : ASt), Wf st → leave P selfD fn f ds p st = .ok (r, st') →
  LoS st st' ∧ ∀ (R : Ending → World → Prop) ρ w (tmps : Array Value) ds' u, DefsR ρ ds ds' → FrR ρ ⟨f.n, f.tmps, []⟩ ⟨tmps, []⟩ → WR ρ st.h.get w → Fresh ρ st.next st'.next → ModeR ρ p u →
   (∀ ρ' e w', EndR ρ' r e → Mv ρ ρ' st.h.get st'.h.get st.next st'.next w w' → R e w') → Leaves P fn tmps R ds' u w := by
 intro ds
 induction ds with
 | nil =>
  intro p st r st' hwf h
  cases p with
  | none =>
   simp only [leave] at h
   obtain ⟨v, h1, h2⟩ := bk_ h
   cases h2
   refine ⟨LoS.refl _, fun R ρ w tmps ds' u hd hf hw _ hm hR => ?_⟩
   cases ds' with
   | cons => exact hd.elim
   | nil =>
    cases hm
    obtain ⟨v', k1, k2⟩ := resOf_run hf hw h1
    exact ⟨v', k1, hR ρ _ w ⟨v', rfl, k2⟩ (Mv.refl hw _)⟩
  | some v =>
   simp only [leave] at h
   cases h
   refine ⟨LoS.refl _, fun R ρ w tmps ds' u hd hf hw _ hm hR => ?_⟩
   cases ds' with
   | cons => exact hd.elim
   | nil =>
    obtain ⟨v', rfl, k2⟩ := hm
    exact hR ρ _ w ⟨v', rfl, k2⟩ (Mv.refl hw _)
 | cons d ds ih =>
  intro p st r st' hwf h
  simp only [leave] at h
  split at h
  ·rename_i g args hi
   split at h
   ·rename_i p1 st1 hg
    obtain ⟨h1, h2⟩ := hsd g args p st p1 st1 hwf hg
    obtain ⟨h3, h4⟩ := ih p1 st1 r st' (h1.wf hwf) h
    refine ⟨h1.trans h3, fun R ρ w tmps ds' u hd hf hw hfr hm hR => ?_⟩
    cases ds' with
    | nil => exact hd.elim
    | cons d' ds' =>
     obtain ⟨⟨cap', args', rfl, hcap, hargs⟩, hd2⟩ := hd
     unfold aInvoke at hi
     split at hi
     ·rename_i fid hfn
      rcases aCall_run hi with ⟨e, hcall⟩ | ⟨v, e, _⟩
      ·cases e
       refine ⟨hm.settle.2, d.fn, cap', g, args' ++ cap', rfl, ?_, ?_⟩
       ·simp only [hfn, invoke]
        exact hcall _ w
       ·refine (h2 ρ w (args' ++ cap') u (by simpa using hargs.append hcap) hw (hfr.left h3.1) hm).mono fun e u' w' he => ?_
        obtain ⟨ρ', ⟨v, rfl⟩, hm', hmv⟩ := he
        exact h4 R ρ' w' tmps ds' _ (hd2.mono hmv.ext) (hf.mono hmv.ext) hmv.wr (hmv.fresh hfr) hm' fun ρ2 e2 w2 he2 hm2 => hR ρ2 e2 w2 he2 (hmv.trans hm2)
      ·cases e
     ·cases hi
   ·cases h
  ·cases h
theorem fr_bare {ρ : Rho} {f : AFr} {a : Act} (h : FrR ρ f a) : FrR ρ ⟨f.n, f.tmps, []⟩ ⟨a.tmps, []⟩ := ⟨h.size, h.tmp, trivial⟩
theorem defs_nil {ρ : Rho} {ds : List Deferred} (h : DefsR ρ [] ds) : ds = [] := by
 cases ds with
 | nil => rfl
 | cons => exact h.elim
theorem finD_ok {P : Program} {fn : Func} {p p' : Option Value} {r : Rs (AX × AFr × ASt)} {st' : ASt} (h : finD P fn p r = .ok (p', st')) : ∃ x f v, r = .ok (x, f, st') ∧ (x = .normal ∨ x = .ret) ∧ f.defers = [] ∧ p' = p ∧ resOf P fn st' f = .ok v := by
 unfold finD at h
 split at h
 ·rename_i f st1
  split at h
  ·rename_i hd
   obtain ⟨v, h1, h2⟩ := bk_ h
   cases h2
   exact ⟨_, f, v, rfl, .inl rfl, hd, rfl, h1⟩
  ·cases h
 ·rename_i f st1
  split at h
  ·rename_i hd
   obtain ⟨v, h1, h2⟩ := bk_ h
   cases h2
   exact ⟨_, f, v, rfl, .inr rfl, hd, rfl, h1⟩
  ·cases h
 ·cases h
 ·cases h
theorem finD_post {P : Program} {fn : Func} {ρ : Rho} {x : AX} {e : Exit} {f : AFr} {a : Act} {st' : ASt} {w : World} {v : Value} {R : Ending → World → Prop} (hx : x = .normal ∨ x = .ret) (hxe : XR ρ x e) (hf : FrR ρ f a) (hd : f.defers = []) (hw : WR ρ st'.h.get w) (hr : resOf P fn st' f = .ok v)
  (hR : ∀ v', R (.returned v') w) : bodyPost P fn R e a w := by
 obtain ⟨v', k1, k2⟩ := resOf_run (fr_bare hf) hw hr
 have hdn : a.defers = [] := by have := hf.defs; rw [hd] at this; exact defs_nil this
 rcases hx with rfl | rfl <;> cases hxe <;> exact ⟨hdn, v', k1, hR v'⟩
theorem evOp_ends {P : Program} {self : Self} {f f' : AFr} {st st' : ASt} {o : Oper} {x : AX} (h : evOp P self f st o = .ok (x, f', st')) : x ≠ .ret := by
 unfold evOp at h
 split at h
 ·cases h; simp
 ·split at h
  ·cases h; simp
  ·cases h; simp
  ·cases h
 ·cases h; simp
 ·cases h; simp
 ·cases h
theorem evOps_ends {P : Program} {self : Self} {all : List Oper} : ∀ (l : List Oper) {f f' : AFr} {st st' : ASt} {x : AX}, evOps P self all l f st = .ok (x, f', st') → x ≠ .ret := by
 intro l
 induction l with
 | nil => intro f f' st st' x h; cases h; simp
 | cons o l ih =>
  intro f f' st st' x h
  simp only [evOps] at h
  split at h
  ·split at h
   ·exact ih h
   ·exact evOp_ends h
  ·exact ih h
  ·cases h
theorem evD_sound {P : Program} {self : Self} (hs : SelfS P self) (hm : P.follows .mixedOrders = true) (fuel : Nat) : SelfD P (evD P self fuel) := by
 intro g args p st p' st' hwf h
 unfold evD at h
 split at h
 ·rename_i fn hfn
  have hfn' : P.funcs[g]? = some fn := by simpa using hfn
  split at h
  ·rename_i body hb
   have plain : finD P fn p (evCode P self fuel body ⟨maxN args.length fn.ntmps, args0 args 0 .leaf, []⟩ st) = .ok (p', st') → LoS st st' ∧ ∀ ρ w (args' : Array Value) u, VRL ρ args args'.toList → WR ρ st.h.get w → Fresh ρ st.next st'.next → ModeR ρ p u →
     CallsD P g args' u w fun e u' w' => ∃ ρ', (∃ v, e = .returned v) ∧ ModeR ρ' p' (settle u') ∧ Mv ρ ρ' st.h.get st'.h.get st.next st'.next w w' := by
    intro h
    obtain ⟨x, f, v, h1, h2, h3, h4, h5⟩ := finD_ok h
    subst h4
    obtain ⟨k1, k2⟩ := evCode_sound hs hm fuel body _ st x f st' hwf h1
    refine ⟨k1, fun ρ w args' u hv hw hfr hmo => ?_⟩
    refine CallsD.mono (callsD_of_wp (R := fun e w' => ∃ ρ', (∃ v, e = .returned v) ∧ Sub ρ ρ' ∧ Mv ρ ρ' st.h.get st'.h.get st.next st'.next w w') hfn' hb ?_) ?_
    ·refine k2 _ ρ w _ (enter_rel fn.ntmps hv) hw hfr fun ρ' e' a' w' hxr hf' hmv => ?_
     exact finD_post h2 hxr hf' h3 hmv.wr h5 fun v' => ⟨ρ', ⟨v', rfl⟩, hmv.ext, hmv⟩
    ·rintro e u' w' ⟨rfl, ρ', h6, h7, h8⟩
     exact ⟨ρ', h6, (hmo.mono h7).settle.1, h8⟩
   split at h
   ·rename_i id ops c2
    split at h
    ·rename_i o l hops
     cases hrec : isRecover o with
     | false => rw [hrec] at h; exact plain h
     | true =>
      rw [hrec] at h
      simp only [cond_true] at h
      obtain ⟨x, f, v, h1, h2, h3, h4, h5⟩ := finD_ok h
      subst h4
      have hopsA : ops = (o :: l).toArray := by rw [← hops]
      subst hopsA
      obtain ⟨hgd, hrun⟩ : o.guard = none ∧ ∀ (ρv : Operand → Value) (w : World), (execOp ρv o).run P w = .ok .recover w := by
       unfold isRecover at hrec
       split at hrec
       ·rename_i hop hgd
        refine ⟨hgd, fun ρv w => ?_⟩
        simp only [execOp, hop, resolve]
        rw [LawfulMonad.pure_bind]
        simp [invoke, builtin]
       ·cases hrec
      split at h1
      ·rename_i f1 st1 he
       obtain ⟨k1, k2⟩ := evOps_sound hs (o :: l) l _ st _ f1 st1 hwf he
       obtain ⟨k3, k4⟩ := evCode_sound hs hm fuel c2 f1 st1 x f st' (k1.wf hwf) h1
       refine ⟨k1.trans k3, fun ρ w args' u hv hw hfr hmo => ?_⟩
       obtain ⟨rv, u', hrv, hu', h0⟩ : ∃ rv u', VR ρ (recoverOf p) rv ∧ settle u' = .returning ∧ ((∃ older, u = .panicking ({ v := rv, recovered := false } :: older) ∧ u' = .panicking ({ v := rv, recovered := true } :: older)) ∨ (u = .returning ∧ u' = .returning ∧ rv = .nilIface)) := by
        cases p with
        | none => cases hmo; exact ⟨.nilIface, .returning, .nilIface, rfl, .inr ⟨rfl, rfl, rfl⟩⟩
        | some pv => obtain ⟨v', rfl, hv'⟩ := hmo; exact ⟨v', .panicking [{ v := v', recovered := true }], hv', rfl, .inl ⟨[], rfl, rfl⟩⟩
       refine CallsD.mono (callsD_recover (R := fun e w' => ∃ ρ', (∃ v, e = .returned v) ∧ Mv ρ ρ' st.h.get st'.h.get st.next st'.next w w') (u' := u') (v := rv) hfn' hb hgd (fun ρv => hrun ρv w) h0 ?_) ?_
       ·refine k2 _ ρ w _ ((enter_rel fn.ntmps hv).put hrv) hw (hfr.left k3.1) fun ρ1 e1 a1 w1 hx1 hf1 hm1 => ?_
        cases hx1
        show Code.wp P c2 _ a1 w1
        refine k4 _ ρ1 w1 a1 hf1 hm1.wr (hm1.fresh hfr) fun ρ2 e2 a2 w2 hx2 hf2 hm2 => ?_
        exact finD_post h2 hx2 hf2 h3 hm2.wr h5 fun v' => ⟨ρ2, ⟨v', rfl⟩, hm1.trans hm2⟩
       ·rintro e u'' w' ⟨rfl, ρ', h6, h8⟩
        exact ⟨ρ', h6, hu', h8⟩
      ·rename_i hne
       exfalso
       have : x ≠ .normal := fun e => by subst e; exact hne f st' h1
       rcases h2 with rfl | rfl
       ·exact this rfl
       ·exact evOps_ends l h1 rfl
    ·cases h
   ·exact plain h
  ·cases h
 ·cases h
theorem evFun1_sound {P : Program} (hm : P.follows .mixedOrders = true) (fuel : Nat) {self : Self} (ih : SelfS P self) : SelfS P (evFun1 P fuel self) := by
  intro g args st r st' hwf h
  simp only [evFun1] at h
  split at h
  ·rename_i fn hfn
   have hfn' : P.funcs[g]? = some fn := by simpa using hfn
   split at h
   ·rename_i body hb
    have ret : ∀ (x : AX) (f : AFr) (st1 : ASt), (x = .normal ∨ x = .ret) → evCode P self fuel body ⟨maxN args.length fn.ntmps, args0 args 0 .leaf, []⟩ st = .ok (x, f, st1) →
      (match f.defers with
       | [] => (resOf P fn st1 f).bnd fun v => .ok (.returned v, st1)
       | ds => leave P (evD P self fuel) fn f ds none st1 : Rs (AE × ASt)) = .ok (r, st') →
      LoS st st' ∧ ∀ ρ w (args' : Array Value), VRL ρ args args'.toList → WR ρ st.h.get w → Fresh ρ st.next st'.next → Calls P g args' w fun e w' => ∃ ρ', EndR ρ' r e ∧ Mv ρ ρ' st.h.get st'.h.get st.next st'.next w w' := by
     intro x f st1 hx he h
     obtain ⟨k1, k2⟩ := evCode_sound ih hm fuel body _ st x f st1 hwf he
     split at h
     ·rename_i hd
      obtain ⟨v, h1, h2⟩ := bk_ h
      cases h2
      refine ⟨k1, fun ρ w args' hv hw hfr => calls_of_wp hfn' hb (k2 _ ρ w _ (enter_rel fn.ntmps hv) hw hfr fun ρ' e' a' w' hxr hf' hmv => ?_)⟩
      obtain ⟨v', m1, m2⟩ := resOf_run (fr_bare hf') hmv.wr h1
      have hdn : a'.defers = [] := by have := hf'.defs; rw [hd] at this; exact defs_nil this
      rcases hx with rfl | rfl <;> cases hxr <;> exact ⟨hdn, v', m1, ρ', ⟨v', rfl, m2⟩, hmv⟩
     ·obtain ⟨k3, k4⟩ := leave_sound (evD_sound ih hm fuel) _ none st1 r st' (k1.wf hwf) h
      refine ⟨k1.trans k3, fun ρ w args' hv hw hfr => calls_of_wp_defers hfn' hb (k2 _ ρ w _ (enter_rel fn.ntmps hv) hw (hfr.left k3.1) fun ρ' e' a' w' hxr hf' hmv => ?_)⟩
      have hl := k4 (fun e w' => ∃ ρ', EndR ρ' r e ∧ Mv ρ ρ' st.h.get st'.h.get st.next st'.next w w') ρ' w' a'.tmps a'.defers .returning hf'.defs (fr_bare hf') hmv.wr (hmv.fresh hfr) rfl fun ρ2 e2 w2 he2 hm2 => ⟨ρ2, he2, hmv.trans hm2⟩
      rcases hx with rfl | rfl <;> cases hxr <;> exact hl
    split at h
    ·rename_i f st1 he; exact ret _ f st1 (.inl rfl) he h
    ·rename_i f st1 he; exact ret _ f st1 (.inr rfl) he h
    ·rename_i v f st1 he
     obtain ⟨k1, k2⟩ := evCode_sound ih hm fuel body _ st _ f st1 hwf he
     split at h
     ·rename_i hd
      cases h
      refine ⟨k1, fun ρ w args' hv hw hfr => calls_of_wp hfn' hb (k2 _ ρ w _ (enter_rel fn.ntmps hv) hw hfr fun ρ' e' a' w' hxr hf' hmv => ?_)⟩
      have hdn : a'.defers = [] := by have := hf'.defs; rw [hd] at this; exact defs_nil this
      obtain ⟨v', rfl, hv'⟩ := hxr
      exact ⟨hdn, ρ', ⟨v', rfl, hv'⟩, hmv⟩
     ·obtain ⟨k3, k4⟩ := leave_sound (evD_sound ih hm fuel) _ (some v) st1 r st' (k1.wf hwf) h
      refine ⟨k1.trans k3, fun ρ w args' hv hw hfr => calls_of_wp_defers hfn' hb (k2 _ ρ w _ (enter_rel fn.ntmps hv) hw (hfr.left k3.1) fun ρ' e' a' w' hxr hf' hmv => ?_)⟩
      obtain ⟨v', rfl, hv'⟩ := hxr
      exact k4 (fun e w' => ∃ ρ', EndR ρ' r e ∧ Mv ρ ρ' st.h.get st'.h.get st.next st'.next w w') ρ' w' a'.tmps a'.defers _ hf'.defs (fr_bare hf') hmv.wr (hmv.fresh hfr) ⟨v', rfl, hv'⟩ fun ρ2 e2 w2 he2 hm2 => ⟨ρ2, he2, hmv.trans hm2⟩
    ·cases h
    ·cases h
   ·cases h
  ·cases h
theorem evFun_sound {P : Program} (hm : P.follows .mixedOrders = true) (fuel : Nat) : ∀ n, SelfS P (evFun P fuel n) := by
 intro n
 induction n with
 | zero => intro g args st r st' _ h; cases h
 | succ n ih => exact evFun1_sound hm fuel ih
def ToldS (P : Program) (C : Told) : Prop := ∀ g c, C g = some c → ∀ args st r st', Wf st → c.run args st = .ok (r, st') → LoS st st' ∧ ∀ ρ w (args' : Array Value), VRL ρ args args'.toList → WR ρ st.h.get w → Fresh ρ st.next st'.next → Calls P g args' w fun e w' => ∃ ρ', EndR ρ' r e ∧ Mv ρ ρ' st.h.get st'.h.get st.next st'.next w w'
theorem evFunC_sound {P : Program} (hm : P.follows .mixedOrders = true) {C : Told} (hC : ToldS P C) (fuel : Nat) : ∀ n, SelfS P (evFunC P C fuel n) := by
 intro n
 induction n with
 | zero => intro g args st r st' _ h; cases h
 | succ n ih =>
  intro g args st r st' hwf h
  simp only [evFunC] at h
  split at h
  ·rename_i c hc
   exact hC g c hc args st r st' hwf h
  ·exact evFun1_sound hm fuel ih g args st r st' hwf h
theorem closed_true {P : Program} {g : FuncId} (hm : P.follows .mixedOrders = true) (h : isTrue P g = true) (w : World) : Calls P g #[] w fun e w' => e = .returned (.bool true) ∧ RowKit.Below w.heap.size w w' := by
 unfold isTrue at h
 split at h
 ·rename_i st' he
  have hwf : Wf st0 := fun x o e => by cases e
  obtain ⟨_, h2⟩ := evFun_sound hm 100000 100 g [] st0 _ st' hwf he
  have hw : WR (fun _ => none) st0.h.get w := by
   refine ⟨?_, ?_, ?_, ?_⟩
   ·intro a s e; cases e
   ·intro a o e; cases e
   ·intro a b oa ob sa sb e; cases e
   ·intro b hb; obtain ⟨a, s, e, _⟩ := hb; cases e
  refine (h2 (fun _ => none) w #[] (VRL.nil _) hw (fun _ _ _ => rfl)).mono fun e w' he => ?_
  obtain ⟨ρ', ⟨v', rfl, hv⟩, hmv⟩ := he
  cases hv
  exact ⟨rfl, hmv.os, hmv.tape, hmv.output, hmv.size, fun k hk => hmv.frm k hk fun ⟨a, o, s, e1, _⟩ => by cases e1⟩
 ·cases h
def br (b : Bool) (K1 K2 : Prop) : Prop := match b with
 | true => K1
 | false => K2
theorem br_of {b : Bool} {K1 K2 : Prop} (h1 : b = true → K1) (h2 : b = false → K2) : br b K1 K2 := by cases b; exact h2 rfl; exact h1 rfl
theorem br_elim {b : Bool} {K1 K2 : Prop} (h : br b K1 K2) : (b = true ∧ K1) ∨ (b = false ∧ K2) := by cases b; exact .inr ⟨rfl, h⟩; exact .inl ⟨rfl, h⟩
def need (b : Bool) (K : Prop) : Prop := match b with
 | true => K
 | false => False
theorem nd_ {b : Bool} {K : Prop} (h : b = true) (k : K) : need b K := by subst h; exact k
theorem ne_ {b : Bool} {K : Prop} (h : need b K) : b = true ∧ K := by cases b; exact h.elim; exact ⟨rfl, h⟩
def rsK {α : Type} (x : Rs α) (K : α → Prop) : Prop := match x with
 | .ok a => K a
 | .er _ _ => False
theorem rK_ {α : Type} {x : Rs α} {K : α → Prop} (h : rsK x K) : ∃ a, x = .ok a ∧ K a := by cases x with | ok a => exact ⟨a, rfl, h⟩ | er => exact h.elim
def optK {α : Type} (x : Option α) (K : α → Prop) : Prop := match x with
 | some a => K a
 | none => False
theorem optK_elim {α : Type} {x : Option α} {K : α → Prop} (h : optK x K) : ∃ a, x = some a ∧ K a := by cases x with | some a => exact ⟨a, rfl, h⟩ | none => exact h.elim
def idxK (n : Int) (K : Nat → Prop) : Prop := need (decide (0 ≤ n)) (K n.toNat)
theorem idxK_elim {n : Int} {K : Nat → Prop} (h : idxK n K) : ∃ i, n = .ofNat i ∧ K i := by
 obtain ⟨h1, h2⟩ := ne_ h
 exact ⟨n.toNat, (Int.toNat_of_nonneg (of_decide_eq_true h1)).symm, h2⟩
def selN : Nat → Nat → Nat → (Nat → Prop) → Prop
 | 0, _, _, _ => False
 | r + 1, j, i, K => br (Nat.beq i j) (K j) (selN r (j + 1) i K)
theorem selN_elim {i : Nat} {K : Nat → Prop} : ∀ {r j : Nat}, selN r j i K → i < j + r ∧ K i
 | 0, _, h => h.elim
 | r + 1, j, h => by
  rcases br_elim h with ⟨h1, h2⟩ | ⟨_, h2⟩
  ·have := Nat.eq_of_beq_eq_true h1
   subst this; exact ⟨by omega, h2⟩
  ·obtain ⟨a, b⟩ := selN_elim h2
   exact ⟨by omega, b⟩
def fewN (n i : Nat) (K : Nat → Prop) : Prop := cond (Nat.ble n 16) (selN n 0 i K) (need (Nat.blt i n) (K i))
theorem fewN_elim {n i : Nat} {K : Nat → Prop} (h : fewN n i K) : Nat.blt i n = true ∧ K i := by
 unfold fewN at h
 cases hb : Nat.ble n 16 with
 | true =>
  rw [hb] at h
  obtain ⟨a, b⟩ := selN_elim h
  exact ⟨by simpa using a, b⟩
 | false =>
  rw [hb] at h
  exact ne_ h
def forceV (v : Value) (C : Value → Prop) : Prop := match v with
 | .int k n => C (.int k n)
 | .bool b => C (.bool b)
 | .float k b => C (.float k b)
 | .pointer (some ⟨a, o, none⟩) => C (.pointer (some ⟨a, o, none⟩))
 | .pointer (some ⟨a, o, some i⟩) => C (.pointer (some ⟨a, o, some i⟩))
 | .slice (some ⟨a, o, none⟩) n c => C (.slice (some ⟨a, o, none⟩) n c)
 | .slice (some ⟨a, o, some i⟩) n c => C (.slice (some ⟨a, o, some i⟩) n c)
 | v => C v
theorem forceV_ok {v : Value} {C : Value → Prop} (h : forceV v C) : C v := by
 unfold forceV at h
 split at h <;> exact h
def forceL : List Value → (List Value → Prop) → Prop
 | [], C => C []
 | v :: l, C => forceV v fun v => forceL l fun l => C (v :: l)
theorem forceL_ok : ∀ {l : List Value} {C : List Value → Prop}, forceL l C → C l := by
 intro l
 induction l with
 | nil => intro C h; exact h
 | cons v l ih => intro C h; exact ih (forceV_ok h)
def forceA (v : Value) (C : Value → Prop) : Prop := match v with
 | .agg vs => forceL vs.toList fun l => C (.agg ⟨l⟩)
 | v => forceV v C
theorem forceA_ok {v : Value} {C : Value → Prop} (h : forceA v C) : C v := by
 unfold forceA at h
 split at h
 ·exact forceL_ok h
 ·exact forceV_ok h
def forceAL : List Value → (List Value → Prop) → Prop
 | [], C => C []
 | v :: l, C => forceA v fun v => forceAL l fun l => C (v :: l)
theorem forceAL_ok : ∀ {l : List Value} {C : List Value → Prop}, forceAL l C → C l := by
 intro l
 induction l with
 | nil => intro C h; exact h
 | cons v l ih => intro C h; exact ih (forceA_ok h)
def forceT (v : Value) (C : Value → Prop) : Prop := match v with
 | .tuple vs => forceAL vs.toList fun l => C (.tuple ⟨l⟩)
 | v => forceA v C
theorem forceT_ok {v : Value} {C : Value → Prop} (h : forceT v C) : C v := by
 unfold forceT at h
 split at h
 ·exact forceAL_ok h
 ·exact forceA_ok h
def cmpF (op : BinOp) (k : FloatKind) (a b : Nat) : Option Bool := match op with
 | .eql => some (k.format.order a b == some .eq)
 | .neq => some (k.format.order a b != some .eq)
 | .lss => some (k.format.order a b == some .lt)
 | .leq => some (k.format.order a b == some .lt || k.format.order a b == some .eq)
 | .gtr => some (k.format.order a b == some .gt)
 | .geq => some (k.format.order a b == some .gt || k.format.order a b == some .eq)
 | _ => none
def arithOp (op : BinOp) : Bool := match op with
 | .add | .sub | .mul | .quo => true
 | _ => false
def ariR (k : FloatKind) (op : BinOp) (a b : Nat) : Nat := match op with
 | .add => (k.format.add a b).getD (qnan k)
 | .sub => (k.format.sub a b).getD (qnan k)
 | .mul => (k.format.mul a b).getD (qnan k)
 | .quo => (k.format.div a b).getD (qnan k)
 | _ => 0
def negR (a : Nat) : Nat := cond (nanB .f64 a) (qnan .f64) (Op.negFloat .f64 a)
def fltN (op : BinOp) (k : FloatKind) (a b : Nat) (K : Value → Prop) : Prop :=
 match cmpF op k a b with
 | some q => K (.bool q)
 | none => cond (arithOp op) (K (.float k (ariR k op a b))) False
def divN (op : BinOp) (k : IntKind) (a b : Int) : Option Value := match op with
 | .quo => some (.int k (k.wrap (a.tdiv b)))
 | .rem => some (.int k (a.tmod b))
 | _ => none
def shN (op : BinOp) (k : IntKind) (a b : Int) : Option Value := match op with
 | .shl => some (.int k (k.wrap (a * 2 ^ (min b.toNat k.bits))))
 | .shr => some (.int k (a.fdiv (2 ^ (min b.toNat k.bits))))
 | _ => none
def floatsK : List Value → Prop → Prop
 | [], K => K
 | .float k b :: l, K => need (!nanB k b) (floatsK l K)
 | v :: l, K => need (ground 1 v) (floatsK l K)
def boundN (x : Option Value) (dflt most : Nat) (K : Nat → Prop) : Prop := match x with
 | none => K dflt
 | some (.int _ n) => idxK n fun i => need (Nat.ble i most) (K i)
 | _ => False
def boundN2 (x : Option Value) (len cap : Nat) (K : Nat → Prop) : Prop := match x with
 | none => K len
 | some (.int _ n) => idxK n fun i => need (Nat.ble i len) (K i)
 | _ => False
def toTsN (g : Value → ASt → (Td → ASt → Prop) → Prop) : List Value → ASt → (List Td → ASt → Prop) → Prop
 | [], st, K => K [] st
 | v :: l, st, K => g v st fun t st1 => toTsN g l st1 fun ts st2 => K (t :: ts) st2
def toTN : Nat → Value → ASt → (Td → ASt → Prop) → Prop
 | 0, _, _, _ => False
 | f + 1, v, st, K => match v with
  | .slice none 0 0 => K (.fr 0 0 1 noT) st
  | .slice (some ⟨b, 0, some i0⟩) n c => match st.h.get b with
   | some (.row _ es lo m g) => need (Nat.ble lo i0 && Nat.ble (i0 + n) m) (rsK (froze st b) fun st' => K (.fr es n c fun i => g (i0 + i)) st')
   | _ => False
  | .slice (some ⟨b, o, none⟩) n _ => match cellsO (st.h.get b) with
   | some (cs, es) => cond ((Nat.blt 0 es || Nat.beq n 0) && Nat.ble (o + n * es) cs.length) (optK (takeL (n * es) (dropL o cs)) fun l => toTsN (toTN f) l st fun ts st1 => rsK (froze st1 b) fun st' => K (.fr es n 0 (selT es n ts)) st') False
   | none => False
  | v => cond (scalT v) (K (.sc v) st) False
def writeRN (st : ASt) (a : Addr) (ts : List Td) (K : ASt → Prop) : Prop := match st.h.get a.block with
 | some (.row .mine es lo n elem) => match a.spot with
  | some i => cond (Nat.ble (a.off + ts.length) es) (need (Nat.blt i n) (K (st.set a.block (some (.row .mine es lo n (putT i a.off ts elem)))))) False
  | none => False
 | _ => False
def writeN (st : ASt) (a : Addr) (vs : List Value) (K : ASt → Prop) : Prop := cond (isRow (st.h.get a.block)) (toTsN (toTN 4) vs st fun ts st1 => writeRN st1 a ts K) (rsK (st.writeC a vs) K)
def srcN (P : Program) (st : ASt) (d2 : TypeDesc) (elem : TypeId) (size : Nat) (x : Value) (K : Nat → (Nat → Nat → Td) → ASt → Prop) : Prop := match x with
 | .int _ n => match d2 with
  | .int _ => idxK n fun n => need (Nat.ble n 1000000) (rsK (zeroL P elem) fun z => cond (z.all zOk) (K n (fun _ j => nthT (z.map zT) j) st) False)
  | _ => False
 | .slice (some ⟨b0, 0, some i0⟩) n _ => match d2, st.h.get b0 with
  | .slice _, some (.row _ es lo m g) => cond (Nat.beq es size) (need (Nat.ble lo i0 && Nat.ble (i0 + n) m) (K n (fun j => g (i0 + j)) st)) False
  | _, _ => False
 | .string s => match d2 with
  | .string => cond (Nat.beq size 1) (K s.size (fun i _ => .sc (.int .u8 (Int.ofNat (strB s i)))) st) False
  | _ => False
 | x => rsK (newsL P st d2 elem size x) fun r => match r with
  | (n, l) => toTsN (toTN 4) l st fun ts st1 => K n (selT size n ts) st1
def appRN (st : ASt) (size : Nat) (s : Value) (n : Nat) (f : Nat → Nat → Td) (K : AN → Prop) : Prop := match s with
 | .slice (some ⟨b0, 0, some i0⟩) len c => match st.h.get b0 with
  | some (.row .mine es lo m g) => cond (Nat.beq es size) (need (Nat.ble lo i0 && Nat.ble (i0 + len) m) (K (.val (.slice (some ⟨st.next, 0, some 0⟩) (len + n) c)
    ((st.set b0 none).new (.row .mine size 0 (len + n) fun j k => mrgT (Nat.blt j len) (g (i0 + j) k) (f (j - len) k)))))) False
  | _ => False
 | s => rsK (aAppendR st size s n f) K
def appQN (st : ASt) (size : Nat) (s : Value) (n : Nat) (f : Nat → Nat → Td) (K : AN → Prop) : Prop := match s with
 | .slice (some ⟨b0, o, none⟩) len c => match st.h.get b0 with
  | some (.cells cs ex es) => cond (Nat.blt 0 len) (cond (turnOk o size len c es ex cs) (appRN (turnC st b0 o size len cs) size (.slice (some ⟨st.next, 0, some 0⟩) len c) n f K) False)
   (rsK (aAppendR st size (.slice (some ⟨b0, o, none⟩) len c) n f) K)
  | _ => rsK (aAppendR st size (.slice (some ⟨b0, o, none⟩) len c) n f) K
 | s => appRN st size s n f K
def appN (P : Program) (st : ASt) (ts : List TypeId) (args : List Value) (K : AN → Prop) : Prop := match ts, args with
 | t :: t2 :: ts', [s, x] => cond (isRowA s x)
  (rsK (undL P t) fun d => rsK (undL P t2) fun d2 => match d with
   | .slice elem => rsK (sizeL P elem) fun size => rsK (bytesL P elem) fun by_ => rsK (zeroL P elem) fun z => srcN P st d2 elem size x fun n f st1 => match s with
    | .slice _ len _ => cond (Nat.ble by_ 1000000 && Nat.beq z.length size) (need (Nat.ble (len + n) 1000000) (appQN st1 size s n f K)) False
    | _ => False
   | _ => False)
  (rsK (aAppendC P st (t :: t2 :: ts') [s, x]) K)
 | _, _ => False
def extN (P : Program) (f : FuncId) (args : List Value) (st : ASt) (K : AN → Prop) : Prop := match P.funcs.toList[f]? with
 | some fn => match fn.body with
  | some _ => rsK (aCall P f args st) K
  | none => cond (isTrunc fn) (match args with
    | [.float .f64 x] => K (.val (.float .f64 (truncR x)) st)
    | _ => False)
   (floatsK args (match pureRun P (callFunc f args.toArray) with | .ok (.value v) => cond (refl1 v) (K (.val v st)) False | _ => False))
 | none => False
def seeK : List Td → ASt → (List Value → ASt → Prop) → Prop
 | [], st, K => K [] st
 | t :: l, st, K => match t with
  | .sc x => forceV x fun x => seeK l st fun vs st' => K (x :: vs) st'
  | .fr es n c e => seeK l (st.new (.row .still es 0 n e)) fun vs st' => K (.slice (some ⟨st.next, 0, some 0⟩) n c :: vs) st'
def readN (st : ASt) (a : Addr) (n : Nat) (K : List Value → ASt → Prop) : Prop := match st.h.get a.block with
 | some (.row _ es lo m elem) => match a.spot with
  | some i => cond (Nat.beq a.off 0 && Nat.blt es n) (need (Nat.ble lo i && Nat.ble (i + n / es) m && Nat.beq (n / es * es) n) (seeK (rowsT es elem i (n / es)) st K))
   (cond (Nat.ble (a.off + n) es) (need (Nat.ble lo i && Nat.blt i m) (seeK (cellsT (elem i) a.off n) st K)) False)
  | none => False
 | _ => rsK (st.read a n) fun r => K r.1 r.2
def intIn (kd : IntKind) (x : Option Int) : Bool := match x with
 | some n => decide (kd.min ≤ n ∧ n ≤ kd.max)
 | none => false
def findN (P : Program) (kt : TypeId) (k : Value) : List MapEntry → Nat → (Option (Nat × MapEntry) → Prop) → Prop
 | [], _, K => K none
 | e :: es, i, K => rsK (keyEq P kt k e.key) fun b => br b (K (some (i, e))) (findN P kt k es (i + 1) K)
theorem findN_ok {P : Program} {kt : TypeId} {k : Value} {K : Option (Nat × MapEntry) → Prop} : ∀ {es : List MapEntry} {i : Nat}, findN P kt k es i K → ∃ r, findL P kt k es i = .ok r ∧ K r
 | [], i, h => ⟨none, rfl, h⟩
 | e :: es, i, h => by
  obtain ⟨b, hb, h⟩ := rK_ h
  rcases br_elim h with ⟨h1, h2⟩ | ⟨h1, h2⟩
  ·subst h1
   exact ⟨_, by simp only [findL, hb, Rs.bnd, cond_true], h2⟩
  ·subst h1
   obtain ⟨r, hr, h3⟩ := findN_ok h2
   exact ⟨r, by simp only [findL, hb, Rs.bnd, cond_false, hr], h3⟩
def opN (P : Program) (f : AFr) (st : ASt) (o : Oper) (K : AN → Prop) : Prop := match o.op with
 | .pick c a b => match f.ev c with
  | .bool b' => br b' (K (.val (f.ev a) st)) (K (.val (f.ev b) st))
  | _ => False
 | .binOp op t x y _ => match f.ev x, f.ev y with
  | .float k a, .float k' b => cond (sameF k k') (fltN op k a b fun v => K (.val v st)) False
  | .int k a, .int k' b => match divN op k a b with
   | some v => need (decide (k = k') && !(decide (b = 0))) (K (.val v st))
   | none => match shN op k a b with
    | some v => need (decide (0 ≤ b)) (K (.val v st))
    | none => rsK (aOp P f st o) K
  | _, _ => rsK (aOp P f st o) K
 | .unOp op _ x => match f.ev x with
  | .float .f64 a => match op with
   | .neg => K (.val (.float .f64 (negR a)) st)
   | _ => False
  | _ => rsK (aOp P f st o) K
 | .convert s d x => match f.ev x with
  | .float k b => (match P.underlying s, P.underlying d with
   | some _, some (.int kd) => need (!nanB k b) (need (intIn kd ((k.decode b).toInt .zero)) (K (.val (.int kd (((k.decode b).toInt .zero).getD 0)) st)))
   | _, _ => False)
  | .slice (some ⟨b0, 0, some i0⟩) n c => rsK (undL P s) fun ds => rsK (undL P d) fun dd => match ds, dd with
   | .slice e, .string => rsK (undL P e) fun u => match u, st.h.get b0 with
    | .int .u8, some (.row _ es lo m g) => cond (Nat.beq es 1) (need (Nat.ble lo i0 && Nat.ble (i0 + n) m) (need (allB n fun j => g (i0 + j)) (K (.val (.string (strOf n fun j => g (i0 + j))) st)))) False
    | _, _ => False
   | _, _ => False
  | _ => rsK (aOp P f st o) K
 | .store t a x => match f.ev a with
  | .pointer (some a) => rsK (sizeL P t) fun n => cond (Nat.beq (cellsL (f.ev x)).length n) (writeN st a (cellsL (f.ev x)) fun st' => K (.val undef st')) False
  | _ => False
 | .indexAddr t x i => match f.ev i with
  | .int _ n => idxK n fun i => rsK (undL P t) fun d => match d, f.ev x with
   | .slice e, .slice (some ⟨b0, o0, none⟩) n _ => rsK (sizeL P e) fun s => fewN n i fun i => K (.val (.pointer (some ((⟨b0, o0, none⟩ : Addr).add (i * s)))) st)
   | .slice e, .slice (some ⟨b0, 0, some i0⟩) n _ => rsK (sizeL P e) fun s => match st.h.get b0 with
    | some (.row _ es _ _ _) => cond (Nat.beq es s) (need (Nat.blt i n) (K (.val (.pointer (some ⟨b0, 0, some (i0 + i)⟩)) st))) False
    | _ => False
   | .array n e, .pointer (some ⟨b0, o0, none⟩) => rsK (sizeL P e) fun s => need (Nat.blt i n) (K (.val (.pointer (some ((⟨b0, o0, none⟩ : Addr).add (i * s)))) st))
   | .array n e, .pointer (some ⟨b0, o0, some i0⟩) => rsK (sizeL P e) fun s => need (Nat.blt i n) (K (.val (.pointer (some ⟨b0, o0 + i * s, some i0⟩)) st))
   | _, _ => False
  | _ => False
 | .makeSlice t l c => cond (rowMk c) (match f.ev l, f.ev c with
  | .int _ x, .int _ y => idxK x fun l' => idxK y fun c' => rsK (undL P t) fun d => match d with
   | .slice e => rsK (zeroL P e) fun z => rsK (sizeL P e) fun n => rsK (bytesL P e) fun b => cond (Nat.ble b 1000000 && Nat.beq z.length n && z.all zOk) (need (Nat.beq l' c' && Nat.ble c' 1000000) (K (.val (.slice (some ⟨st.next, 0, some 0⟩) l' 0) (st.new (.row .mine n 0 l' fun _ j => nthT (z.map zT) j))))) False
   | _ => False
  | _, _ => False) (rsK (aOp P f st o) K)
 | .load t a => match f.ev a with
  | .pointer (some a) => rsK (sizeL P t) fun n => readN st a n fun l st' => rsK (shutL P t l) fun v => K (.val v st')
  | _ => False
 | .slice t x lo hi mx => match mx, f.ev x with
  | none, .slice (some ⟨b0, 0, some i0⟩) len cap => rsK (undL P t) fun d => match d with
   | .slice e => boundN2 (hi.map f.ev) len cap fun h => boundN (lo.map f.ev) 0 h fun l => rsK (sizeL P e) fun s => match st.h.get b0 with
    | some (.row _ es _ _ _) => cond (Nat.beq es s) (K (.val (.slice (some ⟨b0, 0, some (i0 + l)⟩) (h - l) (cond (Nat.beq len 0) cap 0)) st)) False
    | _ => False
   | _ => False
  | _, _ => rsK (aOp P f st o) K
 | .lookup t x i ok => rsK (undL P t) fun d => match d with
  | .map kt et => match omapOf st (f.ev x) with
   | some (kk, vk, es) => rsK (lookO P kt et kk vk es (f.ev i) ok) fun v => K (.val v st)
   | none => rsK (undL P kt) fun _ => rsK (mapEs st (f.ev x)) fun es => rsK (keyOk P kt es.isEmpty (f.ev i)) fun _ => findN P kt (f.ev i) es 0 fun r => rsK (zeroV P et) fun z => K (.val (cond ok (.tuple #[foundV r z, .bool r.isSome]) (foundV r z)) st)
  | _ => False
 | .call c => match c.callee with
  | .value g => match f.ev g with
   | .func (.func fid) a b => extN P fid ((a.toList ++ c.args.toList.map f.ev) ++ b.toList) st K
   | _ => False
  | .builtin .append => appN P st c.argTypes.toList (c.args.toList.map f.ev) K
  | _ => rsK (aOp P f st o) K
 | _ => rsK (aOp P f st o) K
theorem boundN_ok {x : Option Value} {dflt most : Nat} {K : Nat → Prop} (h : boundN x dflt most K) : ∃ r, boundL x dflt most = .ok r ∧ K r := by
 unfold boundN at h
 split at h
 ·exact ⟨dflt, rfl, h⟩
 ·obtain ⟨i, rfl, h2⟩ := idxK_elim h
  obtain ⟨h3, h4⟩ := ne_ h2
  exact ⟨i, by simp only [boundL, h3, cond_true], h4⟩
 ·exact h.elim
theorem boundN2_ok {x : Option Value} {len cap : Nat} {K : Nat → Prop} (h : boundN2 x len cap K) : ∃ r, boundL x len len = .ok r ∧ K r := by
 unfold boundN2 at h
 split at h
 ·exact ⟨len, rfl, h⟩
 ·obtain ⟨i, rfl, h2⟩ := idxK_elim h
  obtain ⟨h3, h4⟩ := ne_ h2
  exact ⟨i, by simp only [boundL, h3, cond_true], h4⟩
 ·exact h.elim
theorem toTsN_ok {g : Value → ASt → (Td → ASt → Prop) → Prop} {g' : Value → ASt → Rs (Td × ASt)} (hg : ∀ v st K, g v st K → ∃ t st', g' v st = .ok (t, st') ∧ K t st') : ∀ {l : List Value} {st : ASt} {K : List Td → ASt → Prop}, toTsN g l st K → ∃ ts st', toTs g' l st = .ok (ts, st') ∧ K ts st' := by
 intro l
 induction l with
 | nil => intro st K h; exact ⟨[], st, rfl, h⟩
 | cons v l ih =>
  intro st K h
  obtain ⟨t, st1, h1, h2⟩ := hg v st _ h
  obtain ⟨ts, st2, h3, h4⟩ := ih h2
  exact ⟨t :: ts, st2, by simp only [toTs, h1, h3, Rs.bnd], h4⟩
theorem toTN_ok : ∀ (f : Nat) (v : Value) (st : ASt) (K : Td → ASt → Prop), toTN f v st K → ∃ t st', toT f v st = .ok (t, st') ∧ K t st' := by
 intro f
 induction f with
 | zero => intro v st K h; exact h.elim
 | succ f ih =>
  intro v st K h
  unfold toTN at h
  unfold toT
  split at h
  ·exact ⟨_, _, rfl, h⟩
  ·rename_i b i0 n c
   split at h
   ·rename_i k es lo m g hg
    obtain ⟨h1, h⟩ := ne_ h
    obtain ⟨st', h2, h3⟩ := rK_ h
    exact ⟨_, _, by simp only [hg, h1, cond_true, h2, Rs.bnd], h3⟩
   ·exact h.elim
  ·rename_i b o n c
   split at h
   ·rename_i cs es hg
    cases hb : ((Nat.blt 0 es || Nat.beq n 0) && Nat.ble (o + n * es) cs.length) with
    | false => rw [hb] at h; exact h.elim
    | true =>
     rw [hb] at h
     obtain ⟨l, h1, h⟩ := optK_elim h
     obtain ⟨ts, st1, h2, h⟩ := toTsN_ok ih h
     obtain ⟨st', h3, h4⟩ := rK_ h
     exact ⟨_, _, by simp only [hg, hb, cond_true, h1, h2, h3, Rs.of, Rs.bnd], h4⟩
   ·exact h.elim
  ·rename_i h1 h2 h3
   cases hs : scalT v with
   | false => rw [hs] at h; exact h.elim
   | true =>
    rw [hs] at h
    refine ⟨.sc v, st, ?_, h⟩
    split
    ·exact (h1 rfl).elim
    ·exact (h2 _ _ _ _ rfl).elim
    ·exact (h3 _ _ _ _ rfl).elim
    ·simp only [hs, cond_true]
theorem writeN_ok {st : ASt} {a : Addr} {vs : List Value} {K : ASt → Prop} (h : writeN st a vs K) : ∃ st', st.write a vs = .ok st' ∧ K st' := by
 unfold writeN at h
 unfold ASt.write
 cases hr : isRow (st.h.get a.block) with
 | false =>
  rw [hr] at h
  exact rK_ h
 | true =>
  rw [hr] at h
  simp only [cond_true] at h ⊢
  obtain ⟨ts, st1, h1, h2⟩ := toTsN_ok (toTN_ok 4) h
  simp only [h1, Rs.bnd]
  unfold writeRN at h2
  unfold ASt.writeR
  split at h2
  ·rename_i es lo n elem hg
   rw [hg]
   split at h2
   ·rename_i i hi
    rw [hi]
    cases hb : Nat.ble (a.off + ts.length) es with
    | false => rw [hb] at h2; exact h2.elim
    | true =>
     rw [hb] at h2
     obtain ⟨h3, h4⟩ := ne_ h2
     exact ⟨_, by simp only [hb, h3, cond_true], h4⟩
   ·exact h2.elim
  ·exact h2.elim
theorem srcN_ok {P : Program} {st : ASt} {d2 : TypeDesc} {elem : TypeId} {size : Nat} {x : Value} {K : Nat → (Nat → Nat → Td) → ASt → Prop} (h : srcN P st d2 elem size x K) : ∃ n f st1, srcF P st d2 elem size x = .ok (n, f, st1) ∧ K n f st1 := by
 unfold srcN at h
 split at h
 ·rename_i k n
  split at h
  ·rename_i k2
   obtain ⟨n', hn, h9⟩ := idxK_elim h
   clear h
   subst hn
   obtain ⟨h1, h8⟩ := ne_ h9
   obtain ⟨z, hz, h7⟩ := rK_ h8
   cases hc : z.all zOk with
   | false => rw [hc] at h7; exact h7.elim
   | true =>
    rw [hc] at h7
    exact ⟨n', _, st, by simp only [srcF, h1, hz, Rs.bnd, hc, cond_true], h7⟩
  ·exact h.elim
 ·rename_i b0 i0 n c
  split at h
  ·rename_i e2 own es lo m g hg
   cases he : Nat.beq es size with
   | false => rw [he] at h; exact h.elim
   | true =>
    rw [he] at h
    obtain ⟨h1, h2⟩ := ne_ h
    exact ⟨_, _, _, by simp only [srcF, hg, he, h1, cond_true], h2⟩
  ·exact h.elim
 ·rename_i str
  split at h
  ·cases he : Nat.beq size 1 with
   | false => rw [he] at h; exact h.elim
   | true =>
    rw [he] at h
    exact ⟨_, _, _, by simp only [srcF, he, cond_true], h⟩
  ·exact h.elim
 ·rename_i hni hne hns
  obtain ⟨⟨n, l⟩, h1, h2⟩ := rK_ h
  obtain ⟨ts, st1, h3, h4⟩ := toTsN_ok (toTN_ok 4) h2
  refine ⟨n, _, st1, ?_, h4⟩
  unfold srcF
  split
  ·exact (hni _ _ rfl).elim
  ·exact (hne _ _ _ _ rfl).elim
  ·exact (hns _ rfl).elim
  ·simp only [h1, h3, Rs.bnd]
theorem appRN_ok {st : ASt} {size : Nat} {s : Value} {n : Nat} {f : Nat → Nat → Td} {K : AN → Prop} (h : appRN st size s n f K) : ∃ r, aAppendR st size s n f = .ok r ∧ K r := by
 unfold appRN at h
 split at h
 ·rename_i b0 i0 len c
  split at h
  ·rename_i es lo m g hg
   cases he : Nat.beq es size with
   | false => rw [he] at h; exact h.elim
   | true =>
    rw [he] at h
    obtain ⟨h1, h2⟩ := ne_ h
    exact ⟨_, by simp only [aAppendR, hg, he, h1, cond_true], h2⟩
  ·exact h.elim
 ·exact rK_ h
theorem appQN_ok {st : ASt} {size : Nat} {s : Value} {n : Nat} {f : Nat → Nat → Td} {K : AN → Prop} (h : appQN st size s n f K) : ∃ r, aAppendQ st size s n f = .ok r ∧ K r := by
 unfold appQN at h
 split at h
 ·split at h
  ·rename_i b0 o len c _ cs ex es hg
   cases hb : Nat.blt 0 len with
   | false =>
    rw [hb] at h
    obtain ⟨r, h1, h2⟩ := rK_ h
    exact ⟨r, by simp only [aAppendQ, hg, hb, cond_false]; exact h1, h2⟩
   | true =>
    rw [hb, cond_true] at h
    cases hc : turnOk o size len c es ex cs with
    | false => rw [hc] at h; exact h.elim
    | true =>
     rw [hc, cond_true] at h
     obtain ⟨r, h1, h2⟩ := appRN_ok h
     exact ⟨r, by simp only [aAppendQ, hg, hb, hc, cond_true]; exact h1, h2⟩
  ·rename_i b0 o len c _ hne
   obtain ⟨r, h1, h2⟩ := rK_ h
   refine ⟨r, ?_, h2⟩
   unfold aAppendQ
   dsimp only
   split
   ·rename_i hg
    exact (hne _ _ _ hg).elim
   ·exact h1
 ·rename_i hne
  obtain ⟨r, h1, h2⟩ := appRN_ok h
  refine ⟨r, ?_, h2⟩
  unfold aAppendQ
  split
  ·exact (hne _ _ _ _ rfl).elim
  ·exact h1
theorem appN_ok {P : Program} {st : ASt} {ts : List TypeId} {args : List Value} {K : AN → Prop} (h : appN P st ts args K) : ∃ r, aAppend P st ts args = .ok r ∧ K r := by
 unfold appN at h
 split at h
 ·rename_i t t2 ts' s x
  cases hb : isRowA s x with
  | false =>
   rw [hb] at h
   obtain ⟨r, h1, h2⟩ := rK_ h
   exact ⟨r, by simp only [aAppend, hb, cond_false, h1], h2⟩
  | true =>
   rw [hb] at h
   obtain ⟨d, h1, h⟩ := rK_ h
   obtain ⟨d2, h2, h⟩ := rK_ h
   split at h
   ·rename_i elem
    obtain ⟨size, h3, h⟩ := rK_ h
    obtain ⟨by_, h4, h⟩ := rK_ h
    obtain ⟨z, h5, h⟩ := rK_ h
    obtain ⟨n, f, st1, h6, h⟩ := srcN_ok h
    split at h
    ·rename_i base len c
     cases hc : (Nat.ble by_ 1000000 && Nat.beq z.length size) with
     | false => rw [hc] at h; exact h.elim
     | true =>
      rw [hc] at h
      obtain ⟨h7, h⟩ := ne_ h
      obtain ⟨r, h8, h9⟩ := appQN_ok h
      exact ⟨r, by simp only [aAppend, hb, cond_true, h1, h2, h3, h4, h5, h6, Rs.bnd, hc, h7, h8], h9⟩
    ·exact h.elim
   ·exact h.elim
 ·exact h.elim
theorem seeK_ok : ∀ {ts : List Td} {st : ASt} {K : List Value → ASt → Prop}, seeK ts st K → K (seeT ts st).1 (seeT ts st).2 := by
 intro ts
 induction ts with
 | nil => intro st K h; exact h
 | cons t ts ih =>
  intro st K h
  cases t with
  | sc x => exact ih (forceV_ok (C := fun x => seeK ts st fun vs st' => K (x :: vs) st') h)
  | fr es n c e => exact ih h
theorem readN_ok {st : ASt} {a : Addr} {n : Nat} {K : List Value → ASt → Prop} (h : readN st a n K) : ∃ l st', st.read a n = .ok (l, st') ∧ K l st' := by
 unfold readN at h
 split at h
 ·rename_i own es lo m elem hg
  have hrow : isRow (st.h.get a.block) = true := by rw [hg]; rfl
  split at h
  ·rename_i i hi
   cases hmul : (Nat.beq a.off 0 && Nat.blt es n) with
   | true =>
    rw [hmul] at h
    obtain ⟨h1, h2⟩ := ne_ h
    exact ⟨_, _, by simp only [ASt.read, ASt.readT, hg, isRow, hi, hmul, h1, Rs.bnd, cond_true], seeK_ok h2⟩
   | false =>
    rw [hmul] at h
    simp only [cond_false] at h
    cases hb : Nat.ble (a.off + n) es with
    | false => rw [hb] at h; exact h.elim
    | true =>
     rw [hb] at h
     obtain ⟨h1, h2⟩ := ne_ h
     exact ⟨_, _, by simp only [ASt.read, ASt.readT, hg, isRow, hi, hmul, hb, h1, cond_true, cond_false, Rs.bnd], seeK_ok h2⟩
  ·exact h.elim
 ·obtain ⟨r, h1, h2⟩ := rK_ h
  exact ⟨r.1, r.2, h1, h2⟩
theorem floatsK_ok {K : Prop} : ∀ {l : List Value}, floatsK l K → l.all (ground 1) = true ∧ K := by
 intro l
 induction l with
 | nil => intro h; exact ⟨rfl, h⟩
 | cons v l ih =>
  intro h
  unfold floatsK at h
  split at h
  ·rename_i heq; cases heq
  ·rename_i k b l' heq
   cases heq
   obtain ⟨h1, h2⟩ := ne_ h
   obtain ⟨h3, h4⟩ := ih h2
   exact ⟨by simp [List.all_cons, ground, h3]; simpa using h1, h4⟩
  ·rename_i v' l' _ heq
   cases heq
   obtain ⟨h1, h2⟩ := ne_ h
   obtain ⟨h3, h4⟩ := ih h2
   exact ⟨by simp [List.all_cons, h1]; simpa using h3, h4⟩
theorem extN_ok {P : Program} {f : FuncId} {args : List Value} {st : ASt} {K : AN → Prop} (h : extN P f args st K) : ∃ r, aCall P f args st = .ok r ∧ K r := by
 unfold extN at h
 split at h
 ·rename_i fn hf
  split at h
  ·exact rK_ h
  ·rename_i hb
   cases ht : isTrunc fn with
   | true =>
    rw [ht] at h
    simp only [cond_true] at h
    split at h
    ·exact ⟨_, by simp only [aCall, hf, hb, ht, cond_true], h⟩
    ·exact h.elim
   | false =>
    rw [ht] at h
    obtain ⟨h1, h2⟩ := floatsK_ok h
    split at h2
    ·rename_i v hv
     cases hr : refl1 v with
     | false => rw [hr] at h2; exact h2.elim
     | true =>
      rw [hr] at h2
      exact ⟨_, by simp only [aCall, hf, hb, ht, h1, hv, hr, cond_true, cond_false], h2⟩
    ·exact h2.elim
 ·exact h.elim
theorem pureRun_int {P : Program} (op : BinOp) (t : TypeId) (xo yo : Operand) (k : IntKind) (a b : Int) (v : Value) (hd : divN op k a b = some v) (hb : b ≠ 0) :
  pureRun P (do eqGuard op t xo yo (.int k a) (.int k b); binOp op t (.int k a) (.int k b)) = .ok v := by
 cases op <;> simp only [divN, Option.some.injEq, reduceCtorEq] at hd <;> subst hd
 ·have : (do eqGuard .quo t xo yo (.int k a) (.int k b); binOp .quo t (.int k a) (.int k b) : Sem Value) = Op.intDiv .quo k a b := by
   cases k <;> rfl
  rw [this, Op.intDiv, if_neg hb]; rfl
 ·have : (do eqGuard .rem t xo yo (.int k a) (.int k b); binOp .rem t (.int k a) (.int k b) : Sem Value) = Op.intDiv .rem k a b := by
   cases k <;> rfl
  rw [this, Op.intDiv, if_neg hb]; rfl
theorem pureRun_sh {P : Program} (op : BinOp) (t : TypeId) (xo yo : Operand) (k k' : IntKind) (a b : Int) (v : Value) (hd : shN op k a b = some v) (hb : 0 ≤ b) :
  pureRun P (do eqGuard op t xo yo (.int k a) (.int k' b); binOp op t (.int k a) (.int k' b)) = .ok v := by
 cases op <;> simp only [shN, Option.some.injEq, reduceCtorEq] at hd <;> subst hd
 ·have : (do eqGuard .shl t xo yo (.int k a) (.int k' b); binOp .shl t (.int k a) (.int k' b) : Sem Value) = Op.shift .shl k a k' b := by
   cases k <;> cases k' <;> rfl
  rw [this, Op.shift, if_neg (by omega)]; rfl
 ·have : (do eqGuard .shr t xo yo (.int k a) (.int k' b); binOp .shr t (.int k a) (.int k' b) : Sem Value) = Op.shift .shr k a k' b := by
   cases k <;> cases k' <;> rfl
  rw [this, Op.shift, if_neg (by omega)]; rfl
theorem nan_order {k : FloatKind} {a b : Nat} (h : (nanB k a || nanB k b) = true) : k.format.order a b = none := (arith_nan h).2.2.2.2
theorem pureRun_cmp {P : Program} (op : BinOp) (t : TypeId) (xo yo : Operand) (k : FloatKind) (a b : Nat) (q : Bool) (h : cmpF op k a b = some q) :
  pureRun P (do eqGuard op t xo yo (.float k a) (.float k b); binOp op t (.float k a) (.float k b)) = .ok (.bool q) := by
 cases op <;> simp only [cmpF, Option.some.injEq, reduceCtorEq] at h <;> subst h <;> cases k <;> rfl
theorem fltN_ok {P : Program} {f : AFr} {st : ASt} {o : Oper} {op : BinOp} {t ty : TypeId} {x y : Operand} {k : FloatKind} {a b : Nat} {K : AN → Prop} (ho : o.op = .binOp op t x y ty) (hx : f.ev x = .float k a) (hy : f.ev y = .float k b)
  (h : fltN op k a b fun v => K (.val v st)) : ∃ r, aOp P f st o = .ok r ∧ K r := by
 have hs : sameF k k = true := by cases k <;> rfl
 unfold fltN at h
 split at h
 ·rename_i q hq
  refine ⟨_, ?_, h⟩
  cases hn : (nanB k a || nanB k b) with
  | true =>
   have ho' := nan_order hn
   have : aFloat op (.float k a) (.float k b) = some (.bool q) := by
    cases op <;> simp only [cmpF, Option.some.injEq, reduceCtorEq, ho'] at hq <;> subst hq <;> simp only [aFloat, hs, cond_true, hn] <;> rfl
   simp only [aOp, ho, hx, hy, this]
  | false =>
   have h0 : aFloat op (.float k a) (.float k b) = none := by
    cases op <;> simp only [cmpF, Option.some.injEq, reduceCtorEq] at hq <;> simp only [aFloat, hs, cond_true, hn, cond_false, arithF]
   have hg : (ground 4 (.float k a) && ground 4 (.float k b)) = true := by
    simp only [Bool.or_eq_false_iff] at hn
    simp [ground, hn.1, hn.2]
   have h1 : aBin P op t x y (.float k a) (.float k b) = .ok (.ok (.bool q)) := by
    simp only [aBin, hg, cond_true, pureRun_cmp op t x y k a b q hq]
    rfl
   simp only [aOp, ho, hx, hy, h0, h1, Rs.bnd]
 ·rename_i hc
  cases hop : arithOp op with
  | false => rw [hop] at h; exact h.elim
  | true =>
   rw [hop] at h
   simp only [cond_true] at h
   refine ⟨_, ?_, h⟩
   have : aFloat op (.float k a) (.float k b) = some (.float k (ariR k op a b)) := by
    cases hn : (nanB k a || nanB k b) with
    | true =>
     obtain ⟨n1, n2, n3, n4, _⟩ := arith_nan hn
     cases op <;> simp [arithOp] at hop <;> simp only [aFloat, hs, cond_true, hn, ariR, n1, n2, n3, n4, Option.getD_none]
    | false =>
     cases op <;> simp [arithOp] at hop <;> simp only [aFloat, hs, cond_true, hn, cond_false, arithF, ariR] <;> split <;> simp_all
   simp only [aOp, ho, hx, hy, this]
theorem pureRun_bind {α β : Type} {P : Program} {x : Sem α} {f : α → Sem β} {a : α} (h : pureRun P x = .ok a) : pureRun P (x >>= f) = pureRun P (f a) := by
 show pureRun P (x.bind f) = _
 induction x with
 | pure b => simp only [pureRun] at h; cases h; rfl
 | program k ih => simp only [pureRun] at h; simp only [Sem.bind, pureRun]; exact ih P h
 | mark m k ih => simp only [pureRun] at h; simp only [Sem.bind, pureRun]; exact ih h
 | halt e => cases e <;> simp [pureRun] at h
 | _ => simp [pureRun] at h
theorem pureRun_und {P : Program} {t : TypeId} {d : TypeDesc} (h : P.underlying t = some d) : pureRun P (underlying t) = .ok d := by
 show pureRun P (match P.underlying t with | some d => pure d | none => stuck "no such type") = _
 rw [h]; rfl
theorem pureRun_convert {P : Program} {s d : TypeId} {ds : TypeDesc} {kd : IntKind} {k : FloatKind} {b : Nat} (hs : P.underlying s = some ds) (hd : P.underlying d = some (.int kd)) :
  pureRun P (convert s d (.float k b)) = pureRun P (Conv.floatToInt k b kd) := by
 unfold convert
 rw [pureRun_bind (pureRun_und hs), pureRun_bind (pureRun_und hd)]
set_option maxHeartbeats 1000000 in
theorem opN_ok {P : Program} {f : AFr} {st : ASt} {o : Oper} {K : AN → Prop} (h : opN P f st o K) : ∃ r, aOp P f st o = .ok r ∧ K r := by
 unfold opN at h
 split at h
 ·rename_i c a b ho
  split at h
  ·rename_i b' hb
   rcases br_elim h with ⟨rfl, h⟩ | ⟨rfl, h⟩ <;> exact ⟨_, by simp only [aOp, ho, hb, cond_true, cond_false], h⟩
  ·exact h.elim
 ·rename_i op t x y ty ho
  split at h
  ·rename_i k a k' b hx hy
   cases hs : sameF k k' with
   | false => rw [hs] at h; exact h.elim
   | true =>
    rw [hs] at h
    have := sameF_eq hs
    subst this
    exact fltN_ok ho hx hy h
  ·rename_i k a k' b hx hy
   split at h
   ·rename_i v hv
    obtain ⟨h1, h2⟩ := ne_ h
    simp only [Bool.and_eq_true, Bool.not_eq_true', decide_eq_true_eq, decide_eq_false_iff_not] at h1
    obtain ⟨rfl, hb⟩ := h1
    refine ⟨_, ?_, h2⟩
    have hr : refl1 v = true := by
     cases op <;> simp only [divN, Option.some.injEq, reduceCtorEq] at hv <;> subst hv <;> rfl
    have h3 : aBin P op t x y (.int k a) (.int k b) = .ok (.ok v) := by
     simp only [aBin, ground, Bool.and_self, cond_true, pureRun_int op t x y k a b v hv hb, hr]
    simp only [aOp, ho, hx, hy, aFloat, h3, Rs.bnd]
   ·split at h
    ·rename_i v hv
     obtain ⟨h1, h2⟩ := ne_ h
     have hb : 0 ≤ b := of_decide_eq_true h1
     refine ⟨_, ?_, h2⟩
     have hr : refl1 v = true := by
      cases op <;> simp only [shN, Option.some.injEq, reduceCtorEq] at hv <;> subst hv <;> rfl
     have h3 : aBin P op t x y (.int k a) (.int k' b) = .ok (.ok v) := by
      simp only [aBin, ground, Bool.and_self, cond_true, pureRun_sh op t x y k k' a b v hv hb, hr]
     simp only [aOp, ho, hx, hy, aFloat, h3, Rs.bnd]
    ·exact rK_ h
  ·exact rK_ h
 ·rename_i op t x ho
  split at h
  ·rename_i a hx
   split at h
   ·refine ⟨_, ?_, h⟩
    simp only [aOp, ho, hx, aNegF, negR]
    cases nanB .f64 a <;> rfl
   ·exact h.elim
  ·exact rK_ h
 ·rename_i s d x ho
  split at h
  ·rename_i k b hx
   split at h
   ·rename_i ds kd hs hd
    obtain ⟨h1, h⟩ := ne_ h
    obtain ⟨h2, h⟩ := ne_ h
    refine ⟨_, ?_, h⟩
    have hu : undL P s = .ok ds := by simp only [undL, hs]
    have hu2 : undL P d = .ok (.int kd) := by simp only [undL, hd]
    have hg : ground 1 (.float k b) = true := by simpa [ground] using h1
    cases hq : (k.decode b).toInt .zero with
    | none => rw [hq] at h2; cases h2
    | some n =>
     rw [hq] at h2
     have h3 := of_decide_eq_true h2
     have h4 : pureRun P (convert s d (.float k b)) = .ok (.int kd n) := by
      have e1 : pureRun P (Conv.floatToInt k b kd) = .ok (.int kd n) := by
       simp only [Conv.floatToInt, hq, if_pos h3]; rfl
      rw [← e1]
      exact pureRun_convert hs hd
     have h5 : aConv P st s d (.float k b) = .ok (.val (.int kd n) st) := by
      simp only [aConv, hu, hu2, Rs.bnd, hg, cond_true, h4]
      rfl
     simp only [aOp, ho, hx, h5, Option.getD_some]
   ·exact h.elim
  ·rename_i b0 i0 n c hx
   obtain ⟨ds, h1, h⟩ := rK_ h
   obtain ⟨dd, h2, h⟩ := rK_ h
   split at h
   ·rename_i e
    obtain ⟨u, h3, h⟩ := rK_ h
    split at h
    ·rename_i own es lo m g hg
     cases he : Nat.beq es 1 with
     | false => rw [he] at h; exact h.elim
     | true =>
      rw [he] at h
      obtain ⟨h4, h⟩ := ne_ h
      obtain ⟨h5, h⟩ := ne_ h
      have h6 : aConv P st s d (.slice (some ⟨b0, 0, some i0⟩) n c) = .ok (.val (.string (strOf n fun j => g (i0 + j))) st) := by
       simp only [aConv, h1, h2, Rs.bnd, h3, hg, he, cond_true, h4, h5]
      exact ⟨_, by simp only [aOp, ho, hx, h6], h⟩
    ·exact h.elim
   ·exact h.elim
  ·exact rK_ h
 ·rename_i t a x ho
  split at h
  ·rename_i a0 ha
   obtain ⟨n, hn, h⟩ := rK_ h
   cases hb : Nat.beq (cellsL (f.ev x)).length n with
   | false => rw [hb] at h; exact h.elim
   | true =>
    rw [hb] at h
    simp only [cond_true] at h
    obtain ⟨st', h1, h2⟩ := writeN_ok h
    exact ⟨_, by simp only [aOp, ho, ha, hn, Rs.bnd, hb, cond_true, h1], h2⟩
  ·exact h.elim
 ·rename_i t x i ho
  split at h
  ·rename_i ki n hi
   obtain ⟨i', rfl, h⟩ := idxK_elim h
   obtain ⟨d, hd, h⟩ := rK_ h
   split at h
   ·rename_i e b0 o0 n c hx
    obtain ⟨s, hs, h⟩ := rK_ h
    obtain ⟨h1, h⟩ := fewN_elim h
    have h1 : Nat.blt i' _ = true := h1
    exact ⟨_, by simp only [aOp, ho, hi, hd, hx, hs, Rs.bnd, h1, cond_true]; rfl, h⟩
   ·rename_i e b0 i0 n c hx
    obtain ⟨s, hs, h⟩ := rK_ h
    split at h
    ·rename_i own es lo m elem hg
     cases he : Nat.beq es s with
     | false => rw [he] at h; exact h.elim
     | true =>
      rw [he] at h
      obtain ⟨h1, h⟩ := ne_ h
      have h1 : Nat.blt i' _ = true := h1
      exact ⟨_, by simp only [aOp, ho, hi, hd, hx, hs, Rs.bnd, hg, he, h1, cond_true]; rfl, h⟩
    ·exact h.elim
   ·rename_i n e b0 o0 hx
    obtain ⟨s, hs, h⟩ := rK_ h
    obtain ⟨h1, h⟩ := ne_ h
    have h1 : Nat.blt i' _ = true := h1
    exact ⟨_, by simp only [aOp, ho, hi, hd, hx, hs, Rs.bnd, h1, cond_true]; rfl, h⟩
   ·rename_i n e b0 o0 i0 hx
    obtain ⟨s, hs, h⟩ := rK_ h
    obtain ⟨h1, h⟩ := ne_ h
    have h1 : Nat.blt i' _ = true := h1
    exact ⟨_, by simp only [aOp, ho, hi, hd, hx, hs, Rs.bnd, h1, cond_true]; rfl, h⟩
   ·exact h.elim
  ·exact h.elim
 ·rename_i t l c ho
  cases hrow : rowMk c with
  | false =>
   rw [hrow] at h
   exact rK_ h
  | true =>
   rw [hrow] at h
   simp only [cond_true] at h
   split at h
   ·rename_i k1 x k2 y hx hy
    obtain ⟨l', hl', h9⟩ := idxK_elim h
    clear h
    obtain ⟨c', hc', h8⟩ := idxK_elim h9
    clear h9
    subst hl' hc'
    obtain ⟨d, hd, h⟩ := rK_ h8
    clear h8
    split at h
    ·rename_i e
     obtain ⟨z, hz, h⟩ := rK_ h
     obtain ⟨n, hn, h⟩ := rK_ h
     obtain ⟨b, hb, h⟩ := rK_ h
     cases hc : (Nat.ble b 1000000 && Nat.beq z.length n && z.all zOk) with
     | false => rw [hc] at h; exact h.elim
     | true =>
      rw [hc] at h
      obtain ⟨h1, h⟩ := ne_ h
      have h2 : (Nat.beq l' c' && Nat.ble c' 1000000 && Nat.ble b 1000000 && Nat.beq z.length n && z.all zOk) = true := by
       simp only [Bool.and_eq_true] at h1 hc ⊢
       exact ⟨⟨⟨⟨h1.1, h1.2⟩, hc.1.1⟩, hc.1.2⟩, hc.2⟩
      exact ⟨_, by simp only [aOp, ho, hx, hy, hd, hz, hn, hb, Rs.bnd, hrow, h2, cond_true], h⟩
    ·exact h.elim
   ·exact h.elim
 ·rename_i t a ho
  split at h
  ·rename_i a0 ha
   obtain ⟨n, hn, h⟩ := rK_ h
   obtain ⟨l, st', hl, h⟩ := readN_ok h
   obtain ⟨v, hv, h⟩ := rK_ h
   exact ⟨_, by simp only [aOp, ho, ha, hn, hl, hv, Rs.bnd], h⟩
  ·exact h.elim
 ·rename_i t x lo hi mx ho
  split at h
  ·rename_i b0 i0 len cap hx
   obtain ⟨d, hd, h⟩ := rK_ h
   split at h
   ·rename_i e
    obtain ⟨r1, h1, h⟩ := boundN2_ok h
    obtain ⟨r2, h2, h⟩ := boundN_ok h
    obtain ⟨s, hs, h⟩ := rK_ h
    split at h
    ·rename_i own es lo' m elem hg
     cases he : Nat.beq es s with
     | false => rw [he] at h; exact h.elim
     | true =>
      rw [he] at h
      exact ⟨_, by simp only [aOp, ho, aSlice, hd, hx, h1, h2, hs, Rs.bnd, hg, he, cond_true], h⟩
    ·exact h.elim
   ·exact h.elim
  ·exact rK_ h
 ·rename_i t x i ok ho
  obtain ⟨d, hd, h⟩ := rK_ h
  split at h
  ·rename_i kt et
   split at h
   ·rename_i kk vk es hm
    obtain ⟨v, hv, h⟩ := rK_ h
    exact ⟨_, by simp only [aOp, ho, hd, hm, hv, Rs.bnd], h⟩
   ·rename_i hm
    obtain ⟨u, hu, h⟩ := rK_ h
    obtain ⟨es, he, h⟩ := rK_ h
    obtain ⟨u2, hk, h⟩ := rK_ h
    obtain ⟨r, hr, h⟩ := findN_ok h
    obtain ⟨z, hz, h⟩ := rK_ h
    exact ⟨_, by simp only [aOp, ho, hd, hm, hu, he, hk, hr, hz, Rs.bnd], h⟩
  ·exact h.elim
 ·rename_i c ho
  split at h
  ·rename_i g hc
   split at h
   ·rename_i fid a b hg
    obtain ⟨r, h1, h2⟩ := extN_ok h
    exact ⟨r, by simp only [aOp, ho, hc, hg, aInvoke, h1], h2⟩
   ·exact h.elim
  ·rename_i hc
   obtain ⟨r, h1, h2⟩ := appN_ok h
   exact ⟨r, by simp only [aOp, ho, hc, aBuiltin, h1], h2⟩
  ·exact rK_ h
 ·exact rK_ h
end Go.Proofs.YtachglcffimmeaaGreat.Ev
