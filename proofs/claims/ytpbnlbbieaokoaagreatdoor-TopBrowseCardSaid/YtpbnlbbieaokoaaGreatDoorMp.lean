/-
  A function told at places that have memory: what it is given reads so and so, it leaves that as it was, and what it makes is laid with new numbers.
-/
import Derived.Test.YtpbnlbbieaokoaaGreatDoorGj
set_option linter.unusedVariables false
set_option linter.unusedSimpArgs false
namespace Go.Proofs.YtpbnlbbieaokoaaGreatDoor.Ev
open Go Go.RowKit

/-- a place: what it is given (names 0.. in memory), what it answers, what is new (named behind) -/
structure MPt where
  args : List Value
  objs : List AObj
  ret : Value
  news : List AObj
def lkK (keep : List Nat) : Lk := fun i => keep[i]?
def lkM (keep : List Nat) (nx m : Nat) : Lk := fun i => match keep[i]? with
  | some a => some a
  | none => cond (Nat.blt i (keep.length + m)) (some (nx + (i - keep.length))) none
def mem0 (e : MPt) : ASt := newUps (lkN 0 e.objs.length) e.objs st0
def args0M (e : MPt) : List Value := e.args.map (bkV (lkN 0 e.objs.length))
def MpOk (P : Program) (g : FuncId) (e : MPt) : Prop := ∀ (w : World) (ρ : Rho) (args' : Array Value), WR ρ (mem0 e).h.get w → VRL ρ (args0M e) args'.toList → (∀ x, e.objs.length ≤ x → ρ x = none) → Calls P g args' w fun q w' => ∃ (ρ2 : Rho) (g2 : Mem) (n2 : Nat) (nm : List Nat), nm.length = e.news.length ∧ nm.Nodup ∧ (∀ x ∈ nm, e.objs.length ≤ x) ∧
  (∃ v', q = .returned v' ∧ VR ρ2 (bkX (lkAt e.objs.length nm) e.ret) v') ∧ Mv ρ ρ2 (mem0 e).h.get g2 e.objs.length n2 w w' ∧ (∀ (i : Nat) (o : AObj), e.objs[i]? = some o → g2 i = some (bkO (lkN 0 e.objs.length) o)) ∧
  ∀ (j : Nat) (o : AObj), e.news[j]? = some o → ∃ x, nm[j]? = some x ∧ g2 x = some (bkO (lkAt e.objs.length nm) o)
noncomputable def mpKeep (args : List Value) (st : ASt) : List Nat := (rchF st.h 100000 (args.flatMap (idsV 4)) .leaf []).reverse
noncomputable def objsG (μ : Lk) (h : Tr AObj) : List Nat → List AObj → Bool
  | [], [] => true
  | x :: nm, o :: l => sameOb (hGet h x) (bkO μ o) && objsG μ h nm l
  | _, _ => false
theorem objsG_eq {μ : Lk} {h : Tr AObj} : ∀ {nm : List Nat} {l : List AObj}, objsG μ h nm l = objsB μ h nm l := by
  intro nm
  induction nm with
  | nil => intro l; cases l <;> rfl
  | cons x nm ih => intro l; cases l with
    | nil => rfl
    | cons o l => simp only [objsG, objsB, ih, hGet_eq]
noncomputable def mpFit (keep : List Nat) (args : List Value) (st : ASt) (e : MPt) : Bool := sameYs args (e.args.map (bkV (lkK keep))) && objsG (lkK keep) st.h keep e.objs
/-- which place it is, a number of the memory's end says -/
noncomputable def mpC (tab : List MPt) (ix : Nat → Nat) : TCon where
  run args st := match tab[ix st.next]? with
    | some e => cond (nodupC (mpKeep args st)) (cond (mpFit (mpKeep args st) args st e) (.ok (.returned (bkX (lkM (mpKeep args st) st.next e.news.length) e.ret), newUps (lkM (mpKeep args st) st.next e.news.length) e.news st)) (.er "no such place")) (.er "names")
    | none => .er "no place"
  sym _ _ _ := False
  ok _ _ _ h := h.elim
theorem VRL.bk {μ ν : Lk} {ρ ρ' : Rho} (H : LkR μ ν ρ ρ') {l m : List Value} (h : VRL ρ (l.map (bkV μ)) m) : VRL ρ' (l.map (bkV ν)) m := by
  refine ⟨by have := h.1; simpa using this, fun i x y hx hy => ?_⟩
  rw [List.getElem?_map] at hx
  cases hq : l[i]? with
  | none => rw [hq] at hx; cases hx
  | some u =>
    rw [hq] at hx; cases hx
    exact bkV_VR H (h.2 i _ y (by rw [List.getElem?_map, hq]; rfl) hy)
theorem mem0_get (e : MPt) (i : Nat) : (mem0 e).h.get i = (e.objs[i]?).map (bkO (lkN 0 e.objs.length)) := by
  unfold mem0
  rw [(newUps_get (x := i)).1]
  show (if 0 ≤ i ∧ i < 0 + e.objs.length then (e.objs[i - 0]?).map (bkO (lkN 0 e.objs.length)) else none) = _
  by_cases h : i < e.objs.length
  · rw [if_pos (by omega), Nat.sub_zero]
  · rw [if_neg (by omega), List.getElem?_eq_none (by omega)]; rfl
theorem lkN0 {k i a : Nat} (h : lkN 0 k i = some a) : i < k ∧ a = i := by
  simp only [lkN] at h
  cases hb : Nat.blt i k with
  | false => rw [hb] at h; cases h
  | true => rw [hb] at h; simp only [cond_true, Option.some.injEq] at h; exact ⟨blt_lt hb, by omega⟩
theorem lkN0_of {k i : Nat} (h : i < k) : lkN 0 k i = some i := by
  simp only [lkN]
  have : Nat.blt i k = true := by simpa using h
  rw [this]; simp
/-- **what is told of it at places with memory may be told to the evaluator** -/
theorem mp_told {P : Program} {g : FuncId} {tab : List MPt} {ix : Nat → Nat} (htab : ∀ e ∈ tab, e.objs.all isCells = true ∧ e.news.all isCells = true ∧ MpOk P g e) : ∀ args st q st', Wf st → (mpC tab ix).run args st = .ok (q, st') → LoS st st' ∧ ∀ ρ w (args' : Array Value), VRL ρ args args'.toList → WR ρ st.h.get w → Fresh ρ st.next st'.next →
    Calls P g args' w fun e w' => ∃ ρ', EndR ρ' q e ∧ Mv ρ ρ' st.h.get st'.h.get st.next st'.next w w' := by
  intro args st q st' hwf hr
  simp only [mpC] at hr
  generalize hkeep : mpKeep args st = keep at hr
  split at hr
  rotate_left
  · cases hr
  rename_i e hfind
  obtain ⟨hnd, hr1⟩ := cond_ok hr
  clear hr
  have hnd := nodupC_spec hnd
  obtain ⟨hfit, hr1⟩ := cond_ok hr1
  have hmem : e ∈ tab := List.mem_of_getElem? hfind
  obtain ⟨hco, hcn, hlaw⟩ := htab e hmem
  simp only [mpFit, objsG_eq, Bool.and_eq_true] at hfit
  have hargs := sameYs_eq hfit.1
  obtain ⟨hkl, hko⟩ := objsB_spec hfit.2
  have hr := Rs.ok.inj hr1
  have hq : q = .returned (bkX (lkM keep st.next e.news.length) e.ret) := (congrArg Prod.fst hr).symm
  have hst : st' = newUps (lkM keep st.next e.news.length) e.news st := (congrArg Prod.snd hr).symm
  subst hq
  clear hr hr1 hfind hfit
  have hnx : st'.next = st.next + e.news.length := by rw [hst]; exact (newUps_get (x := 0)).2
  have hsg : ∀ x, st'.h.get x = (if st.next ≤ x ∧ x < st.next + e.news.length then (e.news[x - st.next]?).map (bkO (lkM keep st.next e.news.length)) else st.h.get x) := fun x => by rw [hst]; exact (newUps_get (x := x)).1
  generalize hν : lkM keep st.next e.news.length = ν at hsg hst ⊢
  refine ⟨by rw [hst]; exact newUps_lo, fun ρ w args' hv hw hfr => ?_⟩
  rw [hnx] at hfr ⊢
  have hco' : ∀ (i : Nat) (o : AObj), e.objs[i]? = some o → isCells o = true := fun i o ho => by
    rw [List.all_eq_true] at hco; exact hco o (List.mem_of_getElem? ho)
  have hcn' : ∀ (i : Nat) (o : AObj), e.news[i]? = some o → isCells o = true := fun i o ho => by
    rw [List.all_eq_true] at hcn; exact hcn o (List.mem_of_getElem? ho)
  -- the names of the place
  obtain ⟨ρC, hρC⟩ : ∃ ρC : Rho, ρC = fun i => (keep[i]?).bind ρ := ⟨_, rfl⟩
  have hC : ∀ i s, ρC i = some s → ∃ x, keep[i]? = some x ∧ ρ x = some s := fun i s h => by
    rw [hρC] at h
    simp only at h
    cases hk : keep[i]? with
    | none => rw [hk] at h; cases h
    | some x => rw [hk] at h; exact ⟨x, rfl, h⟩
  have hCof : ∀ i x, keep[i]? = some x → ρC i = ρ x := fun i x h => by rw [hρC]; simp only [h]; rfl
  have hgC : ∀ i o', (mem0 e).h.get i = some o' → ∃ o x, e.objs[i]? = some o ∧ o' = bkO (lkN 0 e.objs.length) o ∧ keep[i]? = some x ∧ st.h.get x = some (bkO (lkK keep) o) := fun i o' h => by
    rw [mem0_get] at h
    cases ho : e.objs[i]? with
    | none => rw [ho] at h; cases h
    | some o =>
      rw [ho] at h
      simp only [Option.map_some, Option.some.injEq] at h
      obtain ⟨x, h1, h2⟩ := hko i o ho
      exact ⟨o, x, rfl, h.symm, h1, h2⟩
  have H1 : LkR (lkK keep) (lkN 0 e.objs.length) ρ ρC := by
    refine ⟨fun i a hi => ?_, fun i x a s hx ha hs => ?_⟩
    · obtain ⟨h1, _⟩ := lkN0 hi
      exact ⟨keep[i]'(by omega), List.getElem?_eq_getElem (by omega)⟩
    · obtain ⟨_, rfl⟩ := lkN0 ha
      exact ⟨s, by rw [hCof a x hx]; exact hs, ⟨rfl, rfl, rfl, rfl, rfl, rfl⟩⟩
  have hownC : ∀ b, Own (mem0 e).h.get ρC b → Own st.h.get ρ b := fun b ⟨i, o', s, e1, e0, e2, e3, e4⟩ => by
    obtain ⟨o, x, h1, rfl, h3, h4⟩ := hgC i o' e1
    exact ⟨x, _, s, h4, bkO_isOwn (hco' i o h1), by rw [← hCof i x h3]; exact e2, e3, e4⟩
  have hfzC : ∀ b, Frz ρC b → Frz ρ b := fun b ⟨i, s, h1, h2⟩ => by
    obtain ⟨x, _, h4⟩ := hC i s h1
    exact ⟨x, s, h4, h2⟩
  have hwC : WR ρC (mem0 e).h.get w := by
    refine ⟨fun i s h1 h2 => ?_, fun i o' h1 => ?_, fun a b oa ob sa sb ea eb eo ra rb va vb heq => ?_, fun b hb => ?_, fun b hb => ?_⟩
    · obtain ⟨x, _, h4⟩ := hC i s h1
      exact hw.blk x s h4 h2
    · obtain ⟨o, x, k1, rfl, k3, k4⟩ := hgC i o' h1
      obtain ⟨s, m1, m2⟩ := hw.obj x _ k4
      exact ⟨s, by rw [hCof i x k3]; exact m1, bkO_cells H1 (hco' i o k1) m2⟩
    · obtain ⟨o1, x, k1, rfl, k3, k4⟩ := hgC a oa ea
      obtain ⟨o2, y, l1, rfl, l3, l4⟩ := hgC b ob eb
      have hxy := hw.inj x y _ _ sa sb k4 l4 (.inl (bkO_isOwn (hco' a o1 k1))) (by rw [← hCof a x k3]; exact ra) (by rw [← hCof b y l3]; exact rb) va vb heq
      subst hxy
      obtain ⟨hi1, hi2⟩ := List.getElem?_eq_some_iff.1 k3
      obtain ⟨hj1, hj2⟩ := List.getElem?_eq_some_iff.1 l3
      have hpw := List.pairwise_iff_getElem.1 hnd
      rcases Nat.lt_trichotomy a b with hlt | hlt | hlt
      · exact absurd (hi2.trans hj2.symm) (hpw a b hi1 hj1 hlt)
      · exact hlt
      · exact absurd (hj2.trans hi2.symm) (hpw b a hj1 hi1 hlt)
    · obtain ⟨h1, h2⟩ := hw.fz b (hfzC b hb)
      exact ⟨h1, fun h => h2 (hownC b h)⟩
    · obtain ⟨h1, h2, h3⟩ := hw.gl b hb
      exact ⟨h1, h2, fun h => h3 (hownC b h)⟩
  have hvC : VRL ρC (args0M e) args'.toList := VRL.bk H1 (by rw [← hargs]; exact hv)
  refine (hlaw w ρC args' hwC hvC (fun x hx => by rw [hρC]; simp only; rw [List.getElem?_eq_none (by omega)]; rfl)).mono fun q w' he => ?_
  obtain ⟨ρ2, g2, n2, nm, nm1, nm2, nm3, ⟨v', rfl, hv'⟩, M, hsame, hnew⟩ := he
  generalize hμ : lkAt e.objs.length nm = μ at hv' hnew
  have hk2 : ∀ i x, keep[i]? = some x → ∃ s o, e.objs[i]? = some o ∧ ρ x = some s ∧ ρ2 i = some s ∧ ρC i = some s ∧ g2 i = some (bkO (lkN 0 e.objs.length) o) ∧ st.h.get x = some (bkO (lkK keep) o) := fun i x h => by
    have hil : i < e.objs.length := by have := (List.getElem?_eq_some_iff.1 h).1; omega
    have ho : e.objs[i]? = some e.objs[i] := List.getElem?_eq_getElem hil
    obtain ⟨x', h1, h2⟩ := hko i _ ho
    rw [h] at h1; cases h1
    obtain ⟨s, m1, _⟩ := hw.obj x _ h2
    have hcs : ρC i = some s := by rw [hCof i x h]; exact m1
    exact ⟨s, _, ho, m1, M.ext i s hcs, hcs, hsame i _ ho, h2⟩
  obtain ⟨ρ', hρ'⟩ : ∃ ρ' : Rho, ρ' = fun a => if st.next ≤ a ∧ a < st.next + e.news.length then (nm[a - st.next]?).bind ρ2 else ρ a := ⟨_, rfl⟩
  have hρn : ∀ (j x : Nat), nm[j]? = some x → ρ' (st.next + j) = ρ2 x := fun j x hj => by
    have hjl := (List.getElem?_eq_some_iff.1 hj).1
    rw [hρ']; simp only
    rw [if_pos (by omega), show st.next + j - st.next = j by omega, hj]; rfl
  have hρo : ∀ a, ¬ (st.next ≤ a ∧ a < st.next + e.news.length) → ρ' a = ρ a := fun a ha => by rw [hρ']; simp only; rw [if_neg ha]
  have hρs : ∀ a t, ρ a = some t → ¬ (st.next ≤ a ∧ a < st.next + e.news.length) := fun a t ht hin => by
    rw [hfr a hin.1 hin.2] at ht; cases ht
  have hsub : Sub ρ ρ' := fun a t ht => by rw [hρo a (hρs a t ht)]; exact ht
  have hin : ∀ a, st.next ≤ a ∧ a < st.next + e.news.length → ∃ j x, a = st.next + j ∧ nm[j]? = some x ∧ ρ' a = ρ2 x := fun a ha => by
    obtain ⟨j, rfl⟩ : ∃ j, a = st.next + j := ⟨a - st.next, by omega⟩
    have hjl : j < nm.length := by omega
    exact ⟨j, nm[j], rfl, List.getElem?_eq_getElem hjl, hρn _ _ (List.getElem?_eq_getElem hjl)⟩
  have hμlt : ∀ i, i < e.objs.length → μ i = some i := fun i hi => by
    rw [← hμ]
    have : Nat.blt i e.objs.length = true := by simpa using hi
    simp only [lkAt, this, cond_true]
  have hμge : ∀ i, e.objs.length ≤ i → μ i = nm[i - e.objs.length]? := fun i hi => by
    rw [← hμ]
    have : Nat.blt i e.objs.length = false := by
      cases hq : Nat.blt i e.objs.length with
      | false => rfl
      | true => have := blt_lt hq; omega
    simp only [lkAt, this, cond_false]
  have hνc : ∀ i a, ν i = some a → keep[i]? = some a ∨ (keep.length ≤ i ∧ i < keep.length + e.news.length ∧ a = st.next + (i - keep.length)) := fun i a h => by
    rw [← hν] at h
    simp only [lkM] at h
    split at h
    · rename_i a' ha'; cases h; exact .inl ha'
    · rename_i hn
      cases hb : Nat.blt i (keep.length + e.news.length) with
      | false => rw [hb] at h; cases h
      | true =>
        rw [hb] at h
        simp only [cond_true, Option.some.injEq] at h
        exact .inr ⟨by simpa using hn, blt_lt hb, h.symm⟩
  have H3 : LkR μ ν ρ2 ρ' := by
    refine ⟨fun i a hi => ?_, fun i x a s hx ha hs => ?_⟩
    · rcases hνc i a hi with h1 | ⟨h1, h2, _⟩
      · have := (List.getElem?_eq_some_iff.1 h1).1
        exact ⟨i, hμlt i (by omega)⟩
      · have hjl : i - e.objs.length < nm.length := by omega
        exact ⟨nm[i - e.objs.length], by rw [hμge i (by omega)]; exact List.getElem?_eq_getElem hjl⟩
    · rcases hνc i a ha with h1 | ⟨h1, h2, rfl⟩
      · have hil := (List.getElem?_eq_some_iff.1 h1).1
        rw [hμlt i (by omega)] at hx
        cases hx
        obtain ⟨s', o, k1, k2, k3, _⟩ := hk2 i a h1
        rw [hs] at k3; cases k3
        exact ⟨s, hsub a s k2, ⟨rfl, rfl, rfl, rfl, rfl, rfl⟩⟩
      · rw [hμge i (by omega)] at hx
        refine ⟨s, ?_, ⟨rfl, rfl, rfl, rfl, rfl, rfl⟩⟩
        rw [hkl, hρn _ x hx]; exact hs
  have H2 : LkR (lkN 0 e.objs.length) (lkK keep) ρ2 ρ' := by
    refine ⟨fun i a hi => ?_, fun i x a s hx ha hs => ?_⟩
    · have hi : keep[i]? = some a := hi
      have := (List.getElem?_eq_some_iff.1 hi).1
      exact ⟨i, lkN0_of (by omega)⟩
    · obtain ⟨_, rfl⟩ := lkN0 hx
      have ha : keep[x]? = some a := ha
      obtain ⟨s', o, k1, k2, k3, _⟩ := hk2 x a ha
      rw [hs] at k3; cases k3
      exact ⟨s, hsub a s k2, ⟨rfl, rfl, rfl, rfl, rfl, rfl⟩⟩
  have hold : ∀ a o, st'.h.get a = some o → (¬ (st.next ≤ a ∧ a < st.next + e.news.length) ∧ st.h.get a = some o ∧ ρ' a = ρ a) ∨ ∃ j x o0, a = st.next + j ∧ nm[j]? = some x ∧ e.news[j]? = some o0 ∧ o = bkO ν o0 ∧ ρ' a = ρ2 x ∧ g2 x = some (bkO μ o0) := fun a o ha => by
    rw [hsg a] at ha
    by_cases hr : st.next ≤ a ∧ a < st.next + e.news.length
    · rw [if_pos hr] at ha
      obtain ⟨j, x, h1, h2, h3⟩ := hin a hr
      subst h1
      rw [show st.next + j - st.next = j by omega] at ha
      cases ho : e.news[j]? with
      | none => rw [ho] at ha; cases ha
      | some o0 =>
        rw [ho] at ha
        simp only [Option.map_some, Option.some.injEq] at ha
        obtain ⟨x', q1, q2⟩ := hnew j o0 ho
        rw [h2] at q1; cases q1
        exact .inr ⟨j, x, o0, rfl, h2, ho, ha.symm, h3, q2⟩
    · rw [if_neg hr] at ha
      exact .inl ⟨hr, ha, hρo a hr⟩
  have hframe : ∀ b, b < w.heap.size → ¬ Own st.h.get ρ b → w'.heap[b]? = w.heap[b]? := fun b hb hno => M.frm b hb fun h => hno (hownC b h)
  -- a block of a kept one is its own behind it, too
  have hkown : ∀ b, Own (mem0 e).h.get ρC b → ∃ i o s, e.objs[i]? = some o ∧ ρ2 i = some s ∧ g2 i = some (bkO (lkN 0 e.objs.length) o) ∧ i < e.objs.length ∧ s.void = false ∧ s.blk = b := fun b ⟨i, o', s, e1, e0, e2, e3, e4⟩ => by
    obtain ⟨o, x, h1, rfl, h3, h4⟩ := hgC i o' e1
    exact ⟨i, o, s, h1, M.ext i s e2, hsame i o h1, (List.getElem?_eq_some_iff.1 h1).1, e3, e4⟩
  have hnewblk : ∀ (j x : Nat) (o0 : AObj) (s : Spot), nm[j]? = some x → e.news[j]? = some o0 → ρ2 x = some s → s.void = false → w.heap.size ≤ s.blk := fun j x o0 s h1 h2 h3 h4 => by
    obtain ⟨x', q1, q2⟩ := hnew j o0 h2
    rw [h1] at q1; cases q1
    rcases M.own s.blk ⟨x, _, s, q2, bkO_isOwn (hcn' j o0 h2), h3, h4, rfl⟩ with h5 | h5
    · exact h5
    · exfalso
      obtain ⟨i, o, s2, k1, k2, k3, k4, k5, k6⟩ := hkown s.blk h5
      have := M.wr.inj x i _ _ s s2 q2 k3 (.inl (bkO_isOwn (hcn' j o0 h2))) h3 k2 h4 k5 k6.symm
      subst this
      have := nm3 x (List.mem_of_getElem? h1)
      omega
  have hown : ∀ b, Own st'.h.get ρ' b → w.heap.size ≤ b ∨ Own st.h.get ρ b := fun b ⟨a, o, s, e1, e0, e2, e3, e4⟩ => by
    rcases hold a o e1 with ⟨_, h2, h3⟩ | ⟨j, x, o0, _, h2, h3, rfl, h4, h5⟩
    · exact .inr ⟨a, o, s, h2, e0, by rw [← h3]; exact e2, e3, e4⟩
    · rw [h4] at e2
      rw [← e4]
      exact .inl (hnewblk j x o0 s h2 h3 e2 e3)
  have hfz : ∀ b, Frz ρ' b → Frz ρ b ∨ Frz ρ2 b := fun b ⟨a, t, h1, h2⟩ => by
    by_cases hr : st.next ≤ a ∧ a < st.next + e.news.length
    · obtain ⟨j, x, _, _, h5⟩ := hin a hr
      rw [h5] at h1
      exact .inr ⟨x, t, h1, h2⟩
    · rw [hρo a hr] at h1
      exact .inl ⟨a, t, h1, h2⟩
  have hkeepF : ∀ b, Frz ρ b → w'.heap[b]? = w.heap[b]? := fun b hb => hframe b (hw.fz b hb).1 (hw.fz b hb).2
  refine ⟨ρ', ⟨v', rfl, bkX_VR H3 hv'⟩, ⟨by omega, hsub, fun a s ha => ?_, M.size, hframe, hown, M.os, M.tape, M.output, ⟨fun a s ha hs => ?_, fun a o ha => ?_, fun a b oa ob sa sb ea eb eo ra rb va vb heq => ?_, fun b hb => ?_, ?_⟩, fun a o ha => ?_, fun a o ha ho => ?_, fun b hb => ?_⟩⟩
  · by_cases hr : st.next ≤ a ∧ a < st.next + e.news.length
    · exact .inr hr
    · rw [hρo a hr] at ha; exact .inl ha
  · by_cases hr : st.next ≤ a ∧ a < st.next + e.news.length
    · obtain ⟨j, x, _, _, h5⟩ := hin a hr
      rw [h5] at ha
      exact M.wr.blk x s ha hs
    · rw [hρo a hr] at ha
      exact Nat.lt_of_lt_of_le (hw.blk a s ha hs) M.size
  · rcases hold a o ha with ⟨hr, h2, h3⟩ | ⟨j, x, o0, _, h2, h3, rfl, h4, h5⟩
    · by_cases hka : a ∈ keep
      · obtain ⟨i, hi⟩ := List.getElem?_of_mem hka
        obtain ⟨s, o0, k1, k2, k3, _, k5, k6⟩ := hk2 i a hi
        rw [h2] at k6; cases k6
        obtain ⟨s2, m1, m2⟩ := M.wr.obj i _ k5
        rw [k3] at m1; cases m1
        exact ⟨s, hsub a s k2, bkO_cells H2 (hco' i o0 k1) m2⟩
      · obtain ⟨s, k1, k2⟩ := hw.obj a o h2
        refine ⟨s, hsub a s k1, k2.kept hsub (fun hv => M.frm _ (hw.blk a s k1 hv) fun ⟨i, o', s2, e1, e0, e2, e3, e4⟩ => ?_) hkeepF⟩
        obtain ⟨o1, y, l1, rfl, l3, l4⟩ := hgC i o' e1
        have := hw.inj a y o _ s s2 h2 l4 (.inr (bkO_isOwn (hco' i o1 l1))) k1 (by rw [← hCof i y l3]; exact e2) hv e3 e4.symm
        subst this
        exact hka (List.mem_of_getElem? l3)
    · obtain ⟨s, k1, k2⟩ := M.wr.obj x _ h5
      exact ⟨s, by rw [h4]; exact k1, bkO_cells H3 (hcn' j o0 h3) k2⟩
  · rcases hold a oa ea with ⟨ha1, ha2, ha3⟩ | ⟨j, x, o0, rfl, ha2, ha3, rfl, ha4, ha5⟩
    · rcases hold b ob eb with ⟨hb1, hb2, hb3⟩ | ⟨k, y, o1, rfl, hb2, hb3, rfl, hb4, hb5⟩
      · exact hw.inj a b oa ob sa sb ha2 hb2 eo (by rw [← ha3]; exact ra) (by rw [← hb3]; exact rb) va vb heq
      · exfalso
        have h1 := hnewblk k y o1 sb hb2 hb3 (by rw [← hb4]; exact rb) vb
        have h2 := hw.blk a sa (by rw [← ha3]; exact ra) va
        omega
    · rcases hold b ob eb with ⟨hb1, hb2, hb3⟩ | ⟨k, y, o1, rfl, hb2, hb3, rfl, hb4, hb5⟩
      · exfalso
        have h1 := hnewblk j x o0 sa ha2 ha3 (by rw [← ha4]; exact ra) va
        have h2 := hw.blk b sb (by rw [← hb3]; exact rb) vb
        omega
      · have hxy := M.wr.inj x y _ _ sa sb ha5 hb5 (.inl (bkO_isOwn (hcn' j o0 ha3))) (by rw [← ha4]; exact ra) (by rw [← hb4]; exact rb) va vb heq
        subst hxy
        obtain ⟨hi1, hi2⟩ := List.getElem?_eq_some_iff.1 ha2
        obtain ⟨hj1, hj2⟩ := List.getElem?_eq_some_iff.1 hb2
        have hpw := List.pairwise_iff_getElem.1 nm2
        rcases Nat.lt_trichotomy j k with hlt | hlt | hlt
        · exact absurd (hi2.trans hj2.symm) (hpw j k hi1 hj1 hlt)
        · rw [hlt]
        · exact absurd (hj2.trans hi2.symm) (hpw k j hj1 hi1 hlt)
  · rcases hfz b hb with h1 | h1
    · have h2 := hw.fz b h1
      refine ⟨Nat.lt_of_lt_of_le h2.1 M.size, fun h3 => ?_⟩
      rcases hown b h3 with h4 | h4
      · omega
      · exact h2.2 h4
    · have h2 := M.wr.fz b h1
      refine ⟨h2.1, fun ⟨a, o, s, e1, e0, e2, e3, e4⟩ => ?_⟩
      rcases hold a o e1 with ⟨hr, k2, k3⟩ | ⟨j, x, o0, _, k2, k3, rfl, k4, k5⟩
      · have hb1 : b < w.heap.size := by rw [← e4]; exact hw.blk a s (by rw [← k3]; exact e2) e3
        have hkept : Own (mem0 e).h.get ρC b → False := fun h => by
          obtain ⟨i, o1, s2, l1, l2, l3, _, l5, l6⟩ := hkown b h
          exact h2.2 ⟨i, _, s2, l3, bkO_isOwn (hco' i o1 l1), l2, l5, l6⟩
        rcases M.fzn b h1 with h5 | h5 | h5
        · exact (hw.fz b (hfzC b h5)).2 ⟨a, o, s, k2, e0, by rw [← k3]; exact e2, e3, e4⟩
        · omega
        · exact hkept h5
      · exact h2.2 ⟨x, _, s, k5, bkO_isOwn (hcn' j o0 k3), by rw [← k4]; exact e2, e3, e4⟩
  · exact gl_keep hw M.size hframe hown
  · rcases hold a o ha with ⟨_, h2, _⟩ | ⟨j, x, o0, rfl, h2, h3, _⟩
    · exact .inl ⟨o, h2⟩
    · have hjl := (List.getElem?_eq_some_iff.1 h3).1
      exact .inr ⟨by omega, by omega⟩
  · rcases hold a o ha with ⟨_, h2, _⟩ | ⟨j, x, o0, rfl, h2, h3, rfl, _⟩
    · exact .inl h2
    · rw [bkO_isOwn (hcn' j o0 h3)] at ho; cases ho
  · rcases hfz b hb with h1 | h1
    · exact .inl h1
    · rcases M.fzn b h1 with h5 | h5 | h5
      · exact .inl (hfzC b h5)
      · exact .inr (.inl h5)
      · exact .inr (.inr (hownC b h5))
/-- the run of it at one place -/
noncomputable def mpB (P : Program) (C : Told) (g : FuncId) (e : MPt) (nm : List Nat) : Bool := match funF P C 100000 100 g (args0M e) (mem0 e) with
  | .ok (.returned v, st) => sameX v (bkX (lkAt e.objs.length nm) e.ret) && nodupC nm && nm.all (fun x => Nat.ble e.objs.length x) && objsB (lkAt e.objs.length nm) st.h nm e.news && objsB (lkN 0 e.objs.length) st.h (List.range e.objs.length) e.objs && e.objs.all isCells && e.news.all isCells
  | _ => false
theorem mp_ok {P : Program} {C : Told} (hm : P.follows .mixedOrders = true) (hC : ToldS P C) {g : FuncId} {e : MPt} {nm : List Nat} (h : mpB P C g e nm = true) : e.objs.all isCells = true ∧ e.news.all isCells = true ∧ MpOk P g e := by
  unfold mpB at h
  rw [funF_eq] at h
  split at h
  · rename_i v st he
    simp only [Bool.and_eq_true] at h
    obtain ⟨⟨⟨⟨⟨⟨h1, h2⟩, h3⟩, h4⟩, h5⟩, h6⟩, h7⟩ := h
    have hv := sameX_eq h1
    subst hv
    obtain ⟨k1, k2⟩ := objsB_spec h4
    obtain ⟨l1, l2⟩ := objsB_spec h5
    refine ⟨h6, h7, fun w ρ args' hw hva hfr => ?_⟩
    have hn : (mem0 e).next = e.objs.length := by
      have := (newUps_get (μ := lkN 0 e.objs.length) (l := e.objs) (st := st0) (x := 0)).2
      show (mem0 e).next = _
      unfold mem0
      rw [this]
      show 0 + e.objs.length = _
      omega
    have hwf : Wf (mem0 e) := fun x o hx => by
      rw [hn]
      rw [mem0_get] at hx
      cases ho : e.objs[x]? with
      | none => rw [ho] at hx; cases hx
      | some o' => exact (List.getElem?_eq_some_iff.1 ho).1
    obtain ⟨_, h8⟩ := evFunC_sound hm hC 100000 100 g (args0M e) (mem0 e) _ st hwf he
    refine (h8 ρ w args' hva hw (fun x hx _ => hfr x (by omega))).mono fun q w' hq => ?_
    obtain ⟨ρ', ⟨v', e1, hv'⟩, hmv⟩ := hq
    rw [hn] at hmv
    refine ⟨ρ', st.h.get, st.next, nm, k1, nodupC_spec h2, fun x hx => ?_, ⟨v', e1, hv'⟩, hmv, fun i o ho => ?_, k2⟩
    · rw [List.all_eq_true] at h3
      exact ble_le (h3 x hx)
    · obtain ⟨x, m1, m2⟩ := l2 i o ho
      have : x = i := by
        rw [List.getElem?_range (by have := (List.getElem?_eq_some_iff.1 ho).1; omega)] at m1
        exact (Option.some.inj m1).symm
      subst this
      exact m2
  · cases h
noncomputable def Told.mp (C : Told) (g : FuncId) (tab : List MPt) (ix : Nat → Nat) : Told := fun f => cond (Nat.beq f g) (some (mpC tab ix)) (C f)
theorem Told.mp_ok {P : Program} {C : Told} (hC : ToldS P C) {g : FuncId} {tab : List MPt} (ix : Nat → Nat) (h : ∀ e ∈ tab, e.objs.all isCells = true ∧ e.news.all isCells = true ∧ MpOk P g e) : ToldS P (C.mp g tab ix) := by
  intro f c hc
  unfold Told.mp at hc
  cases hb : Nat.beq f g with
  | true =>
    rw [hb] at hc
    have := Nat.eq_of_beq_eq_true hb
    subst this
    cases hc
    exact mp_told h
  | false => rw [hb] at hc; exact hC f c hc
end Go.Proofs.YtpbnlbbieaokoaaGreatDoor.Ev
