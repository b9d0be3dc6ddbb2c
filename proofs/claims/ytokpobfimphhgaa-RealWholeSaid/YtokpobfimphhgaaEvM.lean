/-
  What the evaluator says of single operations holds of their runs: memory.
-/
import Derived.Test.YtokpobfimphhgaaEvP
set_option linter.unusedVariables false
set_option linter.unusedSimpArgs false
namespace Go.Proofs.Ytokpobfimphhgaa.Ev
open Go

theorem cell_row {w : World} {b : Nat} {C : Array Value} {t : TypeId} {fr : Nat × Nat} (h : w.heap[b]? = some (.cells C t fr)) (o : Nat) : w.cell? ⟨b, o, none⟩ = C[o]? := by simp [World.cell?, h]
theorem frozen_row {w : World} {b : Nat} {C : Array Value} {t : TypeId} {fr : Nat × Nat} (h : w.heap[b]? = some (.cells C t fr)) (o : Nat) : w.frozen? ⟨b, o, none⟩ = (decide (fr.1 ≤ o) && decide (o < fr.2)) := by
  obtain ⟨lo, hi⟩ := fr
  simp [World.frozen?, h]
theorem run_storeCells_row (P : Program) (b o : Nat) (t : TypeId) (fr : Nat × Nat) : ∀ (vs : List Value) (i : Nat) (C : Array Value) (w : World), w.heap[b]? = some (.cells C t fr) → (∀ k, k < C.size → ¬ (fr.1 ≤ k ∧ k < fr.2)) → o + i + vs.length ≤ C.size →
    (∀ v ∈ vs, v.oneCell' = true) → ∃ C' w', (storeCells ⟨b, o, none⟩ vs i).run P w = .ok () w' ∧ w'.heap[b]? = some (.cells C' t fr) ∧ C'.size = C.size ∧
      (∀ k, C'[k]? = if o + i ≤ k ∧ k < o + i + vs.length then vs[k - (o + i)]? else C[k]?) ∧ w'.heap.size = w.heap.size ∧ (∀ b', b' ≠ b → w'.heap[b']? = w.heap[b']?) ∧ w'.os = w.os ∧ w'.tape = w.tape ∧ w'.output = w.output := by
  intro vs
  induction vs with
  | nil =>
    intro i C w hb hfr hl h1
    exact ⟨C, w, rfl, hb, rfl, fun k => by rw [if_neg (by simp)], rfl, fun _ _ => rfl, rfl, rfl, rfl⟩
  | cons v vs ih =>
    intro i C w hb hfr hl h1
    simp only [List.length_cons] at hl
    have hv := h1 v (by simp)
    have hlt : o + i < C.size := by omega
    have hc : w.cell? ⟨b, o + i, none⟩ = some C[o + i] := by rw [cell_row hb]; simp [hlt]
    have hz : w.frozen? ⟨b, o + i, none⟩ = false := by
      rw [frozen_row hb]
      have := hfr (o + i) hlt
      cases h2 : decide (fr.1 ≤ o + i) <;> simp
      simp at h2; omega
    have hs : (store ((⟨b, o, none⟩ : Addr).add i) v).run P w = .ok () (w.setCell ⟨b, o + i, none⟩ v) := by
      rw [add_at, run_store P w _ v _ hv, hc]
      simp [hz]
    have hb' : (w.setCell ⟨b, o + i, none⟩ v).heap[b]? = some (.cells (C.setIfInBounds (o + i) v) t fr) := by
      simp [World.setCell, Array.getElem?_modify, hb]
    obtain ⟨C', w', e1, e2, e3, e4, e5, e6, e7, e8, e9⟩ := ih (i + 1) (C.setIfInBounds (o + i) v) (w.setCell ⟨b, o + i, none⟩ v) hb' (by intro k hk; exact hfr k (by simpa using hk)) (by simp; omega) (fun u hu => h1 u (by simp [hu]))
    refine ⟨C', w', ?_, e2, by simpa using e3, fun k => ?_, by rw [e5]; simp [World.setCell], fun b' hne => ?_, e7, e8, e9⟩
    · simp only [storeCells, Sem.run_bind, hs, Result.andThen_ok]; exact e1
    · rw [e4]
      by_cases hk : k = o + i
      · subst hk
        rw [if_neg (by omega), if_pos (by simp)]
        simp [hlt]
      · by_cases hk2 : o + (i + 1) ≤ k ∧ k < o + (i + 1) + vs.length
        · rw [if_pos hk2, if_pos (by simp; omega)]
          rw [show k - (o + i) = (k - (o + (i + 1))) + 1 by omega]
          simp
        · rw [if_neg hk2, if_neg (by simp; omega), Array.getElem?_setIfInBounds_ne (by omega)]
    · rw [e6 b' hne]
      simp only [World.setCell, Array.getElem?_modify]
      rw [if_neg (by omega)]

/-- some elements of a row -/
theorem rows_rel {w : World} {ρ : Rho} {s : Spot} {es lo m : Nat} {elem : Nat → List Value} (hes : s.es = es) (ho : ∀ (i : Nat), lo ≤ i → i < m → (elem i).length = es ∧ ∀ (j : Nat) (x : Value), (elem i)[j]? = some x → ∃ y, w.cell? ⟨s.blk, s.base + i * s.es + j, none⟩ = some y ∧ y.oneCell' = true ∧ VR ρ x y) :
    ∀ (c i : Nat) (l : List Value), lo ≤ i → i + c ≤ m → rowsL es elem i c = some l → ∃ l', VRL ρ l l' ∧ l'.length = c * es ∧ ∀ j v, l'[j]? = some v → w.cell? ⟨s.blk, s.base + i * s.es + j, none⟩ = some v := by
  intro c
  induction c with
  | zero => intro i l _ _ h; cases h; exact ⟨[], VRL.nil ρ, by simp, fun j v h => by simp at h⟩
  | succ c ih =>
    intro i l h1 h2 h
    unfold rowsL at h
    cases hb : Nat.beq (elem i).length es with
    | false => rw [hb] at h; cases h
    | true =>
      rw [hb] at h
      have hlen := Nat.eq_of_beq_eq_true hb
      simp only [cond_true] at h
      split at h
      · rename_i r hr
        cases h
        obtain ⟨r', q1, q2, q3⟩ := ih (i + 1) r (by omega) (by omega) hr
        have hsel : ∀ j, j < es → ∃ y, w.cell? ⟨s.blk, s.base + i * s.es + j, none⟩ = some y ∧ ∀ x, (elem i)[j]? = some x → VR ρ x y := by
          intro j hj
          have hlt : j < (elem i).length := by omega
          obtain ⟨y, hy, _, hv⟩ := (ho i h1 (by omega)).2 j _ (List.getElem?_eq_getElem hlt)
          refine ⟨y, hy, fun x hx => ?_⟩
          rw [List.getElem?_eq_getElem hlt] at hx
          cases hx; exact hv
        let e' := (List.range es).map fun j => (w.cell? ⟨s.blk, s.base + i * s.es + j, none⟩).getD undef
        have he' : ∀ j y, e'[j]? = some y → j < es ∧ w.cell? ⟨s.blk, s.base + i * s.es + j, none⟩ = some y := by
          intro j y hy
          have hj : j < es := by have := (List.getElem?_eq_some_iff.1 hy).1; simpa [e'] using this
          refine ⟨hj, ?_⟩
          simp only [e', List.getElem?_map, List.getElem?_range hj, Option.map_some, Option.some.injEq] at hy
          obtain ⟨y', hy', _⟩ := hsel j hj
          rw [hy'] at hy ⊢
          simp at hy; rw [hy]
        have hle : e'.length = es := by simp [e']
        refine ⟨e' ++ r', VRL.append ⟨by rw [hle, hlen], fun j x y hx hy => ?_⟩ q1, by rw [List.length_append, hle, q2, Nat.add_mul]; omega, fun j v hv => ?_⟩
        · obtain ⟨hj, hy⟩ := he' j y hy
          obtain ⟨y', hy', hv⟩ := hsel j hj
          rw [hy] at hy'; cases hy'
          exact hv x hx
        · rcases Nat.lt_or_ge j es with hj | hj
          · rw [List.getElem?_append_left (by omega)] at hv
            exact (he' j v hv).2
          · rw [List.getElem?_append_right (by omega), hle] at hv
            have := q3 (j - es) v hv
            rw [show s.base + (i + 1) * s.es + (j - es) = s.base + i * s.es + j by rw [Nat.add_mul, hes]; omega] at this
            exact this
      · cases h
/-- what is read -/
theorem read_rel {st : ASt} {a : Addr} {n : Nat} {l : List Value} {ρ : Rho} {w : World} {s : Spot} (h : st.read a n = .ok l) (hw : WR ρ st.h.get w) (hs : ρ a.block = some s) :
    ∃ l', VRL ρ l l' ∧ l'.length = n ∧ ∀ j v, l'[j]? = some v → w.cell? ((⟨s.blk, locOf s a, none⟩ : Addr).add j) = some v := by
  unfold ASt.read at h
  split at h
  · rename_i cs ex es hg
    split at h
    · rename_i hsp
      have hloc : locOf s a = s.base + a.off := by unfold locOf; rw [hsp]
      rw [hloc]
      have h1 := of_ok h
      obtain ⟨h2, h3⟩ := takeL_some h1
      rw [dropL_eq] at h2 h3
      obtain ⟨s', e1, e2⟩ := hw.obj _ _ hg
      rw [hs] at e1; cases e1
      obtain ⟨_, _, _, C, t, fr, e3, e4, e5, e6, e7⟩ := e2
      simp only [List.length_drop] at h2
      have hlen : ((C.toList.drop (s.base + a.off)).take n).length = n := by simp; omega
      refine ⟨(C.toList.drop (s.base + a.off)).take n, ⟨by rw [hlen, h3]; simp; omega, fun i x y hx hy => ?_⟩, hlen, fun j v hv => ?_⟩
      · rw [h3] at hx
        rw [List.getElem?_take] at hx hy
        split at hx
        · rename_i hi
          rw [if_pos hi] at hy
          simp only [List.getElem?_drop] at hx hy
          obtain ⟨y', e8, e9⟩ := e7 _ x hx
          have : y = y' := by
            rw [Array.getElem?_toList, show s.base + a.off + i = s.base + (a.off + i) by omega, e8] at hy
            cases hy; rfl
          subst this; exact e9
        · cases hx
      · rw [List.getElem?_take] at hv
        split at hv
        · simp only [List.getElem?_drop, Array.getElem?_toList] at hv
          rw [add_at, cell_row e3]; exact hv
        · cases hv
    · cases h
  · rename_i own es lo m elem hg
    split at h
    · rename_i i hsp
      have hloc : locOf s a = s.base + i * s.es + a.off := by unfold locOf; rw [hsp]
      rw [hloc]
      cases hmul : (Nat.beq a.off 0 && Nat.blt es n) with
      | true =>
        rw [hmul] at h
        simp only [cond_true] at h
        obtain ⟨hc, h⟩ := cond_ok h
        simp only [Bool.and_eq_true] at hc hmul
        have hoff : a.off = 0 := Nat.eq_of_beq_eq_true hmul.1
        have h1 := of_ok h
        obtain ⟨s', e1, e2, _, _, e3⟩ := hw.obj _ _ hg
        rw [hs] at e1; cases e1
        obtain ⟨l', q1, q2, q3⟩ := rows_rel e2 e3 (n / es) i l (Nat.le_of_ble_eq_true hc.1.1) (Nat.le_of_ble_eq_true hc.1.2) h1
        refine ⟨l', q1, by rw [q2]; exact Nat.eq_of_beq_eq_true hc.2, fun j v hv => ?_⟩
        rw [add_at, hoff, Nat.add_zero]
        exact q3 j v hv
      | false =>
      rw [hmul] at h
      simp only [cond_false] at h
      obtain ⟨hc, h⟩ := cond_ok h
      simp only [Bool.and_eq_true] at hc
      have hlo : lo ≤ i := Nat.le_of_ble_eq_true hc.1
      have hhi : i < m := by simpa using hc.2
      have h1 := of_ok h
      obtain ⟨h2, h3⟩ := takeL_some h1
      rw [dropL_eq] at h2 h3
      simp only [List.length_drop] at h2
      obtain ⟨s', e1, e2, _, _, e3⟩ := hw.obj _ _ hg
      rw [hs] at e1; cases e1
      have hsel : ∀ j, j < n → ∃ y, w.cell? ⟨s.blk, s.base + i * s.es + (a.off + j), none⟩ = some y ∧ ∀ x, l[j]? = some x → VR ρ x y := by
        intro j hj
        have hlt : a.off + j < (elem i).length := by omega
        obtain ⟨y, hy, _, hv⟩ := (e3 i hlo hhi).2 (a.off + j) _ (List.getElem?_eq_getElem hlt)
        refine ⟨y, hy, fun x hx => ?_⟩
        rw [h3, List.getElem?_take, if_pos hj, List.getElem?_drop, List.getElem?_eq_getElem hlt] at hx
        cases hx; exact hv
      have hll : l.length = n := by rw [h3]; simp; omega
      let l' := (List.range n).map fun j => (w.cell? ⟨s.blk, s.base + i * s.es + (a.off + j), none⟩).getD undef
      have hl' : ∀ j y, l'[j]? = some y → j < n ∧ w.cell? ⟨s.blk, s.base + i * s.es + (a.off + j), none⟩ = some y := by
        intro j y hy
        have hj : j < n := by have := (List.getElem?_eq_some_iff.1 hy).1; simpa [l'] using this
        refine ⟨hj, ?_⟩
        simp only [l', List.getElem?_map, List.getElem?_range hj, Option.map_some, Option.some.injEq] at hy
        obtain ⟨y', hy', _⟩ := hsel j hj
        rw [hy'] at hy ⊢
        simp at hy; rw [hy]
      refine ⟨l', ⟨by simp [l', hll], fun j x y hx hy => ?_⟩, by simp [l'], fun j v hv => ?_⟩
      · obtain ⟨hj, hy⟩ := hl' j y hy
        obtain ⟨y', hy', hv⟩ := hsel j hj
        rw [hy] at hy'; cases hy'
        exact hv x hx
      · rw [add_at, Nat.add_assoc]; exact (hl' j v hv).2
    · cases h
  · cases h
/-- one of two that a truth tells -/
theorem sameKd_eq {k k' : IntKind} (h : sameKd k k' = true) : k = k' := by cases k <;> cases k' <;> first | rfl | cases h
theorem sameFk_eq {k k' : FloatKind} (h : sameFk k k' = true) : k = k' := by cases k <;> cases k' <;> first | rfl | cases h
theorem mrgV_true {ρ : Rho} {v w y : Value} (h : VR ρ v y) : VR ρ (mrgV true v w) y := by
  unfold mrgV
  split
  · rename_i k n k' m
    cases hk : sameKd k k' with
    | true => exact h
    | false => exact .any _
  · exact h
  · rename_i k x k' y'
    cases hk : sameFk k k' with
    | true => exact h
    | false => exact .any _
  · exact h
  · exact h
theorem mrgV_false {ρ : Rho} {v w y : Value} (h : VR ρ w y) : VR ρ (mrgV false v w) y := by
  unfold mrgV
  split
  · rename_i k n k' m
    cases hk : sameKd k k' with
    | true => have := sameKd_eq hk; subst this; exact h
    | false => exact .any _
  · exact h
  · rename_i k x k' y'
    cases hk : sameFk k k' with
    | true => have := sameFk_eq hk; subst this; exact h
    | false => exact .any _
  · exact h
  · exact h
theorem mrgL_true : ∀ {l m : List Value}, (mrgL true l m).length = l.length ∧ ∀ (j : Nat) (x : Value), (mrgL true l m)[j]? = some x → ∃ v, l[j]? = some v ∧ ∀ ρ y, VR ρ v y → VR ρ x y := by
  intro l
  induction l with
  | nil => intro m; cases m <;> exact ⟨rfl, fun j x h => by simp [mrgL] at h⟩
  | cons v l ih =>
    intro m
    cases m with
    | nil => exact ⟨rfl, fun j x h => ⟨x, h, fun _ _ h => h⟩⟩
    | cons w m =>
      refine ⟨by simp [mrgL, (ih (m := m)).1], fun j x h => ?_⟩
      cases j with
      | zero => simp [mrgL] at h; subst h; exact ⟨v, rfl, fun ρ y h => mrgV_true h⟩
      | succ j => simp only [mrgL, List.getElem?_cons_succ] at h ⊢; exact (ih (m := m)).2 j x h
theorem mrgL_false : ∀ {l m : List Value}, (mrgL false l m).length = m.length ∧ ∀ (j : Nat) (x : Value), (mrgL false l m)[j]? = some x → ∃ v, m[j]? = some v ∧ ∀ ρ y, VR ρ v y → VR ρ x y := by
  intro l
  induction l with
  | nil => intro m; cases m <;> exact ⟨rfl, fun j x h => ⟨x, h, fun _ _ h => h⟩⟩
  | cons v l ih =>
    intro m
    cases m with
    | nil => exact ⟨rfl, fun j x h => by simp [mrgL] at h⟩
    | cons w m =>
      refine ⟨by simp [mrgL, (ih (m := m)).1], fun j x h => ?_⟩
      cases j with
      | zero => simp [mrgL] at h; subst h; exact ⟨w, rfl, fun ρ y h => mrgV_false h⟩
      | succ j => simp only [mrgL, List.getElem?_cons_succ] at h ⊢; exact (ih (m := m)).2 j x h
/-- what is written -/
theorem write_rel {P : Program} {st st' : ASt} {a : Addr} {vs vs' : List Value} {ρ : Rho} {w : World} {s : Spot} (h : st.write a vs = .ok st') (hw : WR ρ st.h.get w) (hs : ρ a.block = some s) (hv : VRL ρ vs vs') (h1 : ∀ v ∈ vs', v.oneCell' = true) :
    ∃ w', (storeCells ⟨s.blk, locOf s a, none⟩ vs' 0).run P w = .ok () w' ∧ Mv ρ ρ st.h.get st'.h.get st.next st'.next w w' := by
  unfold ASt.write at h
  split at h
  · rename_i cs ex es hg
    split at h
    · rename_i cs' hsp hlay
      have hloc : locOf s a = s.base + a.off := by unfold locOf; rw [hsp]
      rw [hloc]
      obtain ⟨_, h2⟩ := cond_ok h
      cases h2
      obtain ⟨l1, l2, l3⟩ := layL_some hlay
      obtain ⟨s', e1, e2⟩ := hw.obj _ _ hg
      rw [hs] at e1; cases e1
      obtain ⟨x0, x1, x2, C, t, fr, e3, e4, e5, e6, e7⟩ := e2
      have hb : s.base + a.off + 0 + vs'.length ≤ C.size ∨ vs' = [] := by
        cases vs' with
        | nil => exact .inr rfl
        | cons v l =>
          left
          have := l2 (by intro e; have := hv.1; simp [e] at this)
          have := hv.1
          omega
      rcases hb with hb | hb
      · obtain ⟨C', w', k1, k2, k3, k4, k5, k6, k7, k8, k9⟩ := run_storeCells_row P s.blk (s.base + a.off) t fr vs' 0 C w e3 e5.free hb h1
        refine ⟨w', k1, ?_⟩
        have : (st.set a.block (some (.cells cs' ex es))).h.get = upd st.h.get a.block (some (.cells cs' ex es)) := by simp [ASt.set, set_get]
        rw [this]
        refine Mv.write _ hw hg rfl hs x0 _ rfl ⟨x0, x1, x2, C', t, fr, k2, k3.trans e4, by rw [k3]; exact e5, by rw [l1]; exact e6, fun i x hx => ?_⟩ k5 k6 k7 k8 k9
        rw [l3] at hx
        rw [k4]
        simp only [Nat.add_zero]
        have := hv.1
        by_cases hi : a.off ≤ i ∧ i < a.off + vs.length
        · rw [if_pos hi] at hx
          obtain ⟨y, hy, hxy⟩ := hv.get hx
          rw [if_pos (by omega), show s.base + i - (s.base + a.off) = i - a.off by omega]
          exact ⟨y, hy, hxy⟩
        · rw [if_neg hi] at hx
          rw [if_neg (by omega)]
          exact e7 i x hx
      · subst hb
        have hvs : vs = [] := List.eq_nil_of_length_eq_zero (by have := hv.1; simpa using this)
        refine ⟨w, rfl, ?_⟩
        have hcs : cs' = cs := by
          apply List.ext_getElem?
          intro i; rw [l3, if_neg (by rw [hvs]; simp)]
        have : (st.set a.block (some (.cells cs' ex es))).h.get = st.h.get := by
          funext x
          simp only [ASt.set, set_get]
          by_cases hx : x = a.block
          · subst hx; rw [upd_same, hcs, hg]
          · rw [upd_ne _ _ hx]
        rw [this]
        exact Mv.refl hw _
    · cases h
  · rename_i es lo n elem hg
    split at h
    · rename_i i v0 vs0 hsp
      split at h
      · rename_i e' hlay
        have hloc : locOf s a = s.base + i * s.es + a.off := by unfold locOf; rw [hsp]
        rw [hloc]
        obtain ⟨_, h2⟩ := cond_ok h
        obtain ⟨hin, h2⟩ := cond_ok h2
        have hin : i < n := by simpa using hin
        cases h2
        obtain ⟨l1, l2, l3⟩ := layL_some hlay
        have l2 := l2 (by simp)
        obtain ⟨s', e1, e2⟩ := hw.obj _ _ hg
        rw [hs] at e1; cases e1
        obtain ⟨x1, x2, x3, x4⟩ := e2
        obtain ⟨y1, y2, y3⟩ := x3 rfl
        have hvoid : s.void = false := by
          cases hq : s.void with
          | false => rfl
          | true => have := x2 hq; omega
        obtain ⟨C, t, fr, e3, e4, e5, e6⟩ := y3 hvoid
        have hle := (x4 i (by omega) hin).1
        have hlv := hv.1
        have hmul : ∀ p q : Nat, p < q → p * es + es ≤ q * es := fun p q hpq => by
          have := Nat.mul_le_mul_right es (Nat.succ_le_of_lt hpq)
          rw [Nat.succ_mul] at this; exact this
        have hi1 := hmul i n hin
        rw [x1]
        obtain ⟨C', w', k1, k2, k3, k4, k5, k6, k7, k8, k9⟩ := run_storeCells_row P s.blk (s.base + i * es + a.off) t fr vs' 0 C w e3 e5.free (by omega) h1
        refine ⟨w', k1, ?_⟩
        have : (st.set a.block (some (.row true es lo n fun k => mrgL (Nat.beq k i) e' (elem k)))).h.get = upd st.h.get a.block (some (.row true es lo n fun k => mrgL (Nat.beq k i) e' (elem k))) := by simp [ASt.set, set_get]
        rw [this]
        refine Mv.write _ hw hg rfl hs hvoid _ rfl ⟨x1, x2, fun _ => ⟨y1, y2, fun _ => ⟨C', t, fr, k2, k3.trans e4, by rw [k3]; exact e5, e6⟩⟩, fun k hk1 hk2 => ?_⟩ k5 k6 k7 k8 k9
        have hk3 := hmul k n hk2
        by_cases hki : k = i
        · subst hki
          dsimp only
          rw [Nat.beq_refl]
          refine ⟨by rw [mrgL_true.1, l1, hle], fun j x hx => ?_⟩
          obtain ⟨v, hv1, hv2⟩ := mrgL_true.2 j x hx
          have hj : j < es := by have := (List.getElem?_eq_some_iff.1 hv1).1; omega
          rw [l3] at hv1
          rw [x1, cell_row k2, k4]
          by_cases hjj : a.off ≤ j ∧ j < a.off + (v0 :: vs0).length
          · rw [if_pos hjj] at hv1
            obtain ⟨y, hy, hxy⟩ := hv.get hv1
            rw [if_pos (by omega), show s.base + k * es + j - (s.base + k * es + a.off + 0) = j - a.off by omega]
            exact ⟨y, hy, h1 y (List.mem_of_getElem? hy), hv2 ρ y hxy⟩
          · rw [if_neg hjj] at hv1
            rw [if_neg (by omega)]
            obtain ⟨y, hy, h1c, hxy⟩ := (x4 k hk1 hk2).2 j v hv1
            rw [x1, cell_row e3] at hy
            exact ⟨y, hy, h1c, hv2 ρ y hxy⟩
        · have hb : Nat.beq k i = false := by
            cases hb : Nat.beq k i with
            | true => exact absurd (Nat.eq_of_beq_eq_true hb) hki
            | false => rfl
          dsimp only
          rw [hb]
          refine ⟨by rw [mrgL_false.1]; exact (x4 k hk1 hk2).1, fun j x hx => ?_⟩
          obtain ⟨v, hv1, hv2⟩ := mrgL_false.2 j x hx
          have hj : j < es := by have := (List.getElem?_eq_some_iff.1 hv1).1; have := (x4 k hk1 hk2).1; omega
          rw [x1, cell_row k2, k4]
          have hne : ¬ (s.base + i * es + a.off + 0 ≤ s.base + k * es + j ∧ s.base + k * es + j < s.base + i * es + a.off + 0 + vs'.length) := by
            rcases Nat.lt_or_gt_of_ne hki with h | h
            · have := hmul k i h; omega
            · have := hmul i k h; omega
          rw [if_neg hne]
          obtain ⟨y, hy, h1c, hxy⟩ := (x4 k hk1 hk2).2 j v hv1
          rw [x1, cell_row e3] at hy
          exact ⟨y, hy, h1c, hv2 ρ y hxy⟩
      · cases h
    · cases h
  · cases h
theorem write_lo {st st' : ASt} {a : Addr} {vs : List Value} (h : st.write a vs = .ok st') : LoS st st' := by
  unfold ASt.write at h
  split at h
  · rename_i cs ex es hg
    split at h
    · obtain ⟨_, h2⟩ := cond_ok h
      cases h2
      exact LoS.set _ _ _ (.inr ⟨_, hg⟩)
    · cases h
  · rename_i es lo n elem hg
    split at h
    · split at h
      · obtain ⟨_, h2⟩ := cond_ok h
        obtain ⟨_, h2⟩ := cond_ok h2
        cases h2
        exact LoS.set _ _ _ (.inr ⟨_, hg⟩)
      · cases h
    · cases h
  · cases h
theorem write_oneC {st st' : ASt} {a : Addr} {vs : List Value} (h : st.write a vs = .ok st') : vs.all oneC = true := by
  unfold ASt.write at h
  split at h
  · split at h
    · exact (cond_ok h).1
    · cases h
  · split at h
    · split at h
      · exact (cond_ok h).1
      · cases h
    · cases h
  · cases h

theorem op_load {P : Program} {o : Oper} {f : AFr} {st : ASt} {t : TypeId} {x : Operand} {a0 : Addr} {n : Nat} {l : List Value} {v : Value} (h : o.op = .load t x) (hx : f.ev x = .pointer (some a0)) (h1 : sizeL P t = .ok n) (h2 : st.read a0 n = .ok l)
    (h3 : shutL P t l = .ok v) : OpR P o f st (.val v st) :=
  OpR.quiet fun ρ w a hf hw => by
    have hc := hf.ev x
    rw [hx] at hc
    obtain ⟨s, e2, e3⟩ := hc.ptr_loc
    obtain ⟨l', r1, r2, r3⟩ := read_rel h2 hw e2
    rcases shutL_run h3 with ⟨h8, rfl⟩ | ⟨h8, rfl⟩
    · refine ⟨.agg l'.toArray, ?_, VR.agg' r1⟩
      have := run_loadCells_list (P := P) (w := w) ⟨s.blk, locOf s a0, none⟩ l' r3
      rw [r2] at this
      simp [execOp, h, e3, Instr.loadAt, Instr.sureAddr, loadVar, run_aggL h8, run_sizeL h1, this]
    · obtain ⟨y, m, rfl, hy, hm⟩ := r1.uncons
      refine ⟨y, ?_, hy⟩
      have := r3 0 y (by simp)
      simp only [add_at, Nat.add_zero] at this
      simp [execOp, h, e3, Instr.loadAt, Instr.sureAddr, loadVar, run_aggL h8, this]
theorem op_store {P : Program} {o : Oper} {f : AFr} {st st' : ASt} {t : TypeId} {x y : Operand} {a0 : Addr} {n : Nat} (h : o.op = .store t x y) (hx : f.ev x = .pointer (some a0)) (h1 : sizeL P t = .ok n) (h2 : (cellsL (f.ev y)).length = n)
    (h3 : st.write a0 (cellsL (f.ev y)) = .ok st') : OpR P o f st (.val undef st') := by
  refine ⟨write_lo h3, fun ρ w a hf hw _ => ?_⟩
  have hc := hf.ev x
  rw [hx] at hc
  obtain ⟨s, e2, e3⟩ := hc.ptr_loc
  obtain ⟨r1, r2⟩ := cellsL_rel (hf.ev y) (write_oneC h3)
  obtain ⟨w', k1, k2⟩ := write_rel (P := P) h3 hw e2 r1 r2
  refine ⟨ρ, undef, w', .inr ⟨?_, rfl⟩, .tuple _ _ rfl (fun i x y hx => by simp at hx), k2⟩
  have hsz : (a.eval y).cells.size = n := by have := r1.1; simp at this; omega
  simp [execOp, h, e3, Instr.storeAt, Instr.sureAddr, storeVar, run_sizeL h1, hsz, k1]

/-! ### new memory -/
/-- a new row -/
theorem Mv.row {ρ : Rho} {st : ASt} {w w' : World} {cs : List Value} {C : Array Value} {t : TypeId} (ex : Bool) (es : Nat) (fr : Nat × Nat) (hw : WR ρ st.h.get w) (hf : Fresh ρ st.next (st.next + 1)) (hc : VRL ρ cs (C.toList.take cs.length))
    (hfr : FrOk C.size fr) (hh : w'.heap = w.heap.push (.cells C t fr)) (h1 : w'.os = w.os) (h2 : w'.tape = w.tape) (h3 : w'.output = w.output) :
    Mv ρ (upd ρ st.next (some ⟨w.heap.size, 0, ex, es, C.size, false⟩)) st.h.get (st.new (.cells cs ex es)).h.get st.next (st.new (.cells cs ex es)).next w w' := by
  have hn : ρ st.next = none := hf _ (Nat.le_refl _) (Nat.lt_succ_self _)
  have : (st.new (.cells cs ex es)).h.get = upd st.h.get st.next (some (.cells cs ex es)) := by simp [ASt.new, set_get]
  rw [this]
  refine Mv.alloc hw hn _ rfl _ rfl (by rw [hh]; simp) (fun b hb => by rw [hh, Array.getElem?_push, if_neg (by omega)]) ⟨rfl, rfl, rfl, C, t, fr, by rw [hh]; simp, rfl, hfr, ?_, fun i x hx => ?_⟩ h1 h2 h3
  · have := hc.1; simp at this ⊢; omega
  · obtain ⟨y, hy, hv⟩ := hc.get hx
    rw [List.getElem?_take] at hy
    split at hy
    · refine ⟨y, ?_, hv.mono (Sub.upd _ hn)⟩
      rw [Nat.zero_add]; simpa using hy
    · cases hy
theorem VRL.whole {ρ : Rho} {l : List Value} {C : Array Value} (h : VRL ρ l C.toList) : VRL ρ l (C.toList.take l.length) := by
  have : C.toList.take l.length = C.toList := by rw [h.1]; exact List.take_length
  rw [this]; exact h
theorem ptr_new {ρ : Rho} {n : Nat} {s : Spot} (h0 : s.base = 0) : VR (upd ρ n (some s)) (.pointer (some ⟨n, 0, none⟩)) (.pointer (some ⟨s.blk, 0, none⟩)) := by
  have := VR.ptr (ρ := upd ρ n (some s)) n 0 s (upd_same _ _ _)
  rw [h0] at this
  exact this
theorem no_frozen (n : Nat) : ∀ k, k < n → ¬ ((0, 0) : Nat × Nat).1 ≤ k ∨ ¬ k < ((0, 0) : Nat × Nat).2 := fun k _ => .inr (by simp)
theorem op_alloc {P : Program} {o : Oper} {f : AFr} {st : ASt} {t : TypeId} {z : List Value} (h : o.op = .alloc t) (hz : zeroL P t = .ok z) : OpR P o f st (.val (.pointer (some ⟨st.next, 0, none⟩)) (st.new (.cells z true 0))) := by
  refine ⟨LoS.new _ _, fun ρ w a hf hw hfr => ?_⟩
  obtain ⟨zv, h1, h2, h3⟩ := run_zeroL hz
  refine ⟨_, .pointer (some ⟨w.heap.size, 0, none⟩), w.alloc (.cells zv.cells t), .inl (by simp [execOp, h, Instr.alloc, h3, newVar, newRow]), ptr_new rfl, Mv.row (C := zv.cells) true 0 (0, 0) hw hfr (VRL.whole (by rw [h1]; exact ground_list h2)) (.inl rfl) rfl rfl rfl rfl⟩
theorem op_box {P : Program} {o : Oper} {f : AFr} {st : ASt} {t : TypeId} {x : Operand} (h : o.op = .box t x) (h1 : (cellsL (f.ev x)).all oneC = true) : OpR P o f st (.val (.pointer (some ⟨st.next, 0, none⟩)) (st.new (.cells (cellsL (f.ev x)) true 0))) := by
  refine ⟨LoS.new _ _, fun ρ w a hf hw hfr => ?_⟩
  obtain ⟨r1, r2⟩ := cellsL_rel (hf.ev x) h1
  refine ⟨_, .pointer (some ⟨w.heap.size, 0, none⟩), w.alloc (.cells (a.eval x).cells t), .inl (by simp [execOp, h, Instr.box, newVar, newRow]), ptr_new rfl, Mv.row (C := (a.eval x).cells) true 0 (0, 0) hw hfr (VRL.whole r1) (.inl rfl) rfl rfl rfl rfl⟩
end Go.Proofs.Ytokpobfimphhgaa.Ev
