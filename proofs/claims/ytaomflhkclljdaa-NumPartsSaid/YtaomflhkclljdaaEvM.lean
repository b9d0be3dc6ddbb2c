/-
  What the evaluator says of single operations holds of their runs: memory.
-/
import Derived.Test.YtaomflhkclljdaaEvP
set_option linter.unusedVariables false
set_option linter.unusedSimpArgs false
namespace Go.Proofs.Ytaomflhkclljdaa.Ev
open Go

theorem cell_row {w : World} {b : Nat} {C : Array Value} {t : TypeId} {fr : Nat × Nat} (h : w.heap[b]? = some (.cells C t fr)) (o : Nat) : w.cell? ⟨b, o, none⟩ = C[o]? := by simp [World.cell?, h]
theorem frozen_row {w : World} {b : Nat} {C : Array Value} {t : TypeId} {fr : Nat × Nat} (h : w.heap[b]? = some (.cells C t fr)) (o : Nat) : w.frozen? ⟨b, o, none⟩ = (decide (fr.1 ≤ o) && decide (o < fr.2)) := by
  obtain ⟨lo, hi⟩ := fr
  simp [World.frozen?, h]
theorem run_storeCells_row (P : Program) (b o : Nat) (t : TypeId) (fr : Nat × Nat) : ∀ (vs : List Value) (i : Nat) (C : Array Value) (w : World), w.heap[b]? = some (.cells C t fr) → (∀ k, k < C.size → ¬ (fr.1 ≤ k ∧ k < fr.2)) → o + i + vs.length ≤ C.size →
    (∀ v ∈ vs, v.oneCell' = true) → ∃ C' w', (storeCells ⟨b, o, none⟩ vs i).run P w = .ok () w' ∧ w'.heap[b]? = some (.cells C' t fr) ∧ C'.size = C.size ∧
      (∀ k, C'[k]? = if o + i ≤ k ∧ k < o + i + vs.length then vs[k - (o + i)]? else C[k]?) ∧ w'.heap.size = w.heap.size ∧ (∀ b', b' ≠ b → w'.heap[b']? = w.heap[b']?) ∧ w'.os = w.os ∧ w'.tape = w.tape ∧ w'.output = w.output := by
  intro vs
  induction vs with
  | nil =>
    intro i C w hb hfr hl h1
    exact ⟨C, w, rfl, hb, rfl, fun k => by rw [if_neg (by simp)], rfl, fun _ _ => rfl, rfl, rfl, rfl⟩
  | cons v vs ih =>
    intro i C w hb hfr hl h1
    simp only [List.length_cons] at hl
    have hv := h1 v (by simp)
    have hlt : o + i < C.size := by omega
    have hc : w.cell? ⟨b, o + i, none⟩ = some C[o + i] := by rw [cell_row hb]; simp [hlt]
    have hz : w.frozen? ⟨b, o + i, none⟩ = false := by
      rw [frozen_row hb]
      have := hfr (o + i) hlt
      cases h2 : decide (fr.1 ≤ o + i) <;> simp
      simp at h2; omega
    have hs : (store ((⟨b, o, none⟩ : Addr).add i) v).run P w = .ok () (w.setCell ⟨b, o + i, none⟩ v) := by
      rw [add_at, run_store P w _ v _ hv, hc]
      simp [hz]
    have hb' : (w.setCell ⟨b, o + i, none⟩ v).heap[b]? = some (.cells (C.setIfInBounds (o + i) v) t fr) := by
      simp [World.setCell, Array.getElem?_modify, hb]
    obtain ⟨C', w', e1, e2, e3, e4, e5, e6, e7, e8, e9⟩ := ih (i + 1) (C.setIfInBounds (o + i) v) (w.setCell ⟨b, o + i, none⟩ v) hb' (by intro k hk; exact hfr k (by simpa using hk)) (by simp; omega) (fun u hu => h1 u (by simp [hu]))
    refine ⟨C', w', ?_, e2, by simpa using e3, fun k => ?_, by rw [e5]; simp [World.setCell], fun b' hne => ?_, e7, e8, e9⟩
    · simp only [storeCells, Sem.run_bind, hs, Result.andThen_ok]; exact e1
    · rw [e4]
      by_cases hk : k = o + i
      · subst hk
        rw [if_neg (by omega), if_pos (by simp)]
        simp [hlt]
      · by_cases hk2 : o + (i + 1) ≤ k ∧ k < o + (i + 1) + vs.length
        · rw [if_pos hk2, if_pos (by simp; omega)]
          rw [show k - (o + i) = (k - (o + (i + 1))) + 1 by omega]
          simp
        · rw [if_neg hk2, if_neg (by simp; omega), Array.getElem?_setIfInBounds_ne (by omega)]
    · rw [e6 b' hne]
      simp only [World.setCell, Array.getElem?_modify]
      rw [if_neg (by omega)]

/-- what is read -/
theorem read_rel {st : ASt} {a : Addr} {n : Nat} {l : List Value} {ρ : Rho} {w : World} {s : Spot} (h : st.read a n = .ok l) (hw : WR ρ st.h.get w) (hs : ρ a.block = some s) :
    ∃ l', VRL ρ l l' ∧ l'.length = n ∧ ∀ j v, l'[j]? = some v → w.cell? ((⟨s.blk, locOf s a, none⟩ : Addr).add j) = some v := by
  unfold ASt.read at h
  split at h
  · rename_i cs ex es hg
    split at h
    · rename_i hsp
      have hloc : locOf s a = s.base + a.off := by unfold locOf; rw [hsp]
      rw [hloc]
      have h1 := of_ok h
      obtain ⟨h2, h3⟩ := takeL_some h1
      rw [dropL_eq] at h2 h3
      obtain ⟨s', e1, e2⟩ := hw.obj _ _ hg
      rw [hs] at e1; cases e1
      obtain ⟨_, _, C, t, fr, e3, e4, e5, e6, e7⟩ := e2
      simp only [List.length_drop] at h2
      have hlen : ((C.toList.drop (s.base + a.off)).take n).length = n := by simp; omega
      refine ⟨(C.toList.drop (s.base + a.off)).take n, ⟨by rw [hlen, h3]; simp; omega, fun i x y hx hy => ?_⟩, hlen, fun j v hv => ?_⟩
      · rw [h3] at hx
        rw [List.getElem?_take] at hx hy
        split at hx
        · rename_i hi
          rw [if_pos hi] at hy
          simp only [List.getElem?_drop] at hx hy
          obtain ⟨y', e8, e9⟩ := e7 _ x hx
          have : y = y' := by
            rw [Array.getElem?_toList, show s.base + a.off + i = s.base + (a.off + i) by omega, e8] at hy
            cases hy; rfl
          subst this; exact e9
        · cases hx
      · rw [List.getElem?_take] at hv
        split at hv
        · simp only [List.getElem?_drop, Array.getElem?_toList] at hv
          rw [add_at, cell_row e3]; exact hv
        · cases hv
    · cases h
  · rename_i es lo m elem hg
    split at h
    · rename_i i hsp
      have hloc : locOf s a = s.base + i * s.es + a.off := by unfold locOf; rw [hsp]
      rw [hloc]
      obtain ⟨hc, h⟩ := cond_ok h
      simp only [Bool.and_eq_true] at hc
      have hlo : lo ≤ i := Nat.le_of_ble_eq_true hc.1
      have hhi : i < m := by simpa using hc.2
      have h1 := of_ok h
      obtain ⟨h2, h3⟩ := takeL_some h1
      rw [dropL_eq] at h2 h3
      simp only [List.length_drop] at h2
      obtain ⟨s', e1, e2, e3⟩ := hw.obj _ _ hg
      rw [hs] at e1; cases e1
      have hsel : ∀ j, j < n → ∃ y, w.cell? ⟨s.blk, s.base + i * s.es + (a.off + j), none⟩ = some y ∧ ∀ x, l[j]? = some x → VR ρ x y := by
        intro j hj
        have hlt : a.off + j < (elem i).length := by omega
        obtain ⟨y, hy, hv⟩ := e3 i hlo hhi (a.off + j) _ (List.getElem?_eq_getElem hlt)
        refine ⟨y, hy, fun x hx => ?_⟩
        rw [h3, List.getElem?_take, if_pos hj, List.getElem?_drop, List.getElem?_eq_getElem hlt] at hx
        cases hx; exact hv
      have hll : l.length = n := by rw [h3]; simp; omega
      let l' := (List.range n).map fun j => (w.cell? ⟨s.blk, s.base + i * s.es + (a.off + j), none⟩).getD undef
      have hl' : ∀ j y, l'[j]? = some y → j < n ∧ w.cell? ⟨s.blk, s.base + i * s.es + (a.off + j), none⟩ = some y := by
        intro j y hy
        have hj : j < n := by have := (List.getElem?_eq_some_iff.1 hy).1; simpa [l'] using this
        refine ⟨hj, ?_⟩
        simp only [l', List.getElem?_map, List.getElem?_range hj, Option.map_some, Option.some.injEq] at hy
        obtain ⟨y', hy', _⟩ := hsel j hj
        rw [hy'] at hy ⊢
        simp at hy; rw [hy]
      refine ⟨l', ⟨by simp [l', hll], fun j x y hx hy => ?_⟩, by simp [l'], fun j v hv => ?_⟩
      · obtain ⟨hj, hy⟩ := hl' j y hy
        obtain ⟨y', hy', hv⟩ := hsel j hj
        rw [hy] at hy'; cases hy'
        exact hv x hx
      · rw [add_at, Nat.add_assoc]; exact (hl' j v hv).2
    · cases h
  · cases h
/-- what is written -/
theorem write_rel {P : Program} {st st' : ASt} {a : Addr} {vs vs' : List Value} {ρ : Rho} {w : World} {s : Spot} (h : st.write a vs = .ok st') (hw : WR ρ st.h.get w) (hs : ρ a.block = some s) (hv : VRL ρ vs vs') (h1 : ∀ v ∈ vs', v.oneCell' = true) :
    a.spot = none ∧ ∃ w', (storeCells ⟨s.blk, s.base + a.off, none⟩ vs' 0).run P w = .ok () w' ∧ Mv ρ ρ st.h.get st'.h.get st.next st'.next w w' := by
  unfold ASt.write at h
  split at h
  · rename_i cs ex es hg
    split at h
    · rename_i cs' hsp hlay
      refine ⟨hsp, ?_⟩
      obtain ⟨_, h2⟩ := cond_ok h
      cases h2
      obtain ⟨l1, l2, l3⟩ := layL_some hlay
      obtain ⟨s', e1, e2⟩ := hw.obj _ _ hg
      rw [hs] at e1; cases e1
      obtain ⟨x1, x2, C, t, fr, e3, e4, e5, e6, e7⟩ := e2
      have hb : s.base + a.off + 0 + vs'.length ≤ C.size ∨ vs' = [] := by
        cases vs' with
        | nil => exact .inr rfl
        | cons v l =>
          left
          have := l2 (by intro e; have := hv.1; simp [e] at this)
          have := hv.1
          omega
      rcases hb with hb | hb
      · obtain ⟨C', w', k1, k2, k3, k4, k5, k6, k7, k8, k9⟩ := run_storeCells_row P s.blk (s.base + a.off) t fr vs' 0 C w e3 e5.free hb h1
        refine ⟨w', k1, ?_⟩
        have : (st.set a.block (some (.cells cs' ex es))).h.get = upd st.h.get a.block (some (.cells cs' ex es)) := by simp [ASt.set, set_get]
        rw [this]
        refine Mv.write _ hw hg rfl hs _ rfl ⟨x1, x2, C', t, fr, k2, k3.trans e4, by rw [k3]; exact e5, by rw [l1]; exact e6, fun i x hx => ?_⟩ k5 k6 k7 k8 k9
        rw [l3] at hx
        rw [k4]
        simp only [Nat.add_zero]
        have := hv.1
        by_cases hi : a.off ≤ i ∧ i < a.off + vs.length
        · rw [if_pos hi] at hx
          obtain ⟨y, hy, hxy⟩ := hv.get hx
          rw [if_pos (by omega), show s.base + i - (s.base + a.off) = i - a.off by omega]
          exact ⟨y, hy, hxy⟩
        · rw [if_neg hi] at hx
          rw [if_neg (by omega)]
          exact e7 i x hx
      · subst hb
        have hvs : vs = [] := List.eq_nil_of_length_eq_zero (by have := hv.1; simpa using this)
        refine ⟨w, rfl, ?_⟩
        have hcs : cs' = cs := by
          apply List.ext_getElem?
          intro i; rw [l3, if_neg (by rw [hvs]; simp)]
        have : (st.set a.block (some (.cells cs' ex es))).h.get = st.h.get := by
          funext x
          simp only [ASt.set, set_get]
          by_cases hx : x = a.block
          · subst hx; rw [upd_same, hcs, hg]
          · rw [upd_ne _ _ hx]
        rw [this]
        exact Mv.refl hw _
    · cases h
  · cases h
theorem write_lo {st st' : ASt} {a : Addr} {vs : List Value} (h : st.write a vs = .ok st') : LoS st st' := by
  unfold ASt.write at h
  split at h
  · rename_i cs ex es hg
    split at h
    · obtain ⟨_, h2⟩ := cond_ok h
      cases h2
      exact LoS.set _ _ _ (.inr ⟨_, hg⟩)
    · cases h
  · cases h

theorem op_load {P : Program} {o : Oper} {f : AFr} {st : ASt} {t : TypeId} {x : Operand} {a0 : Addr} {n : Nat} {l : List Value} {v : Value} (h : o.op = .load t x) (hx : f.ev x = .pointer (some a0)) (h1 : sizeL P t = .ok n) (h2 : st.read a0 n = .ok l)
    (h3 : shutL P t l = .ok v) : OpR P o f st (.val v st) :=
  OpR.quiet fun ρ w a hf hw => by
    have hc := hf.ev x
    rw [hx] at hc
    obtain ⟨s, e2, e3⟩ := hc.ptr_loc
    obtain ⟨l', r1, r2, r3⟩ := read_rel h2 hw e2
    rcases shutL_run h3 with ⟨h8, rfl⟩ | ⟨h8, rfl⟩
    · refine ⟨.agg l'.toArray, ?_, VR.agg' r1⟩
      have := run_loadCells_list (P := P) (w := w) ⟨s.blk, locOf s a0, none⟩ l' r3
      rw [r2] at this
      simp [execOp, h, e3, Instr.loadAt, Instr.sureAddr, loadVar, run_aggL h8, run_sizeL h1, this]
    · obtain ⟨y, m, rfl, hy, hm⟩ := r1.uncons
      refine ⟨y, ?_, hy⟩
      have := r3 0 y (by simp)
      simp only [add_at, Nat.add_zero] at this
      simp [execOp, h, e3, Instr.loadAt, Instr.sureAddr, loadVar, run_aggL h8, this]
theorem op_store {P : Program} {o : Oper} {f : AFr} {st st' : ASt} {t : TypeId} {x y : Operand} {a0 : Addr} {n : Nat} (h : o.op = .store t x y) (hx : f.ev x = .pointer (some a0)) (h1 : sizeL P t = .ok n) (h2 : (cellsL (f.ev y)).length = n)
    (h3 : st.write a0 (cellsL (f.ev y)) = .ok st') : OpR P o f st (.val undef st') := by
  refine ⟨write_lo h3, fun ρ w a hf hw _ => ?_⟩
  have hc := hf.ev x
  rw [hx] at hc
  obtain ⟨s, e2, e3⟩ := hc.ptr_loc
  have hall : (cellsL (f.ev y)).all oneC = true := by
    unfold ASt.write at h3
    split at h3
    · split at h3
      · exact (cond_ok h3).1
      · cases h3
    · cases h3
  obtain ⟨r1, r2⟩ := cellsL_rel (hf.ev y) hall
  obtain ⟨hsp, w', k1, k2⟩ := write_rel (P := P) h3 hw e2 r1 r2
  have hloc : locOf s a0 = s.base + a0.off := by unfold locOf; rw [hsp]
  rw [hloc] at e3
  refine ⟨ρ, undef, w', .inr ⟨?_, rfl⟩, .tuple _ _ rfl (fun i x y hx => by simp at hx), k2⟩
  have hsz : (a.eval y).cells.size = n := by have := r1.1; simp at this; omega
  simp [execOp, h, e3, Instr.storeAt, Instr.sureAddr, storeVar, run_sizeL h1, hsz, k1]

/-! ### new memory -/
/-- a new row -/
theorem Mv.row {ρ : Rho} {st : ASt} {w w' : World} {cs : List Value} {C : Array Value} {t : TypeId} (ex : Bool) (es : Nat) (fr : Nat × Nat) (hw : WR ρ st.h.get w) (hf : Fresh ρ st.next (st.next + 1)) (hc : VRL ρ cs (C.toList.take cs.length))
    (hfr : FrOk C.size fr) (hh : w'.heap = w.heap.push (.cells C t fr)) (h1 : w'.os = w.os) (h2 : w'.tape = w.tape) (h3 : w'.output = w.output) :
    Mv ρ (upd ρ st.next (some ⟨w.heap.size, 0, ex, es, C.size⟩)) st.h.get (st.new (.cells cs ex es)).h.get st.next (st.new (.cells cs ex es)).next w w' := by
  have hn : ρ st.next = none := hf _ (Nat.le_refl _) (Nat.lt_succ_self _)
  have : (st.new (.cells cs ex es)).h.get = upd st.h.get st.next (some (.cells cs ex es)) := by simp [ASt.new, set_get]
  rw [this]
  refine Mv.alloc hw hn _ rfl _ rfl (by rw [hh]; simp) (fun b hb => by rw [hh, Array.getElem?_push, if_neg (by omega)]) ⟨rfl, rfl, C, t, fr, by rw [hh]; simp, rfl, hfr, ?_, fun i x hx => ?_⟩ h1 h2 h3
  · have := hc.1; simp at this ⊢; omega
  · obtain ⟨y, hy, hv⟩ := hc.get hx
    rw [List.getElem?_take] at hy
    split at hy
    · refine ⟨y, ?_, hv.mono (Sub.upd _ hn)⟩
      rw [Nat.zero_add]; simpa using hy
    · cases hy
theorem VRL.whole {ρ : Rho} {l : List Value} {C : Array Value} (h : VRL ρ l C.toList) : VRL ρ l (C.toList.take l.length) := by
  have : C.toList.take l.length = C.toList := by rw [h.1]; exact List.take_length
  rw [this]; exact h
theorem ptr_new {ρ : Rho} {n : Nat} {s : Spot} (h0 : s.base = 0) : VR (upd ρ n (some s)) (.pointer (some ⟨n, 0, none⟩)) (.pointer (some ⟨s.blk, 0, none⟩)) := by
  have := VR.ptr (ρ := upd ρ n (some s)) n 0 s (upd_same _ _ _)
  rw [h0] at this
  exact this
theorem no_frozen (n : Nat) : ∀ k, k < n → ¬ ((0, 0) : Nat × Nat).1 ≤ k ∨ ¬ k < ((0, 0) : Nat × Nat).2 := fun k _ => .inr (by simp)
theorem op_alloc {P : Program} {o : Oper} {f : AFr} {st : ASt} {t : TypeId} {z : List Value} (h : o.op = .alloc t) (hz : zeroL P t = .ok z) : OpR P o f st (.val (.pointer (some ⟨st.next, 0, none⟩)) (st.new (.cells z true 0))) := by
  refine ⟨LoS.new _ _, fun ρ w a hf hw hfr => ?_⟩
  obtain ⟨zv, h1, h2, h3⟩ := run_zeroL hz
  refine ⟨_, .pointer (some ⟨w.heap.size, 0, none⟩), w.alloc (.cells zv.cells t), .inl (by simp [execOp, h, Instr.alloc, h3, newVar, newRow]), ptr_new rfl, Mv.row (C := zv.cells) true 0 (0, 0) hw hfr (VRL.whole (by rw [h1]; exact ground_list h2)) (.inl rfl) rfl rfl rfl rfl⟩
theorem op_box {P : Program} {o : Oper} {f : AFr} {st : ASt} {t : TypeId} {x : Operand} (h : o.op = .box t x) (h1 : (cellsL (f.ev x)).all oneC = true) : OpR P o f st (.val (.pointer (some ⟨st.next, 0, none⟩)) (st.new (.cells (cellsL (f.ev x)) true 0))) := by
  refine ⟨LoS.new _ _, fun ρ w a hf hw hfr => ?_⟩
  obtain ⟨r1, r2⟩ := cellsL_rel (hf.ev x) h1
  refine ⟨_, .pointer (some ⟨w.heap.size, 0, none⟩), w.alloc (.cells (a.eval x).cells t), .inl (by simp [execOp, h, Instr.box, newVar, newRow]), ptr_new rfl, Mv.row (C := (a.eval x).cells) true 0 (0, 0) hw hfr (VRL.whole r1) (.inl rfl) rfl rfl rfl rfl⟩
end Go.Proofs.Ytaomflhkclljdaa.Ev
