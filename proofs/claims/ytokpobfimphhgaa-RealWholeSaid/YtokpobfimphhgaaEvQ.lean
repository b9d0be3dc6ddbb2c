/-
  What the evaluator says of single operations holds of their runs: slices that are made, append.
-/
import Derived.Test.YtokpobfimphhgaaEvN
set_option linter.unusedVariables false
set_option linter.unusedSimpArgs false
namespace Go.Proofs.Ytokpobfimphhgaa.Ev
open Go

theorem repL_get (z : List Value) : ∀ (n i : Nat), (repL z n)[i]? = if i < n * z.length then z[i % z.length]? else none := by
  intro n
  induction n with
  | zero => intro i; simp [repL]
  | succ n ih =>
    intro i
    simp only [repL]
    rw [Nat.succ_mul]
    rcases Nat.lt_or_ge i z.length with h | h
    · rw [List.getElem?_append_left h, if_pos (by omega), Nat.mod_eq_of_lt h]
    · rw [List.getElem?_append_right h, ih]
      by_cases h2 : i - z.length < n * z.length
      · rw [if_pos h2, if_pos (by omega)]
        congr 1
        rw [Nat.mod_eq_sub_mod h]
      · rw [if_neg h2, if_neg (by omega)]
theorem repL_len (z : List Value) (n : Nat) : (repL z n).length = n * z.length := by
  induction n with
  | zero => simp [repL]
  | succ n ih => simp only [repL, List.length_append, ih, Nat.succ_mul]; omega
theorem repL_all {p : Value → Bool} {z : List Value} (h : z.all p = true) : ∀ n, (repL z n).all p = true := by
  intro n
  induction n with
  | zero => rfl
  | succ n ih => simp only [repL, List.all_append, h, ih, Bool.and_self]
theorem rep_rel {ρ : Rho} {z : List Value} {zc : Array Value} {n N : Nat} (hz : VRL ρ z z) (he : N ≠ 0 → zc.toList = z) (hN : N = n * z.length) : VRL ρ (repL z n) ((Array.range N).map fun i => zc[i % zc.size]!).toList := by
  refine ⟨by rw [repL_len]; simp [hN], fun i x y hx hy => ?_⟩
  rw [repL_get] at hx
  split at hx
  · rename_i hi
    have hN0 : N ≠ 0 := by omega
    have e := he hN0
    have hsz : zc.size = z.length := by rw [← e]; simp
    have hzl : 0 < z.length := by
      rcases Nat.eq_zero_or_pos z.length with h0 | h0
      · rw [h0] at hi; simp at hi
      · exact h0
    have hlt : i % z.length < z.length := Nat.mod_lt _ hzl
    simp only [Array.toList_map, Array.toList_range, List.getElem?_map] at hy
    rw [List.getElem?_range (by omega)] at hy
    simp only [Option.map_some, Option.some.injEq, hsz] at hy
    have h3 : zc[i % z.length]! = x := by
      have h4 : zc[i % z.length]? = some x := by rw [← Array.getElem?_toList, e]; exact hx
      simp [getElem!_def, h4]
    rw [h3] at hy
    subst hy
    exact hz.2 _ x x hx hx
  · cases hx
theorem slice_new {ρ : Rho} {n k c c' : Nat} {s : Spot} (h0 : s.base = 0) (hk : k ≤ c) (hc : c ≤ c') (hx : s.ex = true → c' = c) (hr : s.ex = false → c' * s.es ≤ s.room) : VR (upd ρ n (some s)) (.slice (some ⟨n, 0, none⟩) k c) (.slice (some ⟨s.blk, 0, none⟩) k c') :=
  .slice n 0 s k c c' 0 (upd_same _ _ _) hk hc hx (fun h => by rw [Nat.zero_add]; exact hr h) (.inl (by omega))
theorem op_buildSlice {P : Program} {o : Oper} {f : AFr} {st : ASt} {t e : TypeId} {len n : Nat} {ps : Array (Nat × Operand)} {z cs : List Value} (h : o.op = .buildSlice t len ps) (hd : undL P t = .ok (.slice e)) (hn : sizeL P e = .ok n) (hz : zeroL P e = .ok z)
    (h1 : z.length = n) (h2 : len * n ≤ 16777216) (hfi : fillL (fun i => some (i * n, n)) (repL z len) (partsL f ps) = .ok cs) :
    OpR P o f st (.val (.slice (some ⟨st.next, 0, none⟩) len len) (st.new (.cells cs true 0))) := by
  refine ⟨LoS.new _ _, fun ρ w a hf hw hfr => ?_⟩
  obtain ⟨zv, e1, e2, e3⟩ := run_zeroL hz
  have hz0 : (Sem.run P (if len * n = 0 then (pure #[] : Sem (Array Value)) else (do pure (← zeroValue e).cells)) w) = .ok (if len * n = 0 then #[] else zv.cells) w := by
    split <;> simp [e3]
  obtain ⟨C', k1, k2⟩ := fill_rel (C := (Array.range (len * n)).map fun i => (if len * n = 0 then #[] else zv.cells)[i % (if len * n = 0 then #[] else zv.cells).size]!) hfi
    (rep_rel (ground_list e2) (fun h0 => by rw [if_neg h0]; exact e1) (by rw [h1])) (parts_rel hf ps)
  refine ⟨_, .slice (some ⟨w.heap.size, 0, none⟩) len len, w.alloc (.cells C' e), .inl ?_, slice_new rfl (Nat.le_refl _) (Nat.le_refl _) (fun _ => rfl) (fun h => by cases h), Mv.row (C := C') true 0 (0, 0) hw hfr (VRL.whole k2) (.inl rfl) rfl rfl rfl rfl⟩
  simp only [execOp, h, Instr.buildSlice, Sem.run_bind, run_und hd, Result.andThen_ok, run_sizeL hn]
  rw [if_neg (by omega)]
  by_cases h0 : len * n = 0
  · have k3 : Instr.fill (fun i => some (i * n, n)) (Array.map (fun i => (#[] : Array Value)[i % (#[] : Array Value).size]!) (Array.range 0)) (Array.map (fun x => (x.fst, a.eval x.snd)) ps).toList = some C' := by
      simp only [h0, ↓reduceIte] at k1; exact k1
    simp only [h0, ↓reduceIte, Sem.run_bind, Sem.run_pure, Result.andThen_ok]
    rw [k3]
    simp [newRow]
  · have k3 : Instr.fill (fun i => some (i * n, n)) (Array.map (fun i => zv.cells[i % zv.cells.size]!) (Array.range (len * n))) (Array.map (fun x => (x.fst, a.eval x.snd)) ps).toList = some C' := by
      simp only [h0, ↓reduceIte] at k1; exact k1
    simp only [h0, ↓reduceIte, Sem.run_bind, e3, Sem.run_pure, Result.andThen_ok]
    rw [k3]
    simp [newRow]
theorem bytesL_ok {P : Program} {t : TypeId} {n : Nat} (h : bytesL P t = .ok n) (w : World) : ∃ i, (typeInfo t).run P w = .ok i w ∧ i.bytes = n := by
  unfold bytesL at h
  split at h
  · rename_i i e; cases h; exact ⟨i, by simp [typeInfo, e], rfl⟩
  · cases h
theorem wrap_small (n : Nat) (h : n ≤ 1000000) : IntKind.i64.wrap (Int.ofNat n) = n := by
  have e : IntKind.i64.bits = 64 := rfl
  rw [show (Int.ofNat n) = ((n : Nat) : Int) from rfl]
  unfold IntKind.wrap
  simp only [e, IntKind.signed]
  have h1 : ((n : Nat) : Int) % (2 ^ 64 : Int) = n := Int.emod_eq_of_lt (by omega) (by omega)
  simp only [h1]
  rw [if_neg (by simp; omega)]
theorem op_makeSlice {P : Program} {o : Oper} {f : AFr} {st : ASt} {t e : TypeId} {x y : Operand} {k1 k2 : IntKind} {l c n b : Nat} {z : List Value} (h : o.op = .makeSlice t x y) (hx : f.ev x = .int k1 (.ofNat l)) (hy : f.ev y = .int k2 (.ofNat c)) (hd : undL P t = .ok (.slice e))
    (hz : zeroL P e = .ok z) (hn : sizeL P e = .ok n) (hb : bytesL P e = .ok b) (h1 : l ≤ c) (h2 : c ≤ 1000000) (h3 : b ≤ 1000000) (h4 : z.length = n) :
    OpR P o f st (.val (.slice (some ⟨st.next, 0, none⟩) l c) (st.new (.cells (repL z c) true 0))) := by
  refine ⟨LoS.new _ _, fun ρ w a hf hw hfr => ?_⟩
  obtain ⟨zv, e1, e2, e3⟩ := run_zeroL hz
  have ex := hf.ev x
  have ey := hf.ev y
  rw [hx] at ex; rw [hy] at ey
  generalize hX : a.eval x = X at ex
  generalize hY : a.eval y = Y at ey
  cases ex; cases ey
  have hz0 : ∀ w, (Sem.run P (if c * n = 0 then (pure #[] : Sem (Array Value)) else (do pure (← zeroValue e).cells)) w) = .ok (if c * n = 0 then #[] else zv.cells) w := by
    intro w; split <;> simp [e3]
  obtain ⟨ii, i1, i2⟩ := bytesL_ok hb w
  refine ⟨_, .slice (some ⟨w.heap.size, 0, none⟩) l c, w.alloc (.cells ((Array.range (c * n)).map fun i => (if c * n = 0 then #[] else zv.cells)[i % (if c * n = 0 then #[] else zv.cells).size]!) e), .inl ?_, slice_new rfl h1 (Nat.le_refl _) (fun _ => rfl) (fun h => by cases h),
    Mv.row (C := (Array.range (c * n)).map fun i => (if c * n = 0 then #[] else zv.cells)[i % (if c * n = 0 then #[] else zv.cells).size]!) true 0 (0, 0) hw hfr (VRL.whole (rep_rel (ground_list e2) (fun h0 => by rw [if_neg h0]; exact e1) (by rw [h4]))) (.inl rfl) rfl rfl rfl rfl⟩
  have hbn : b * c ≤ 1000000 * 1000000 := Nat.mul_le_mul h3 h2
  have w1 := wrap_small l (by omega)
  have w2 := wrap_small c h2
  simp only [execOp, h, hX, hY, Instr.makeSlice, Sem.run_bind, run_und hd, Result.andThen_ok, asInt, asIntOf, Sem.run_pure, i1, i2, w1, w2]
  have c1 : ¬ ((c : Int) < 0) := by omega
  have c2 : ¬ ((b : Int) * (c : Int) > 2 ^ 48) := by
    have : ((b : Int) * (c : Int)) = ((b * c : Nat) : Int) := by simp
    rw [this]; omega
  have c3 : ¬ ((l : Int) < 0) := by omega
  have c4 : ¬ ((l : Int) > c) := by omega
  simp only [c1, c2, c3, c4, decide_false, Bool.or_self, Bool.false_eq_true, if_false, run_askRoom, Result.andThen_ok, Int.toNat_natCast, Sem.run_bind, run_sizeL hn]
  by_cases h0 : c * n = 0
  · simp only [h0, ↓reduceIte, Sem.run_bind, Sem.run_pure, Result.andThen_ok]
    simp [newRow]
  · simp only [h0, ↓reduceIte, Sem.run_bind, e3, Sem.run_pure, Result.andThen_ok]
    simp [newRow]
theorem op_makeMap {P : Program} {o : Oper} {f : AFr} {st : ASt} {t : TypeId} {r : Option Operand} (h : o.op = .makeMap t r) (hr : ∀ x, r = some x → (∃ k n, f.ev x = .int k n) ∧ ∃ k e, undL P t = .ok (.map k e)) : OpR P o f st (.val (.map (some st.next)) (st.new (.map [] 0))) := by
  refine ⟨LoS.new _ _, fun ρ w a hf hw hfr => ?_⟩
  have hn : ρ st.next = none := hfr _ (Nat.le_refl _) (Nat.lt_succ_self _)
  refine ⟨upd ρ st.next (some ⟨w.heap.size, 0, false, 0, 0, false⟩), .map (some w.heap.size), w.alloc (.map #[] 0), .inl ?_, .map st.next ⟨w.heap.size, 0, false, 0, 0, false⟩ (upd_same _ _ _), ?_⟩
  · cases r with
    | none => simp [execOp, h, Instr.makeMap]
    | some x =>
      obtain ⟨⟨k, n, e1⟩, k2, e2, e3⟩ := hr x rfl
      have ex := hf.ev x
      rw [e1] at ex
      generalize hX : a.eval x = X at ex
      cases ex
      simp [execOp, h, Instr.makeMap, hX, run_und e3, asInt, asIntOf]
  · have : (st.new (.map [] 0)).h.get = upd st.h.get st.next (some (.map [] 0)) := by simp [ASt.new, set_get]
    rw [this]
    exact Mv.alloc hw hn _ rfl _ rfl (by simp) (fun b hb => RowKit.Below.heap_alloc _ _ _ hb) ⟨rfl, #[], by show (w.heap.push _)[w.heap.size]? = _; simp, rfl, fun i e he => by simp at he⟩ rfl rfl rfl
end Go.Proofs.Ytokpobfimphhgaa.Ev
