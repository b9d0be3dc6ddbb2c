/-
  What the evaluator says of single operations holds of their runs: values that are built, slices.
-/
import Derived.Test.YtokpobfimphhgaaEvM
set_option linter.unusedVariables false
set_option linter.unusedSimpArgs false
namespace Go.Proofs.Ytokpobfimphhgaa.Ev
open Go

theorem fold_lay (off : Nat) : ∀ (l : List Value) (j0 : Nat) (C : Array Value), off + j0 + l.length ≤ C.size →
    ((l.zipIdx j0).foldl (fun cs (p : Value × Nat) => cs.setIfInBounds (off + p.2) p.1) C).size = C.size ∧
    ∀ k, ((l.zipIdx j0).foldl (fun cs (p : Value × Nat) => cs.setIfInBounds (off + p.2) p.1) C)[k]? = if off + j0 ≤ k ∧ k < off + j0 + l.length then l[k - (off + j0)]? else C[k]? := by
  intro l
  induction l with
  | nil => intro j0 C h; exact ⟨rfl, fun k => by rw [if_neg (by simp)]; rfl⟩
  | cons v l ih =>
    intro j0 C h
    simp only [List.length_cons] at h
    obtain ⟨h1, h2⟩ := ih (j0 + 1) (C.setIfInBounds (off + j0) v) (by simp; omega)
    simp only [List.zipIdx_cons, List.foldl_cons]
    refine ⟨by rw [h1]; simp, fun k => ?_⟩
    rw [h2]
    by_cases hk : k = off + j0
    · subst hk
      rw [if_neg (by omega), if_pos (by simp)]
      have : off + j0 < C.size := by omega
      simp [this]
    · by_cases hk2 : off + (j0 + 1) ≤ k ∧ k < off + (j0 + 1) + l.length
      · rw [if_pos hk2, if_pos (by simp; omega), show k - (off + j0) = (k - (off + (j0 + 1))) + 1 by omega]
        simp
      · rw [if_neg hk2, if_neg (by simp; omega), Array.getElem?_setIfInBounds_ne (by omega)]
theorem lay_rel {ρ : Rho} {off : Nat} {vs vs' cells cells' : List Value} {C C' : Array Value} (h : layL off vs cells = some cells') (hv : VRL ρ vs vs') (hc : VRL ρ cells C.toList) (hs : C'.size = C.size)
    (hk : ∀ k, C'[k]? = if off ≤ k ∧ k < off + vs'.length then vs'[k - off]? else C[k]?) : VRL ρ cells' C'.toList := by
  obtain ⟨l1, l2, l3⟩ := layL_some h
  have e := hv.1
  refine ⟨by rw [l1]; have := hc.1; simp at this ⊢; omega, fun i x y hx hy => ?_⟩
  rw [Array.getElem?_toList, hk] at hy
  rw [l3] at hx
  by_cases hi : off ≤ i ∧ i < off + vs.length
  · rw [if_pos hi] at hx; rw [if_pos (by omega)] at hy
    exact hv.2 _ x y hx hy
  · rw [if_neg hi] at hx; rw [if_neg (by omega)] at hy
    exact hc.2 i x y hx (by simpa using hy)
def PartR (ρ : Rho) : List (Nat × Value) → List (Nat × Value) → Prop
  | [], [] => True
  | p :: l, q :: m => p.1 = q.1 ∧ VR ρ p.2 q.2 ∧ PartR ρ l m
  | _, _ => False
theorem fill_rel {ρ : Rho} {place : Nat → Option (Nat × Nat)} : ∀ {parts parts' : List (Nat × Value)} {cells cs : List Value} {C : Array Value}, fillL place cells parts = .ok cs → VRL ρ cells C.toList → PartR ρ parts parts' →
    ∃ C', Instr.fill place C parts' = some C' ∧ VRL ρ cs C'.toList := by
  intro parts
  induction parts with
  | nil =>
    intro parts' cells cs C h hc hp
    cases parts' with
    | nil => simp only [fillL, Rs.ok.injEq] at h; subst h; exact ⟨C, rfl, hc⟩
    | cons q m => exact hp.elim
  | cons p l ih =>
    intro parts' cells cs C h hc hp
    cases parts' with
    | nil => exact hp.elim
    | cons q m =>
      obtain ⟨i, v⟩ := p
      obtain ⟨i', v'⟩ := q
      obtain ⟨e1, e2, e3⟩ := hp
      simp only at e1 e2
      subst e1
      simp only [fillL] at h
      split at h
      · rename_i off size hpl
        obtain ⟨h1, h2⟩ := cond_ok h
        simp only [Bool.and_eq_true] at h1
        have hsz : (cellsL v).length = size := Nat.eq_of_beq_eq_true h1.1.1
        obtain ⟨cs1, h3, h4⟩ := bnd_ok h2
        have h5 := of_ok h3
        obtain ⟨r1, r2⟩ := cellsL_rel e2 h1.1.2
        obtain ⟨l1, l2, l3⟩ := layL_some h5
        have e5 := r1.1
        have e6 := hc.1
        simp only [Array.length_toList] at e5 e6
        have hb : off + size ≤ cells.length := Nat.le_of_ble_eq_true h1.2
        obtain ⟨f1, f2⟩ := fold_lay off v'.cells.toList 0 C (by simp; omega)
        have hC : v'.cells.zipIdx.foldl (fun cs (x : Value × Nat) => cs.setIfInBounds (off + x.2) x.1) C = (v'.cells.toList.zipIdx 0).foldl (fun cs (p : Value × Nat) => cs.setIfInBounds (off + p.2) p.1) C := by
          rw [← Array.foldl_toList, Array.toList_zipIdx]
        have hr := lay_rel (C' := (v'.cells.toList.zipIdx 0).foldl (fun cs (p : Value × Nat) => cs.setIfInBounds (off + p.2) p.1) C) h5 r1 hc f1 (fun k => by rw [f2]; simp)
        obtain ⟨C', k1, k2⟩ := ih h4 hr e3
        refine ⟨C', ?_, k2⟩
        simp only [Instr.fill, hpl]
        rw [if_neg (by simp; omega)]
        rw [← k1, ← hC]
      · cases h
theorem parts_rel {ρ : Rho} {f : AFr} {a : Act} (hf : FrR ρ f a) (ps : Array (Nat × Operand)) : PartR ρ (partsL f ps) (ps.map fun (i, x) => (i, a.eval x)).toList := by
  unfold partsL
  rw [Array.toList_map]
  induction ps.toList with
  | nil => trivial
  | cons p l ih => exact ⟨rfl, hf.ev p.2, ih⟩
theorem places_run {P : Program} : ∀ {fs : List Field} {pl : List (Nat × Nat)}, placesL P fs = .ok pl → ∀ w, (fs.mapM fun f => (do pure (f.offset, ← sizeOf f.type) : Sem (Nat × Nat))).run P w = .ok pl w := by
  intro fs
  induction fs with
  | nil => intro pl h w; simp only [placesL, Rs.ok.injEq] at h; subst h; rfl
  | cons f l ih =>
    intro pl h w
    simp only [placesL] at h
    obtain ⟨n, h1, h2⟩ := bnd_ok h
    obtain ⟨r, h3, h4⟩ := bnd_ok h2
    cases h4
    have h5 := ih h3 w
    simp only [List.mapM_cons, Sem.run_bind, run_sizeL h1, Result.andThen_ok, Sem.run_pure, h5]
theorem op_build_struct {P : Program} {o : Oper} {f : AFr} {st : ASt} {t : TypeId} {ps : Array (Nat × Operand)} {z cs : List Value} {fs : Array Field} {pl : List (Nat × Nat)} (h : o.op = .build t ps) (hz : zeroL P t = .ok z) (hd : undL P t = .ok (.struct fs))
    (hp : placesL P fs.toList = .ok pl) (hfi : fillL (fun i => pl[i]?) z (partsL f ps) = .ok cs) : OpR P o f st (.val (.agg cs.toArray) st) :=
  OpR.quiet fun ρ w a hf hw => by
    obtain ⟨zv, h1, h2, h3⟩ := run_zeroL hz
    obtain ⟨C', k1, k2⟩ := fill_rel (C := zv.cells) hfi (by rw [h1]; exact ground_list h2) (parts_rel hf ps)
    refine ⟨.agg C', ?_, ?_⟩
    · have hpl := places_run hp w
      obtain ⟨fl⟩ := fs
      have e : (fun (x : Nat) => pl.toArray[x]?) = (fun (i : Nat) => pl[i]?) := by funext i; simp
      simp only [execOp, h, Instr.build, Sem.run_bind, h3, Result.andThen_ok, run_und hd]
      simp only [List.mapM_toArray, Sem.run_map, hpl, Result.andThen_ok]
      rw [e, k1]
      rfl
    · have := VR.agg' k2; simpa using this
theorem op_build_array {P : Program} {o : Oper} {f : AFr} {st : ASt} {t e : TypeId} {ps : Array (Nat × Operand)} {z cs : List Value} {m n : Nat} (h : o.op = .build t ps) (hz : zeroL P t = .ok z) (hd : undL P t = .ok (.array m e))
    (hn : sizeL P e = .ok n) (hfi : fillL (fun i => some (i * n, n)) z (partsL f ps) = .ok cs) : OpR P o f st (.val (.agg cs.toArray) st) :=
  OpR.quiet fun ρ w a hf hw => by
    obtain ⟨zv, h1, h2, h3⟩ := run_zeroL hz
    obtain ⟨C', k1, k2⟩ := fill_rel (C := zv.cells) hfi (by rw [h1]; exact ground_list h2) (parts_rel hf ps)
    refine ⟨.agg C', ?_, ?_⟩
    · simp only [execOp, h, Instr.build, Sem.run_bind, h3, Result.andThen_ok, run_und hd, run_sizeL hn]
      rw [k1]
      rfl
    · have := VR.agg' k2; simpa using this
end Go.Proofs.Ytokpobfimphhgaa.Ev
