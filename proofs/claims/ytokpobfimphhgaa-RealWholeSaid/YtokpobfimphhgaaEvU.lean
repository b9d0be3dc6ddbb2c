/-
  What the evaluator says of single operations holds of their runs: conversions, append, copy.
-/
import Derived.Test.YtokpobfimphhgaaEvS
import Derived.Laws.BytesString
set_option linter.unusedVariables false
set_option linter.unusedSimpArgs false
namespace Go.Proofs.Ytokpobfimphhgaa.Ev
open Go

/-! ### append -/
theorem oneC_rel {ρ : Rho} {x y : Value} (hxy : VR ρ x y) (hx : oneC x = true) : y.oneCell' = true := by
  cases hxy <;> first | rfl | simp [oneC, bad] at hx
theorem oneC_list {ρ : Rho} {l l' : List Value} (hl : VRL ρ l l') (ha : l.all oneC = true) : ∀ v ∈ l', v.oneCell' = true := by
  intro v hv
  obtain ⟨i, hi⟩ := List.getElem?_of_mem hv
  have h2 : i < l.length := by
    have := (List.getElem?_eq_some_iff.1 hi).1
    have := hl.1
    omega
  have h3 := hl.2 i _ v (List.getElem?_eq_getElem h2) hi
  rw [List.all_eq_true] at ha
  exact oneC_rel h3 (ha _ (List.getElem_mem h2))
/-- the cells of what is appended or copied -/
theorem firstL_run {P : Program} {ρ : Rho} {st : ASt} {w : World} {size n : Nat} {x x' : Value} {l : List Value} (h : firstL st size x = .ok (n, l)) (hx : VR ρ x x') (hw : WR ρ st.h.get w) :
    (∀ w0, (Builtin.lenOf x').run P w0 = .ok n w0) ∧ ∃ l', VRL ρ l l' ∧ l'.length = n * size ∧ (∀ w1 : World, w1.heap = w.heap → (Builtin.firstCells size n x').run P w1 = .ok l'.toArray w1) ∧ (l.all oneC = true → ∀ v ∈ l', v.oneCell' = true) := by
  have nothing : ∀ {a : Addr} (l0 : List Value), st.read a (0 * size) = .ok l0 → ∀ (x : Option Addr) (c' : Nat), (∀ w0, (Builtin.lenOf (.slice x 0 c')).run P w0 = .ok 0 w0) ∧ ∃ l', VRL ρ l0 l' ∧ l'.length = 0 * size ∧ (∀ w1 : World, w1.heap = w.heap → (Builtin.firstCells size 0 (.slice x 0 c')).run P w1 = .ok l'.toArray w1) ∧ (l0.all oneC = true → ∀ v ∈ l', v.oneCell' = true) := by
    intro a l0 h1 x c'
    have hl0 : l0 = [] := by
      have : 0 * size = 0 := Nat.zero_mul _
      unfold ASt.read at h1
      rw [this] at h1
      split at h1
      · split at h1 <;> first | (cases h1; done) | (have := of_ok h1; simp only [takeL, Option.some.injEq] at this; exact this.symm)
      · split at h1
        · have hb : ∀ e : Nat, Nat.blt e 0 = false := fun e => rfl
          rw [hb, Bool.and_false] at h1
          obtain ⟨_, h1⟩ := cond_ok h1; have := of_ok h1; simp only [takeL, Option.some.injEq] at this; exact this.symm
        · cases h1
      · cases h1
    subst hl0
    refine ⟨fun w0 => rfl, [], VRL.nil ρ, by simp, fun w1 _ => ?_, fun _ v hv => by simp at hv⟩
    have h0 : 0 * size = 0 := Nat.zero_mul _
    cases x <;> simp only [Builtin.firstCells, loadCells, h0] <;> rfl
  unfold firstL at h
  split at h
  · cases h
    cases hx
    exact ⟨fun w0 => rfl, [], VRL.nil ρ, by simp, fun w1 _ => by simp [Builtin.firstCells], fun _ v hv => by simp at hv⟩
  · rename_i a m c
    obtain ⟨l0, h1, h2⟩ := bnd_ok h
    cases h2
    cases hx with
    | slice b o s _ _ c' o' hs hn hc hxx hr ho =>
      obtain ⟨l', r1, r2, r3⟩ := read_rel h1 hw hs
      refine ⟨fun w0 => rfl, l', r1, r2, fun w1 hw1 => ?_, oneC_list r1⟩
      simp only [locOf] at r3
      by_cases h0 : n * size = 0
      · have : l' = [] := List.eq_nil_of_length_eq_zero (by rw [r2, h0])
        subst this
        simp only [Builtin.firstCells, loadCells, h0]
        rfl
      · have ho' : o' = s.base + o := by
          rcases ho with ho | ho
          · exact ho
          · exfalso
            have : n = 0 := by omega
            rw [this] at h0; simp at h0
        subst ho'
        have := run_loadCells_list (P := P) (w := w1) ⟨s.blk, s.base + o, none⟩ l' (fun j v hv => by
          have := r3 j v hv
          unfold World.cell? at this ⊢
          rw [hw1]; exact this)
        rw [r2] at this
        simp only [Builtin.firstCells, this]
    | sliceI b i s _ _ c' o' hs hn hc hr hv ho =>
      obtain ⟨l', r1, r2, r3⟩ := read_rel h1 hw hs
      refine ⟨fun w0 => rfl, l', r1, r2, fun w1 hw1 => ?_, oneC_list r1⟩
      simp only [locOf, Nat.add_zero] at r3
      by_cases h0 : n * size = 0
      · have : l' = [] := List.eq_nil_of_length_eq_zero (by rw [r2, h0])
        subst this
        simp only [Builtin.firstCells, loadCells, h0]
        rfl
      · have ho' : o' = s.base + i * s.es := by
          rcases ho with ho | ho
          · exact ho
          · exfalso
            have : n = 0 := by omega
            rw [this] at h0; simp at h0
        subst ho'
        have := run_loadCells_list (P := P) (w := w1) ⟨s.blk, s.base + i * s.es, none⟩ l' (fun j v hv => by
          have := r3 j v hv
          unfold World.cell? at this ⊢
          rw [hw1]; exact this)
        rw [r2] at this
        simp only [Builtin.firstCells, this]
    | sliceE b i c' x s hs hex => exact nothing _ h1 _ _
    | sliceN b i => exact nothing _ h1 _ _
    | sliceZ b i x => exact nothing _ h1 _ _
    | sliceX b i x => exact nothing _ h1 _ _
  · rename_i s
    obtain ⟨hs1, h⟩ := cond_ok h
    have hs1 : size = 1 := Nat.eq_of_beq_eq_true hs1
    subst hs1
    cases h
    have := hx.string_inv
    subst this
    have he : s.extract 0 s.size = s := by
      apply ByteArray.ext
      rw [ByteArray.data_extract]
      apply Array.toList_inj.1
      simp only [Array.toList_extract, List.extract_eq_take_drop, Nat.sub_zero, List.drop_zero]
      exact List.take_of_length_le (by simp)
    refine ⟨fun w0 => rfl, s.data.toList.map fun b => .int .u8 b.toNat, ⟨rfl, fun i x y hx hy => by rw [hx] at hy; cases hy; simp only [List.getElem?_map] at hx; cases hd : s.data.toList[i]? with | none => rw [hd] at hx; cases hx | some b => rw [hd] at hx; cases hx; exact .int _ _⟩, by simp, fun w1 _ => ?_, fun _ v hv => ?_⟩
    · simp only [Builtin.firstCells, he, Sem.run_pure]
      congr 1
      apply Array.toList_inj.1
      simp
    · simp only [List.mem_map] at hv
      obtain ⟨b, _, rfl⟩ := hv
      rfl
  · cases h
end Go.Proofs.Ytokpobfimphhgaa.Ev
