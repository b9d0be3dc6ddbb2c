/-
  Rows of which one element or another one is, read as lists.
-/
import Derived.Test.YtncndnlbiijdoaaEnc
set_option linter.unusedVariables false
set_option linter.unusedSimpArgs false
set_option linter.unusedSectionVars false
namespace Go.Proofs.Ytncndnlbiijdoaa.Ev
open Go Go.Proofs Go.RowKit

class EncM (α : Type) [Enc α] : Prop where
  cong : ∀ (c c' : Nat → Td), (∀ j, j < Enc.es α → c j = c' j) → (Enc.dec c : α) = Enc.dec c' ∧ Enc.ok α c = Enc.ok α c'
  mt : ∀ (a b : α), Enc.dec (fun j => mrgT true (Enc.enc a j) (Enc.enc b j)) = a ∧ Enc.ok α (fun j => mrgT true (Enc.enc a j) (Enc.enc b j)) = Enc.ok α (Enc.enc a)
  mf : ∀ (a b : α), Enc.dec (fun j => mrgT false (Enc.enc a j) (Enc.enc b j)) = b ∧ Enc.ok α (fun j => mrgT false (Enc.enc a j) (Enc.enc b j)) = Enc.ok α (Enc.enc b)
section
variable {α : Type} [Enc α] [EncM α]
theorem mrgT_fr (h0 : Enc.es α ≠ 0) (b : Bool) (l m : List α) (c d : Nat) : mrgT b (.fr (Enc.es α) l.length c (encL l)) (.fr (Enc.es α) m.length d (encL m)) = .fr (Enc.es α) (cond b l.length m.length) (cond b c d) fun i j => mrgT b (encL l i j) (encL m i j) := by
  have hs : sameEs (Enc.es α) l.length (Enc.es α) m.length = true := by simp [sameEs, Nat.beq_refl]
  simp only [mrgT, hs, cond_true, beq_false h0, cond_false]
theorem decL_congr {n : Nat} {e e' : Nat → Nat → Td} (h : ∀ i, i < n → (Enc.dec (e i) : α) = Enc.dec (e' i)) : (decL n e : List α) = decL n e' := by
  unfold decL
  exact List.map_congr_left fun i hi => h i (List.mem_range.1 hi)
theorem okL_congr {n : Nat} {e e' : Nat → Nat → Td} (h : ∀ i, i < n → Enc.ok α (e i) = Enc.ok α (e' i)) : okL α n e = okL α n e' := by
  unfold okL
  rw [Bool.eq_iff_iff, List.all_eq_true, List.all_eq_true]
  exact ⟨fun k i hi => by rw [← h i (List.mem_range.1 hi)]; exact k i hi, fun k i hi => by rw [h i (List.mem_range.1 hi)]; exact k i hi⟩
theorem mrgT_t (h0 : Enc.es α ≠ 0) (l m : List α) (c d : Nat) : listT α (mrgT true (.fr (Enc.es α) l.length c (encL l)) (.fr (Enc.es α) m.length d (encL m))) = l ∧ nilT (mrgT true (.fr (Enc.es α) l.length c (encL l)) (.fr (Enc.es α) m.length d (encL m))) = c ∧ okT α (mrgT true (.fr (Enc.es α) l.length c (encL l)) (.fr (Enc.es α) m.length d (encL m))) = okT α (.fr (Enc.es α) l.length c (encL l)) := by
  rw [mrgT_fr h0]
  refine ⟨?_, rfl, ?_⟩
  · show decL l.length _ = l
    rw [decL_congr (e' := encL l) fun i hi => by show Enc.dec (fun j => mrgT true (Enc.enc (l.getD i Enc.dflt) j) (Enc.enc (m.getD i Enc.dflt) j)) = Enc.dec (Enc.enc (l.getD i Enc.dflt)); rw [(EncM.mt _ _).1, Enc.back]]
    exact decL_encL l
  · simp only [okT, cond_true]
    rw [okL_congr (e := fun i j => mrgT true (encL l i j) (encL m i j)) (e' := encL l) fun i hi => (EncM.mt (l.getD i Enc.dflt) (m.getD i Enc.dflt)).2]
theorem mrgT_f (h0 : Enc.es α ≠ 0) (l m : List α) (c d : Nat) : listT α (mrgT false (.fr (Enc.es α) l.length c (encL l)) (.fr (Enc.es α) m.length d (encL m))) = m ∧ nilT (mrgT false (.fr (Enc.es α) l.length c (encL l)) (.fr (Enc.es α) m.length d (encL m))) = d ∧ okT α (mrgT false (.fr (Enc.es α) l.length c (encL l)) (.fr (Enc.es α) m.length d (encL m))) = okT α (.fr (Enc.es α) m.length d (encL m)) := by
  rw [mrgT_fr h0]
  refine ⟨?_, rfl, ?_⟩
  · show decL m.length _ = m
    rw [decL_congr (e' := encL m) fun i hi => by show Enc.dec (fun j => mrgT false (Enc.enc (l.getD i Enc.dflt) j) (Enc.enc (m.getD i Enc.dflt) j)) = Enc.dec (Enc.enc (m.getD i Enc.dflt)); rw [(EncM.mf _ _).1, Enc.back]]
    exact decL_encL m
  · simp only [okT, cond_false]
    rw [okL_congr (e := fun i j => mrgT false (encL l i j) (encL m i j)) (e' := encL m) fun i hi => (EncM.mf (l.getD i Enc.dflt) (m.getD i Enc.dflt)).2]
/-- a row with one more behind it, as a list -/
theorem app_dec {l : List α} {a : α} {ts : List Td} {e2 : Nat} (h : ∀ j, j < Enc.es α → nthT ts j = Enc.enc a j) (i : Nat) (hi : i < l.length + 1) :
    (Enc.dec (fun j => mrgT (Nat.blt i l.length) (encL l i j) (selT e2 1 ts (i - l.length) j)) : α) = (l ++ [a]).getD i Enc.dflt ∧ Enc.ok α (fun j => mrgT (Nat.blt i l.length) (encL l i j) (selT e2 1 ts (i - l.length) j)) = Enc.ok α (Enc.enc ((l ++ [a]).getD i Enc.dflt)) := by
  have hc := EncM.cong (α := α) (fun j => mrgT (Nat.blt i l.length) (encL l i j) (selT e2 1 ts (i - l.length) j)) (fun j => mrgT (Nat.blt i l.length) (Enc.enc (l.getD i Enc.dflt) j) (Enc.enc a j)) fun j hj => by
    show mrgT _ _ (nthT ts j) = _
    rw [h j hj]; rfl
  rw [hc.1, hc.2]
  by_cases hil : i < l.length
  · have hb : Nat.blt i l.length = true := by simpa using hil
    rw [hb, getD_app_lt _ _ _ hil]
    exact EncM.mt _ _
  · rw [blt_false hil]
    have : i = l.length := by omega
    subst this
    rw [getD_app_ge _ _ _ (Nat.le_refl _), Nat.sub_self]
    exact EncM.mf _ _
theorem listT_app {l : List α} {a : α} {ts : List Td} {es e2 c : Nat} {g : Nat → Nat → Td} (hes : es = Enc.es α) (hg : ∀ i j, g i j = encL l i j) (h : ∀ j, j < Enc.es α → nthT ts j = Enc.enc a j) :
    listT α (.fr es (l.length + 1) c fun i j => mrgT (Nat.blt i l.length) (g i j) (selT e2 1 ts (i - l.length) j)) = l ++ [a] := by
  subst hes
  have hg : g = encL l := by funext i j; exact hg i j
  subst hg
  show decL (l.length + 1) _ = _
  rw [decL_congr (e' := encL (l ++ [a])) fun i hi => by rw [(app_dec h i hi).1]; exact (Enc.back _).symm]
  have := decL_encL (l ++ [a])
  rw [List.length_append] at this
  exact this
theorem okT_app {l : List α} {a : α} {ts : List Td} {es e2 c : Nat} {g : Nat → Nat → Td} (hes : es = Enc.es α) (hg : ∀ i j, g i j = encL l i j) (h : ∀ j, j < Enc.es α → nthT ts j = Enc.enc a j) (hok : (l ++ [a]).all (okA α) = true) (hc : c ≤ 1) (hl : l.length + 1 ≤ 1000000) :
    okT α (.fr es (l.length + 1) c fun i j => mrgT (Nat.blt i l.length) (g i j) (selT e2 1 ts (i - l.length) j)) = true := by
  subst hes
  have hg : g = encL l := by funext i j; exact hg i j
  subst hg
  simp only [okT, Bool.or_eq_true, Bool.and_eq_true]
  refine .inl ⟨⟨⟨Nat.beq_refl _, ?_⟩, Nat.ble_eq_true_of_le hc⟩, Nat.ble_eq_true_of_le hl⟩
  rw [okL_congr (e' := encL (l ++ [a])) fun i hi => (app_dec h i hi).2]
  have := okL_encL hok
  rw [List.length_append] at this
  exact this
end
end Go.Proofs.Ytncndnlbiijdoaa.Ev
