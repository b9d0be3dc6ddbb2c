/-
  SameVals, slices.Clone of values: told to the evaluator.
-/
import Derived.Test.YtaceobjppcmhjaaMlSC
import Derived.Test.YtaceobjppcmhjaaOut
set_option linter.unusedVariables false
set_option linter.unusedSimpArgs false
set_option maxRecDepth 1000000
namespace Go.Proofs.Ytaceobjppcmhjaa.Ev
open Go Go.Proofs Go.RowKit

def toldS : Told := toldA.tree 11 (ok2 Vl Vl fun _ _ _ _ => true) (ans2 Vl Vl fun l _ m _ => bAns (sameVs l m))
theorem toldS_ok : ToldS Try.prog toldS := Told.tree_ok toldA_ok same_told
theorem cloneV_told : ToldW Try.prog 23 (okC 3) (ansC 3) := clone_told follows (fun n c f β K => by kernel_rfl) (fun es' f β K => by kernel_rfl)
def toldV : Told := toldS.tree 23 (okC 3) (ansC 3)
theorem toldV_ok : ToldS Try.prog toldV := Told.tree_ok toldS_ok cloneV_told
/-- values as cells -/
def vcells : List Vl → List Value
  | [] => []
  | v :: l => .int .i64 v.k :: .int .i64 v.i :: .float .f64 v.f :: vcells l
theorem vcells_len (l : List Vl) : (vcells l).length = l.length * 3 := by
  induction l with
  | nil => rfl
  | cons v l ih => simp only [vcells, List.length_cons, ih]; omega
theorem vcells_get : ∀ (l : List Vl) (i j : Nat), i < l.length → j < 3 → ∃ x, (vcells l)[i * 3 + j]? = some x ∧ scalT x = true ∧ encL l i j = .sc x := by
  intro l
  induction l with
  | nil => intro i j h; simp at h
  | cons v l ih =>
    intro i j hi hj
    cases i with
    | zero =>
      match j, hj with
      | 0, _ => exact ⟨_, rfl, rfl, rfl⟩
      | 1, _ => exact ⟨_, rfl, rfl, rfl⟩
      | 2, _ => exact ⟨_, rfl, rfl, rfl⟩
    | succ i =>
      obtain ⟨x, h1, h2, h3⟩ := ih i j (by simpa using hi) hj
      refine ⟨x, ?_, h2, ?_⟩
      · have : (i + 1) * 3 + j = i * 3 + j + 1 + 1 + 1 := by omega
        rw [this]
        show (vcells l)[i * 3 + j]? = some x
        exact h1
      · rw [← h3]; rfl
/-- cells of one's own that are values -/
theorem own_vals {L : List Vl} {N k cap : Nat} {cs : List Value} (hk : k < N) (hcs : cs = vcells L) (hcap : cap = L.length) : raE (mkS (atL N k (.cells cs true 3))) (ownL L 0) (.slice (some ⟨k, 0, none⟩) L.length cap) [k] := by
  subst hcs hcap
  refine .inr (.inr ⟨k, 0, L.length, vcells L, true, 3, rfl, rfl, atL_get hk, rfl, (fun h => by cases h), fun _ => by rw [vcells_len, Nat.zero_add]; exact Nat.le_refl _, fun i hi j hj => ?_⟩)
  rw [Nat.zero_add]
  exact vcells_get L i j hi hj
end Go.Proofs.Ytaceobjppcmhjaa.Ev
