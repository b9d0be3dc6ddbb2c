/-
  slices.Equal tells whether two rows of bytes are the same.
-/
import Derived.Test.YtiodkfbmcnfooaaEqUV
set_option linter.unusedVariables false
set_option linter.unusedSimpArgs false
namespace Go.Proofs.Ytiodkfbmcnfooaa.Ev
open Go Go.Proofs Go.RowKit

theorem sameU_iff (l m : List U8) (h : l.length = m.length) : sameU l m = true ↔ ∀ i, i < l.length → (l.getD i Enc.dflt).v = (m.getD i Enc.dflt).v := by
  unfold sameU
  rw [decide_eq_true h, Bool.true_and, List.all_eq_true]
  exact ⟨fun h j hj => of_decide_eq_true (h j (List.mem_range.2 hj)), fun h j hj => decide_eq_true (h j (List.mem_range.1 hj))⟩
theorem u8_ext {a b : U8} (h : a.v = b.v) : a = b := by cases a; cases b; simp at h; subst h; rfl
theorem sameU_eq (l m : List U8) : sameU l m = true ↔ l = m := by
  constructor
  · intro h
    have hl : l.length = m.length := by
      unfold sameU at h
      rw [Bool.and_eq_true] at h
      exact of_decide_eq_true h.1
    have h2 := (sameU_iff l m hl).1 h
    apply List.ext_getElem hl
    intro i h1 h3
    have := h2 i h1
    simp [List.getD, h1, h3] at this
    exact u8_ext this
  · intro h
    subst h
    exact (sameU_iff l l rfl).2 fun _ _ => rfl
theorem sameU_self (l : List U8) : sameU l l = true := (sameU_eq l l).2 rfl
theorem eq_round {l m : List U8} {c d : Nat} {β : Bs} (hβ : β.X.length = 2) (hn : l.length = m.length) (hn6 : l.length ≤ 1000000) (K : Kt) (h1 : sameU l m = true → K (.exit 0) (FE l m c d l.length) (SE l m)) (h2 : sameU l m = false → K .ret (FEr false) (SE l m)) (k : Nat) (hk : k ≤ l.length ∧ ∀ j, j < k → (l.getD j Enc.dflt).v = (m.getD j Enc.dflt).v) :
    J Try.prog β (loopOf Try.prog 19 0) (FE l m c d k) (SE l m) (Nn β (fun k : Nat => k ≤ l.length ∧ ∀ j, j < k → (l.getD j Enc.dflt).v = (m.getD j Enc.dflt).v) (fun k => l.length - k) (fun k => FE l m c d k) (fun _ => SE l m) k K) := by
  refine roundJ_ok (E := 2) (lvs := fun _ => slE) (un := fun _ => 0) (fuel := 100) (n := 20) (ex := fun _ _ => False) follows toldU_ok hβ (lv := lvE) ?_
  rw [vc_eq_r]
  by_cases hkn : k < l.length
  · have c1 : decide ((k : Int) < Int.ofNat l.length) = true := by simpa using hkn
    have c2 : decide ((0 : Int) ≤ (k : Int)) = true := by simp
    have e0 : Int.toNat (k : Int) = k := Int.toNat_natCast k
    have c3 : Nat.blt k l.length = true := by simpa using hkn
    have c4 : Nat.blt k m.length = true := by rw [← hn]; exact c3
    have c5 : Nat.ble 0 k = true := by simp
    have hw : IntKind.wrap .i64 ((k : Int) + 1) = ((k + 1 : Nat) : Int) := w64 (by omega) (by omega)
    simp only [c1, c2, e0, Nat.zero_add, c3, c4, c5, Bool.true_and, br_t, need_t, hw]
    refine br_of (fun q => Nn.ret (Seen.refl _ _ _) (h2 ?_)) (fun q => ?_)
    · cases hq : sameU l m with
      | false => rfl
      | true =>
        have := (sameU_iff l m hn).1 hq k hkn
        rw [this] at q
        simp at q
    · refine Nn.next (I := fun k : Nat => k ≤ l.length ∧ ∀ j, j < k → (l.getD j Enc.dflt).v = (m.getD j Enc.dflt).v) (m := fun k => l.length - k) (F := fun k : Nat => FE l m c d k) (S := fun _ => SE l m) (p := k) (k + 1) ⟨hkn, fun j hj => ?_⟩ (by omega) (Seen.refl _ _ _)
      by_cases hjk : j < k
      · exact hk.2 j hjk
      · have : j = k := by omega
        subst this
        simpa using q
  · have c1 : decide ((k : Int) < Int.ofNat l.length) = false := by simpa using hkn
    have hkn' : k = l.length := by omega
    simp only [c1, br_f]
    subst hkn'
    exact Nn.exit (Seen.refl _ _ _) (h1 ((sameU_iff l m hn).2 hk.2))
theorem equal_told : ToldW Try.prog 19 (ok2 U8 U8 fun _ _ _ _ => true) (ans2 U8 U8 fun l _ m _ => bAns (sameU l m)) := by
  refine told2 follows fun l c m d hl hc hm hd _ => ⟨toldU, 100, 20, fun _ => 0, fun _ => slE, exE l m c d, toldU_ok, fun β hβ => ?_⟩
  show lawE _ _ _ _ _ _ (cnOf 2 fun _ => slE) _ _ _ _ _
  have hK : ∀ b, sameU l m = b → ansE (bAns (sameU l m)) (.returned (.bool b)) st0 := fun b hb => by subst hb; exact bAns_ok _ _
  rw [bAns_any, vc_eq l m c d β fun r => ansE (bAns (sameU l m)) r st0]
  refine br_of (fun h => ?_) (fun h => ⟨?_, fun h1 => hK true h1, fun h1 => hK false h1⟩)
  · have : ¬ l.length = m.length := by simp at h; omega
    exact hK false (by simp only [sameU]; rw [decide_eq_false this, Bool.false_and])
  · have hn : l.length = m.length := by simp at h; omega
    exact loop_rule (fun k : Nat => k ≤ l.length ∧ ∀ j, j < k → (l.getD j Enc.dflt).v = (m.getD j Enc.dflt).v) (fun k => FE l m c d k) (fun _ => SE l m) (fun k => l.length - k) (fun k hk K hK => eq_round hβ hn hl K hK.1 hK.2 k hk) 0 ⟨Nat.zero_le _, fun j hj => by omega⟩
def toldE : Told := toldU.tree 19 (ok2 U8 U8 fun _ _ _ _ => true) (ans2 U8 U8 fun l _ m _ => bAns (sameU l m))
theorem toldE_ok : ToldS Try.prog toldE := Told.tree_ok toldU_ok equal_told
end Go.Proofs.Ytiodkfbmcnfooaa.Ev
