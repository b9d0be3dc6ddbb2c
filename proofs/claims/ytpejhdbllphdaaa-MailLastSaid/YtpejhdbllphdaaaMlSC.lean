/-
  SameVals tells whether two rows of values are the same.
-/
import Derived.Test.YtpejhdbllphdaaaMlSV
set_option linter.unusedVariables false
set_option linter.unusedSimpArgs false
namespace Go.Proofs.Ytpejhdbllphdaaa.Ev
open Go Go.Proofs Go.RowKit

theorem sameVs_iff (l m : List Vl) (h : l.length = m.length) : sameVs l m = true ↔ ∀ i, i < l.length → sameVl (l.getD i Enc.dflt) (m.getD i Enc.dflt) = true := by
  unfold sameVs
  rw [decide_eq_true h, Bool.true_and, List.all_eq_true]
  exact ⟨fun h j hj => h j (List.mem_range.2 hj), fun h j hj => h j (List.mem_range.1 hj)⟩
theorem sv_round {l m : List Vl} {c d : Nat} {β : Bs} (hβ : β.X.length = 2) (hn : l.length = m.length) (hn6 : l.length ≤ 1000000) (K : Kt) (h1 : sameVs l m = true → K (.exit 0) (FV l m c d l.length) (SV l m)) (h2 : sameVs l m = false → K .ret (FVr false) (SV l m)) (k : Nat) (hk : k ≤ l.length ∧ ∀ j, j < k → sameVl (l.getD j Enc.dflt) (m.getD j Enc.dflt) = true) :
    J Try.prog β (loopOf Try.prog 12 0) (FV l m c d k) (SV l m) (Nn β (fun k : Nat => k ≤ l.length ∧ ∀ j, j < k → sameVl (l.getD j Enc.dflt) (m.getD j Enc.dflt) = true) (fun k => l.length - k) (fun k => FV l m c d k) (fun _ => SV l m) k K) := by
  refine roundJ_ok (E := 2) (lvs := fun _ => slV) (un := fun _ => 0) (fuel := 100) (n := 20) (ex := fun _ _ => False) follows toldA_ok hβ (lv := lvV) ?_
  rw [vc_sv_r]
  by_cases hkn : k < l.length
  · have c1 : decide ((k : Int) < Int.ofNat l.length) = true := by simpa using hkn
    have c2 : decide ((0 : Int) ≤ (k : Int)) = true := by simp
    have e0 : Int.toNat (k : Int) = k := Int.toNat_natCast k
    have c3 : Nat.blt k l.length = true := by simpa using hkn
    have c4 : Nat.blt k m.length = true := by rw [← hn]; exact c3
    have c5 : Nat.ble 0 k = true := by simp
    have hw : IntKind.wrap .i64 ((k : Int) + 1) = ((k + 1 : Nat) : Int) := w64 (by omega) (by omega)
    simp only [c1, c2, e0, Nat.zero_add, c3, c4, c5, Bool.true_and, br_t, need_t, hw]
    have hbad : sameVl (l.getD k Enc.dflt) (m.getD k Enc.dflt) = false → onP (Nn β (fun k : Nat => k ≤ l.length ∧ ∀ j, j < k → sameVl (l.getD j Enc.dflt) (m.getD j Enc.dflt) = true) (fun k => l.length - k) (fun k => FV l m c d k) (fun _ => SV l m) k K) .ret (shpW l m false) := fun h =>
      Nn.ret (Seen.refl _ _ _) (h2 (by
        cases hq : sameVs l m with
        | false => rfl
        | true => have := (sameVs_iff l m hn).1 hq k hkn; rw [h] at this; cases this))
    have hgood : sameVl (l.getD k Enc.dflt) (m.getD k Enc.dflt) = true → onP (Nn β (fun k : Nat => k ≤ l.length ∧ ∀ j, j < k → sameVl (l.getD j Enc.dflt) (m.getD j Enc.dflt) = true) (fun k => l.length - k) (fun k => FV l m c d k) (fun _ => SV l m) k K) .normal (shpV l m c d ((k + 1 : Nat) : Int)) := fun h =>
      Nn.next (k + 1) ⟨hkn, fun j hj => by
        by_cases hjk : j < k
        · exact hk.2 j hjk
        · have : j = k := by omega
          subst this; exact h⟩ (by omega) (Seen.refl _ _ _)
    generalize l.getD k Enc.dflt = a at hbad hgood ⊢
    generalize m.getD k Enc.dflt = b at hbad hgood ⊢
    refine br_of (fun q1 => ?_) (fun q1 => hbad ?_)
    · refine br_of (fun q2 => ?_) (fun q2 => hbad ?_)
      · refine br_of (fun q3 => hbad ?_) (fun q3 => hgood ?_)
        · simp only [sameVl]; rw [Bool.not_eq_true'] at q3; rw [q3, Bool.and_false]
        · simp only [sameVl]
          rw [Bool.not_eq_false'] at q3
          rw [q3, Bool.and_true]
          exact Bool.and_eq_true_iff.2 ⟨decide_eq_true (eq_of_beq q1), decide_eq_true (eq_of_beq q2)⟩
      · simp only [sameVl]; rw [decide_eq_false (show ¬ a.i = b.i from fun h => by rw [h, beq_self_eq_true] at q2; cases q2), Bool.and_false, Bool.false_and]
    · simp only [sameVl]; rw [decide_eq_false (show ¬ a.k = b.k from fun h => by rw [h, beq_self_eq_true] at q1; cases q1), Bool.false_and, Bool.false_and]
  · have c1 : decide ((k : Int) < Int.ofNat l.length) = false := by simpa using hkn
    have hkn' : k = l.length := by omega
    simp only [c1, br_f]
    subst hkn'
    exact Nn.exit (Seen.refl _ _ _) (h1 ((sameVs_iff l m hn).2 hk.2))
theorem same_told : ToldW Try.prog 12 (ok2 Vl Vl fun _ _ _ _ => true) (ans2 Vl Vl fun l _ m _ => bAns (sameVs l m)) := by
  refine told2 follows fun l c m d hl hc hm hd _ => ⟨toldA, 100, 20, fun _ => 0, fun _ => slV, exV l m c d, toldA_ok, fun β hβ => ?_⟩
  show lawE _ _ _ _ _ _ (cnOf 2 fun _ => slV) _ _ _ _ _
  have hK : ∀ b, sameVs l m = b → ansE (bAns (sameVs l m)) (.returned (.bool b)) st0 := fun b hb => by subst hb; exact bAns_ok _ _
  rw [bAns_any, vc_sv l m c d β fun r => ansE (bAns (sameVs l m)) r st0]
  refine br_of (fun h => ?_) (fun h => ⟨?_, fun h1 => hK true h1, fun h1 => hK false h1⟩)
  · have : ¬ l.length = m.length := by simp at h; omega
    exact hK false (by simp only [sameVs]; rw [decide_eq_false this, Bool.false_and])
  · have hn : l.length = m.length := by simp at h; omega
    exact loop_rule (fun k : Nat => k ≤ l.length ∧ ∀ j, j < k → sameVl (l.getD j Enc.dflt) (m.getD j Enc.dflt) = true) (fun k => FV l m c d k) (fun _ => SV l m) (fun k => l.length - k) (fun k hk K hK => sv_round hβ hn hl K hK.1 hK.2 k hk) 0 ⟨Nat.zero_le _, fun j hj => by omega⟩
end Go.Proofs.Ytpejhdbllphdaaa.Ev
