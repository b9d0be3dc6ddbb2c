/-
  HistForms answers true, and leaves what there was as it was. No condition.
-/
import Derived.Test.YtjibiphgbhlhkaaHistR0
import Derived.Test.YtjibiphgbhlhkaaHistR1
import Derived.Test.YtjibiphgbhlhkaaHistR2
import Derived.Test.YtjibiphgbhlhkaaHistR3
import Derived.Test.YtjibiphgbhlhkaaHistR4
import Derived.Test.YtjibiphgbhlhkaaHistR5
import Derived.Test.YtjibiphgbhlhkaaHistR6
import Derived.Test.YtjibiphgbhlhkaaHistR7
import Derived.Test.YtjibiphgbhlhkaaHistR8
import Derived.Test.YtjibiphgbhlhkaaHistR9
import Derived.Test.YtjibiphgbhlhkaaHistR10
import Derived.Test.YtjibiphgbhlhkaaHistR11
set_option linter.unusedVariables false
set_option maxRecDepth 1000000
namespace Go.Proofs.Ytjibiphgbhlhkaa.Ev
open Go Go.Proofs Go.RowKit
def NnH (β : Bs) (k : Nat) (K : Kt) : Kt := fun x f st =>
  (x = .normal ∧ ∃ p' : Nat, p' ≤ 22 ∧ 22 - p' < 22 - k ∧ Seen β f st (FH p') SH) ∨ (x ≠ .normal ∧ (∀ v, x ≠ .panic v) ∧ ∃ f1 st1, Seen β f st f1 st1 ∧ K x f1 st1)
theorem hj0 (β : Bs) (hE : β.X.length = 0) (K : Kt) (hK : K (.exit 0) (mkF 167 []) (mkS [])) : J Try.prog β (loopOf Try.prog 5 0) (FH (0 : Nat)) SH (fun x f st => NnH β 0 K x f st) := by
  refine roundJ_ok (E := 0) (lvs := fun _ => []) (un := fun _ => 0) (fuel := 100) (n := 60) (ex := fun _ _ => False) follows toldB_ok hE (lv := lvH) ?_
  show roundJ _ _ _ _ _ _ _ _ _ _ _ _ (FH 0) _ _
  rw [hr0]
  exact .inl ⟨rfl, 1, by decide, by decide, Seen.refl _ _ _⟩
theorem hj1 (β : Bs) (hE : β.X.length = 0) (K : Kt) (hK : K (.exit 0) (mkF 167 []) (mkS [])) : J Try.prog β (loopOf Try.prog 5 0) (FH (1 : Nat)) SH (fun x f st => NnH β 1 K x f st) := by
  refine roundJ_ok (E := 0) (lvs := fun _ => []) (un := fun _ => 0) (fuel := 100) (n := 60) (ex := fun _ _ => False) follows toldB_ok hE (lv := lvH) ?_
  show roundJ _ _ _ _ _ _ _ _ _ _ _ _ (FH 1) _ _
  rw [hr1]
  exact .inl ⟨rfl, 2, by decide, by decide, Seen.refl _ _ _⟩
theorem hj2 (β : Bs) (hE : β.X.length = 0) (K : Kt) (hK : K (.exit 0) (mkF 167 []) (mkS [])) : J Try.prog β (loopOf Try.prog 5 0) (FH (2 : Nat)) SH (fun x f st => NnH β 2 K x f st) := by
  refine roundJ_ok (E := 0) (lvs := fun _ => []) (un := fun _ => 0) (fuel := 100) (n := 60) (ex := fun _ _ => False) follows toldB_ok hE (lv := lvH) ?_
  show roundJ _ _ _ _ _ _ _ _ _ _ _ _ (FH 2) _ _
  rw [hr2]
  exact .inl ⟨rfl, 3, by decide, by decide, Seen.refl _ _ _⟩
theorem hj3 (β : Bs) (hE : β.X.length = 0) (K : Kt) (hK : K (.exit 0) (mkF 167 []) (mkS [])) : J Try.prog β (loopOf Try.prog 5 0) (FH (3 : Nat)) SH (fun x f st => NnH β 3 K x f st) := by
  refine roundJ_ok (E := 0) (lvs := fun _ => []) (un := fun _ => 0) (fuel := 100) (n := 60) (ex := fun _ _ => False) follows toldB_ok hE (lv := lvH) ?_
  show roundJ _ _ _ _ _ _ _ _ _ _ _ _ (FH 3) _ _
  rw [hr3]
  exact .inl ⟨rfl, 4, by decide, by decide, Seen.refl _ _ _⟩
theorem hj4 (β : Bs) (hE : β.X.length = 0) (K : Kt) (hK : K (.exit 0) (mkF 167 []) (mkS [])) : J Try.prog β (loopOf Try.prog 5 0) (FH (4 : Nat)) SH (fun x f st => NnH β 4 K x f st) := by
  refine roundJ_ok (E := 0) (lvs := fun _ => []) (un := fun _ => 0) (fuel := 100) (n := 60) (ex := fun _ _ => False) follows toldB_ok hE (lv := lvH) ?_
  show roundJ _ _ _ _ _ _ _ _ _ _ _ _ (FH 4) _ _
  rw [hr4]
  exact .inl ⟨rfl, 5, by decide, by decide, Seen.refl _ _ _⟩
theorem hj5 (β : Bs) (hE : β.X.length = 0) (K : Kt) (hK : K (.exit 0) (mkF 167 []) (mkS [])) : J Try.prog β (loopOf Try.prog 5 0) (FH (5 : Nat)) SH (fun x f st => NnH β 5 K x f st) := by
  refine roundJ_ok (E := 0) (lvs := fun _ => []) (un := fun _ => 0) (fuel := 100) (n := 60) (ex := fun _ _ => False) follows toldB_ok hE (lv := lvH) ?_
  show roundJ _ _ _ _ _ _ _ _ _ _ _ _ (FH 5) _ _
  rw [hr5]
  exact .inl ⟨rfl, 6, by decide, by decide, Seen.refl _ _ _⟩
theorem hj6 (β : Bs) (hE : β.X.length = 0) (K : Kt) (hK : K (.exit 0) (mkF 167 []) (mkS [])) : J Try.prog β (loopOf Try.prog 5 0) (FH (6 : Nat)) SH (fun x f st => NnH β 6 K x f st) := by
  refine roundJ_ok (E := 0) (lvs := fun _ => []) (un := fun _ => 0) (fuel := 100) (n := 60) (ex := fun _ _ => False) follows toldB_ok hE (lv := lvH) ?_
  show roundJ _ _ _ _ _ _ _ _ _ _ _ _ (FH 6) _ _
  rw [hr6]
  exact .inl ⟨rfl, 7, by decide, by decide, Seen.refl _ _ _⟩
theorem hj7 (β : Bs) (hE : β.X.length = 0) (K : Kt) (hK : K (.exit 0) (mkF 167 []) (mkS [])) : J Try.prog β (loopOf Try.prog 5 0) (FH (7 : Nat)) SH (fun x f st => NnH β 7 K x f st) := by
  refine roundJ_ok (E := 0) (lvs := fun _ => []) (un := fun _ => 0) (fuel := 100) (n := 60) (ex := fun _ _ => False) follows toldB_ok hE (lv := lvH) ?_
  show roundJ _ _ _ _ _ _ _ _ _ _ _ _ (FH 7) _ _
  rw [hr7]
  exact .inl ⟨rfl, 8, by decide, by decide, Seen.refl _ _ _⟩
theorem hj8 (β : Bs) (hE : β.X.length = 0) (K : Kt) (hK : K (.exit 0) (mkF 167 []) (mkS [])) : J Try.prog β (loopOf Try.prog 5 0) (FH (8 : Nat)) SH (fun x f st => NnH β 8 K x f st) := by
  refine roundJ_ok (E := 0) (lvs := fun _ => []) (un := fun _ => 0) (fuel := 100) (n := 60) (ex := fun _ _ => False) follows toldB_ok hE (lv := lvH) ?_
  show roundJ _ _ _ _ _ _ _ _ _ _ _ _ (FH 8) _ _
  rw [hr8]
  exact .inl ⟨rfl, 9, by decide, by decide, Seen.refl _ _ _⟩
theorem hj9 (β : Bs) (hE : β.X.length = 0) (K : Kt) (hK : K (.exit 0) (mkF 167 []) (mkS [])) : J Try.prog β (loopOf Try.prog 5 0) (FH (9 : Nat)) SH (fun x f st => NnH β 9 K x f st) := by
  refine roundJ_ok (E := 0) (lvs := fun _ => []) (un := fun _ => 0) (fuel := 100) (n := 60) (ex := fun _ _ => False) follows toldB_ok hE (lv := lvH) ?_
  show roundJ _ _ _ _ _ _ _ _ _ _ _ _ (FH 9) _ _
  rw [hr9]
  exact .inl ⟨rfl, 10, by decide, by decide, Seen.refl _ _ _⟩
theorem hj10 (β : Bs) (hE : β.X.length = 0) (K : Kt) (hK : K (.exit 0) (mkF 167 []) (mkS [])) : J Try.prog β (loopOf Try.prog 5 0) (FH (10 : Nat)) SH (fun x f st => NnH β 10 K x f st) := by
  refine roundJ_ok (E := 0) (lvs := fun _ => []) (un := fun _ => 0) (fuel := 100) (n := 60) (ex := fun _ _ => False) follows toldB_ok hE (lv := lvH) ?_
  show roundJ _ _ _ _ _ _ _ _ _ _ _ _ (FH 10) _ _
  rw [hr10]
  exact .inl ⟨rfl, 11, by decide, by decide, Seen.refl _ _ _⟩
theorem hj11 (β : Bs) (hE : β.X.length = 0) (K : Kt) (hK : K (.exit 0) (mkF 167 []) (mkS [])) : J Try.prog β (loopOf Try.prog 5 0) (FH (11 : Nat)) SH (fun x f st => NnH β 11 K x f st) := by
  refine roundJ_ok (E := 0) (lvs := fun _ => []) (un := fun _ => 0) (fuel := 100) (n := 60) (ex := fun _ _ => False) follows toldB_ok hE (lv := lvH) ?_
  show roundJ _ _ _ _ _ _ _ _ _ _ _ _ (FH 11) _ _
  rw [hr11]
  exact .inl ⟨rfl, 12, by decide, by decide, Seen.refl _ _ _⟩
theorem hj12 (β : Bs) (hE : β.X.length = 0) (K : Kt) (hK : K (.exit 0) (mkF 167 []) (mkS [])) : J Try.prog β (loopOf Try.prog 5 0) (FH (12 : Nat)) SH (fun x f st => NnH β 12 K x f st) := by
  refine roundJ_ok (E := 0) (lvs := fun _ => []) (un := fun _ => 0) (fuel := 100) (n := 60) (ex := fun _ _ => False) follows toldB_ok hE (lv := lvH) ?_
  show roundJ _ _ _ _ _ _ _ _ _ _ _ _ (FH 12) _ _
  rw [hr12]
  exact .inl ⟨rfl, 13, by decide, by decide, Seen.refl _ _ _⟩
theorem hj13 (β : Bs) (hE : β.X.length = 0) (K : Kt) (hK : K (.exit 0) (mkF 167 []) (mkS [])) : J Try.prog β (loopOf Try.prog 5 0) (FH (13 : Nat)) SH (fun x f st => NnH β 13 K x f st) := by
  refine roundJ_ok (E := 0) (lvs := fun _ => []) (un := fun _ => 0) (fuel := 100) (n := 60) (ex := fun _ _ => False) follows toldB_ok hE (lv := lvH) ?_
  show roundJ _ _ _ _ _ _ _ _ _ _ _ _ (FH 13) _ _
  rw [hr13]
  exact .inl ⟨rfl, 14, by decide, by decide, Seen.refl _ _ _⟩
theorem hj14 (β : Bs) (hE : β.X.length = 0) (K : Kt) (hK : K (.exit 0) (mkF 167 []) (mkS [])) : J Try.prog β (loopOf Try.prog 5 0) (FH (14 : Nat)) SH (fun x f st => NnH β 14 K x f st) := by
  refine roundJ_ok (E := 0) (lvs := fun _ => []) (un := fun _ => 0) (fuel := 100) (n := 60) (ex := fun _ _ => False) follows toldB_ok hE (lv := lvH) ?_
  show roundJ _ _ _ _ _ _ _ _ _ _ _ _ (FH 14) _ _
  rw [hr14]
  exact .inl ⟨rfl, 15, by decide, by decide, Seen.refl _ _ _⟩
theorem hj15 (β : Bs) (hE : β.X.length = 0) (K : Kt) (hK : K (.exit 0) (mkF 167 []) (mkS [])) : J Try.prog β (loopOf Try.prog 5 0) (FH (15 : Nat)) SH (fun x f st => NnH β 15 K x f st) := by
  refine roundJ_ok (E := 0) (lvs := fun _ => []) (un := fun _ => 0) (fuel := 100) (n := 60) (ex := fun _ _ => False) follows toldB_ok hE (lv := lvH) ?_
  show roundJ _ _ _ _ _ _ _ _ _ _ _ _ (FH 15) _ _
  rw [hr15]
  exact .inl ⟨rfl, 16, by decide, by decide, Seen.refl _ _ _⟩
theorem hj16 (β : Bs) (hE : β.X.length = 0) (K : Kt) (hK : K (.exit 0) (mkF 167 []) (mkS [])) : J Try.prog β (loopOf Try.prog 5 0) (FH (16 : Nat)) SH (fun x f st => NnH β 16 K x f st) := by
  refine roundJ_ok (E := 0) (lvs := fun _ => []) (un := fun _ => 0) (fuel := 100) (n := 60) (ex := fun _ _ => False) follows toldB_ok hE (lv := lvH) ?_
  show roundJ _ _ _ _ _ _ _ _ _ _ _ _ (FH 16) _ _
  rw [hr16]
  exact .inl ⟨rfl, 17, by decide, by decide, Seen.refl _ _ _⟩
theorem hj17 (β : Bs) (hE : β.X.length = 0) (K : Kt) (hK : K (.exit 0) (mkF 167 []) (mkS [])) : J Try.prog β (loopOf Try.prog 5 0) (FH (17 : Nat)) SH (fun x f st => NnH β 17 K x f st) := by
  refine roundJ_ok (E := 0) (lvs := fun _ => []) (un := fun _ => 0) (fuel := 100) (n := 60) (ex := fun _ _ => False) follows toldB_ok hE (lv := lvH) ?_
  show roundJ _ _ _ _ _ _ _ _ _ _ _ _ (FH 17) _ _
  rw [hr17]
  exact .inl ⟨rfl, 18, by decide, by decide, Seen.refl _ _ _⟩
theorem hj18 (β : Bs) (hE : β.X.length = 0) (K : Kt) (hK : K (.exit 0) (mkF 167 []) (mkS [])) : J Try.prog β (loopOf Try.prog 5 0) (FH (18 : Nat)) SH (fun x f st => NnH β 18 K x f st) := by
  refine roundJ_ok (E := 0) (lvs := fun _ => []) (un := fun _ => 0) (fuel := 100) (n := 60) (ex := fun _ _ => False) follows toldB_ok hE (lv := lvH) ?_
  show roundJ _ _ _ _ _ _ _ _ _ _ _ _ (FH 18) _ _
  rw [hr18]
  exact .inl ⟨rfl, 19, by decide, by decide, Seen.refl _ _ _⟩
theorem hj19 (β : Bs) (hE : β.X.length = 0) (K : Kt) (hK : K (.exit 0) (mkF 167 []) (mkS [])) : J Try.prog β (loopOf Try.prog 5 0) (FH (19 : Nat)) SH (fun x f st => NnH β 19 K x f st) := by
  refine roundJ_ok (E := 0) (lvs := fun _ => []) (un := fun _ => 0) (fuel := 100) (n := 60) (ex := fun _ _ => False) follows toldB_ok hE (lv := lvH) ?_
  show roundJ _ _ _ _ _ _ _ _ _ _ _ _ (FH 19) _ _
  rw [hr19]
  exact .inl ⟨rfl, 20, by decide, by decide, Seen.refl _ _ _⟩
theorem hj20 (β : Bs) (hE : β.X.length = 0) (K : Kt) (hK : K (.exit 0) (mkF 167 []) (mkS [])) : J Try.prog β (loopOf Try.prog 5 0) (FH (20 : Nat)) SH (fun x f st => NnH β 20 K x f st) := by
  refine roundJ_ok (E := 0) (lvs := fun _ => []) (un := fun _ => 0) (fuel := 100) (n := 60) (ex := fun _ _ => False) follows toldB_ok hE (lv := lvH) ?_
  show roundJ _ _ _ _ _ _ _ _ _ _ _ _ (FH 20) _ _
  rw [hr20]
  exact .inl ⟨rfl, 21, by decide, by decide, Seen.refl _ _ _⟩
theorem hj21 (β : Bs) (hE : β.X.length = 0) (K : Kt) (hK : K (.exit 0) (mkF 167 []) (mkS [])) : J Try.prog β (loopOf Try.prog 5 0) (FH (21 : Nat)) SH (fun x f st => NnH β 21 K x f st) := by
  refine roundJ_ok (E := 0) (lvs := fun _ => []) (un := fun _ => 0) (fuel := 100) (n := 60) (ex := fun _ _ => False) follows toldB_ok hE (lv := lvH) ?_
  show roundJ _ _ _ _ _ _ _ _ _ _ _ _ (FH 21) _ _
  rw [hr21]
  exact .inl ⟨rfl, 22, by decide, by decide, Seen.refl _ _ _⟩
theorem hj22 (β : Bs) (hE : β.X.length = 0) (K : Kt) (hK : K (.exit 0) (mkF 167 []) (mkS [])) : J Try.prog β (loopOf Try.prog 5 0) (FH (22 : Nat)) SH (fun x f st => NnH β 22 K x f st) := by
  refine roundJ_ok (E := 0) (lvs := fun _ => []) (un := fun _ => 0) (fuel := 100) (n := 60) (ex := fun _ _ => False) follows toldB_ok hE (lv := lvH) ?_
  show roundJ _ _ _ _ _ _ _ _ _ _ _ _ (FH 22) _ _
  rw [hr22]
  exact .inr ⟨by simp, by simp, _, _, Seen.refl _ _ _, hK⟩
theorem h_J (β : Bs) (hE : β.X.length = 0) (K : Kt) (hK : K (.exit 0) (mkF 167 []) (mkS [])) (k : Nat) (hk : k ≤ 22) : J Try.prog β (loopOf Try.prog 5 0) (FH k) SH (fun x f st => NnH β k K x f st) := by
  match k, hk with
  | 0, _ => exact hj0 β hE K hK
  | 1, _ => exact hj1 β hE K hK
  | 2, _ => exact hj2 β hE K hK
  | 3, _ => exact hj3 β hE K hK
  | 4, _ => exact hj4 β hE K hK
  | 5, _ => exact hj5 β hE K hK
  | 6, _ => exact hj6 β hE K hK
  | 7, _ => exact hj7 β hE K hK
  | 8, _ => exact hj8 β hE K hK
  | 9, _ => exact hj9 β hE K hK
  | 10, _ => exact hj10 β hE K hK
  | 11, _ => exact hj11 β hE K hK
  | 12, _ => exact hj12 β hE K hK
  | 13, _ => exact hj13 β hE K hK
  | 14, _ => exact hj14 β hE K hK
  | 15, _ => exact hj15 β hE K hK
  | 16, _ => exact hj16 β hE K hK
  | 17, _ => exact hj17 β hE K hK
  | 18, _ => exact hj18 β hE K hK
  | 19, _ => exact hj19 β hE K hK
  | 20, _ => exact hj20 β hE K hK
  | 21, _ => exact hj21 β hE K hK
  | 22, _ => exact hj22 β hE K hK
  | n + 23, h => omega
theorem h_loop (β : Bs) (hE : β.X.length = 0) : LoopJ Try.prog β exH 0 (loopOf Try.prog 5 0) (FH (0 : Nat)) SH :=
  loop_rule (fun k : Nat => k ≤ 22) (fun k => FH k) (fun _ => SH) (fun k => 22 - k) (fun k hk K hK => (h_J β hE K hK k hk).mono fun x f st h => h) 0 (by omega)
theorem forms_law (w : World) : Calls Try.prog 5 #[] w fun e w' => e = .returned (.bool true) ∧ Below w.heap.size w w' := by
  refine law_scal (args := []) (fuel := 100) (n := 60) (un := fun _ => 0) (lvs := fun _ => [9, 10, 11]) (ex := exH) follows toldB_ok rfl w fun β hβ => ?_
  rw [vc_hf]
  exact ⟨h_loop β (by rw [hβ]; rfl), trivial⟩
end Go.Proofs.Ytjibiphgbhlhkaa.Ev
