/-
  SesnForms: what has to hold holds.
-/
import Derived.Test.YtfghnjjmfcnhoaaSesnFV
import Derived.Test.YtfghnjjmfcnhoaaSesnR0
import Derived.Test.YtfghnjjmfcnhoaaSesnR1
import Derived.Test.YtfghnjjmfcnhoaaSesnR2
set_option linter.unusedVariables false
set_option maxRecDepth 1000000
namespace Go.Proofs.Ytfghnjjmfcnhoaa.Ev
open Go Go.Proofs Go.RowKit
def FSn : Nat → AFr
  | 0 => FS0
  | 1 => FS1
  | 2 => FS2
  | 3 => FS3
  | 4 => FS4
  | 5 => FS5
  | _ => FS6
def SSn : Nat → ASt
  | 0 => SS0
  | 1 => SS1
  | 2 => SS2
  | 3 => SS3
  | 4 => SS4
  | 5 => SS5
  | _ => SS6
def NnS (β : Bs) (k : Nat) (K : Kt) : Kt := fun x f st =>
  (x = .normal ∧ ∃ p' : Nat, p' ≤ 6 ∧ 6 - p' < 6 - k ∧ Seen β f st (FSn p') (SSn p')) ∨ (x ≠ .normal ∧ (∀ v, x ≠ .panic v) ∧ ∃ f1 st1, Seen β f st f1 st1 ∧ K x f1 st1)
theorem sj0 (β : Bs) (hE : β.X.length = 0) (K : Kt) (hK : K (.exit 0) FS7 SS7) : J Try.prog β (loopOf Try.prog 3 0) FS0 SS0 (fun x f st => NnS β 0 K x f st) := by
  refine roundJ_ok (E := 0) (lvs := fun _ => []) (un := fun _ => 0) (fuel := 100) (n := 60) (ex := fun _ _ => False) follows toldB_ok hE (lv := lvS) ?_
  rw [sr0]
  exact .inl ⟨rfl, 1, by decide, by decide, Seen.refl _ _ _⟩
theorem sj1 (β : Bs) (hE : β.X.length = 0) (K : Kt) (hK : K (.exit 0) FS7 SS7) : J Try.prog β (loopOf Try.prog 3 0) FS1 SS1 (fun x f st => NnS β 1 K x f st) := by
  refine roundJ_ok (E := 0) (lvs := fun _ => []) (un := fun _ => 0) (fuel := 100) (n := 60) (ex := fun _ _ => False) follows toldB_ok hE (lv := lvS) ?_
  rw [sr1]
  exact .inl ⟨rfl, 2, by decide, by decide, Seen.refl _ _ _⟩
theorem sj2 (β : Bs) (hE : β.X.length = 0) (K : Kt) (hK : K (.exit 0) FS7 SS7) : J Try.prog β (loopOf Try.prog 3 0) FS2 SS2 (fun x f st => NnS β 2 K x f st) := by
  refine roundJ_ok (E := 0) (lvs := fun _ => []) (un := fun _ => 0) (fuel := 100) (n := 60) (ex := fun _ _ => False) follows toldB_ok hE (lv := lvS) ?_
  rw [sr2]
  exact .inl ⟨rfl, 3, by decide, by decide, Seen.refl _ _ _⟩
theorem sj3 (β : Bs) (hE : β.X.length = 0) (K : Kt) (hK : K (.exit 0) FS7 SS7) : J Try.prog β (loopOf Try.prog 3 0) FS3 SS3 (fun x f st => NnS β 3 K x f st) := by
  refine roundJ_ok (E := 0) (lvs := fun _ => []) (un := fun _ => 0) (fuel := 100) (n := 60) (ex := fun _ _ => False) follows toldB_ok hE (lv := lvS) ?_
  rw [sr3]
  exact .inl ⟨rfl, 4, by decide, by decide, Seen.refl _ _ _⟩
theorem sj4 (β : Bs) (hE : β.X.length = 0) (K : Kt) (hK : K (.exit 0) FS7 SS7) : J Try.prog β (loopOf Try.prog 3 0) FS4 SS4 (fun x f st => NnS β 4 K x f st) := by
  refine roundJ_ok (E := 0) (lvs := fun _ => []) (un := fun _ => 0) (fuel := 100) (n := 60) (ex := fun _ _ => False) follows toldB_ok hE (lv := lvS) ?_
  rw [sr4]
  exact .inl ⟨rfl, 5, by decide, by decide, Seen.refl _ _ _⟩
theorem sj5 (β : Bs) (hE : β.X.length = 0) (K : Kt) (hK : K (.exit 0) FS7 SS7) : J Try.prog β (loopOf Try.prog 3 0) FS5 SS5 (fun x f st => NnS β 5 K x f st) := by
  refine roundJ_ok (E := 0) (lvs := fun _ => []) (un := fun _ => 0) (fuel := 100) (n := 60) (ex := fun _ _ => False) follows toldB_ok hE (lv := lvS) ?_
  rw [sr5]
  exact .inl ⟨rfl, 6, by decide, by decide, Seen.refl _ _ _⟩
theorem sj6 (β : Bs) (hE : β.X.length = 0) (K : Kt) (hK : K (.exit 0) FS7 SS7) : J Try.prog β (loopOf Try.prog 3 0) FS6 SS6 (fun x f st => NnS β 6 K x f st) := by
  refine roundJ_ok (E := 0) (lvs := fun _ => []) (un := fun _ => 0) (fuel := 100) (n := 60) (ex := fun _ _ => False) follows toldB_ok hE (lv := lvS) ?_
  rw [sr6]
  exact .inr ⟨by simp, by simp, _, _, Seen.refl _ _ _, hK⟩
theorem s_loop (β : Bs) (hE : β.X.length = 0) : LoopJ Try.prog β exS 0 (loopOf Try.prog 3 0) FS0 SS0 := by
  refine loop_rule (fun k : Nat => k ≤ 6) (fun k => FSn k) (fun k => SSn k) (fun k => 6 - k) (fun k hk K hK => ?_) 0 (by omega)
  have hcase : k = 0 ∨ k = 1 ∨ k = 2 ∨ k = 3 ∨ k = 4 ∨ k = 5 ∨ k = 6 := by omega
  rcases hcase with rfl | rfl | rfl | rfl | rfl | rfl | rfl
  · exact sj0 β hE K hK
  · exact sj1 β hE K hK
  · exact sj2 β hE K hK
  · exact sj3 β hE K hK
  · exact sj4 β hE K hK
  · exact sj5 β hE K hK
  · exact sj6 β hE K hK
theorem forms_law (w : World) : Calls Try.prog 3 #[] w fun e w' => e = .returned (.bool true) ∧ Below w.heap.size w w' := by
  refine law_scal (args := []) (fuel := 100) (n := 60) (un := fun _ => 0) (lvs := fun _ => [2, 3, 4]) (ex := exS) follows toldB_ok rfl w fun β hβ => ?_
  rw [vc_sf]
  exact ⟨s_loop β (by rw [hβ]; rfl), trivial⟩
end Go.Proofs.Ytfghnjjmfcnhoaa.Ev
