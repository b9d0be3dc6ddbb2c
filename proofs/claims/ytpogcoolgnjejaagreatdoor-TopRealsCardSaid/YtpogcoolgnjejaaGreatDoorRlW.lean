/-
  TopReals answers true, whatever its argument is.
-/
import Derived.Test.YtpogcoolgnjejaaGreatDoorRlV
import Derived.Test.YtpogcoolgnjejaaGreatDoorRlH
import Derived.Test.YtpogcoolgnjejaaGreatDoorRlA0
import Derived.Test.YtpogcoolgnjejaaGreatDoorRlC0
import Derived.Test.YtpogcoolgnjejaaGreatDoorRlA1
import Derived.Test.YtpogcoolgnjejaaGreatDoorRlC1
import Derived.Test.YtpogcoolgnjejaaGreatDoorRlA2
import Derived.Test.YtpogcoolgnjejaaGreatDoorRlC2
import Derived.Test.YtpogcoolgnjejaaGreatDoorRlA3
import Derived.Test.YtpogcoolgnjejaaGreatDoorRlC3
import Derived.Test.YtpogcoolgnjejaaGreatDoorRlA4
import Derived.Test.YtpogcoolgnjejaaGreatDoorRlC4
import Derived.Test.YtpogcoolgnjejaaGreatDoorRlA5
import Derived.Test.YtpogcoolgnjejaaGreatDoorRlC5
import Derived.Test.YtpogcoolgnjejaaGreatDoorRlA6
import Derived.Test.YtpogcoolgnjejaaGreatDoorRlC6
import Derived.Test.YtpogcoolgnjejaaGreatDoorRlA7
import Derived.Test.YtpogcoolgnjejaaGreatDoorRlC7
import Derived.Test.YtpogcoolgnjejaaGreatDoorGi
set_option maxRecDepth 1000000
set_option linter.unusedVariables false
namespace Go.Proofs.YtpogcoolgnjejaaGreatDoor.Ev
open Go Go.RowKit
theorem rlHd_all {i : Nat} (hi : i < 8) : RlHd i := by
  match i, hi with
  | 0, _ => exact rlhd0
  | 1, _ => exact rlhd1
  | 2, _ => exact rlhd2
  | 3, _ => exact rlhd3
  | 4, _ => exact rlhd4
  | 5, _ => exact rlhd5
  | 6, _ => exact rlhd6
  | 7, _ => exact rlhd7
  | i + 8, h => omega
theorem rlFl_all {i : Nat} (hi : i < 8) : RlFl i := by
  match i, hi with
  | 0, _ => exact rlfl0
  | 1, _ => exact rlfl1
  | 2, _ => exact rlfl2
  | 3, _ => exact rlfl3
  | 4, _ => exact rlfl4
  | 5, _ => exact rlfl5
  | 6, _ => exact rlfl6
  | 7, _ => exact rlfl7
  | i + 8, h => omega
theorem rlWr_all {i : Nat} (hi : i < 8) : RlWr i := by
  match i, hi with
  | 0, _ => exact rlwr0
  | 1, _ => exact rlwr1
  | 2, _ => exact rlwr2
  | 3, _ => exact rlwr3
  | 4, _ => exact rlwr4
  | 5, _ => exact rlwr5
  | 6, _ => exact rlwr6
  | 7, _ => exact rlwr7
  | i + 8, h => omega
theorem rlSv_all {i : Nat} (hi : i < 8) : RlSv i := by
  match i, hi with
  | 0, _ => exact rlsv0
  | 1, _ => exact rlsv1
  | 2, _ => exact rlsv2
  | 3, _ => exact rlsv3
  | 4, _ => exact rlsv4
  | 5, _ => exact rlsv5
  | 6, _ => exact rlsv6
  | 7, _ => exact rlsv7
  | i + 8, h => omega
theorem rlSc_all {i : Nat} (hi : i < 8) : RlSc i := by
  match i, hi with
  | 0, _ => exact rlsc0
  | 1, _ => exact rlsc1
  | 2, _ => exact rlsc2
  | 3, _ => exact rlsc3
  | 4, _ => exact rlsc4
  | 5, _ => exact rlsc5
  | 6, _ => exact rlsc6
  | 7, _ => exact rlsc7
  | i + 8, h => omega
theorem rlRd_all {i : Nat} (hi : i < 8) : RlRd i := by
  match i, hi with
  | 0, _ => exact rlrd0
  | 1, _ => exact rlrd1
  | 2, _ => exact rlrd2
  | 3, _ => exact rlrd3
  | 4, _ => exact rlrd4
  | 5, _ => exact rlrd5
  | 6, _ => exact rlrd6
  | 7, _ => exact rlrd7
  | i + 8, h => omega
theorem rlSw_all {i : Nat} (hi : i < 8) : RlSw i := by
  match i, hi with
  | 0, _ => exact rlsw0
  | 1, _ => exact rlsw1
  | 2, _ => exact rlsw2
  | 3, _ => exact rlsw3
  | 4, _ => exact rlsw4
  | 5, _ => exact rlsw5
  | 6, _ => exact rlsw6
  | 7, _ => exact rlsw7
  | i + 8, h => omega
theorem rlSe_all {i : Nat} (hi : i < 8) : RlSe i := by
  match i, hi with
  | 0, _ => exact rlse0
  | 1, _ => exact rlse1
  | 2, _ => exact rlse2
  | 3, _ => exact rlse3
  | 4, _ => exact rlse4
  | 5, _ => exact rlse5
  | 6, _ => exact rlse6
  | 7, _ => exact rlse7
  | i + 8, h => omega
theorem rlSn_all {i : Nat} (hi : i < 8) : RlSn i := by
  match i, hi with
  | 0, _ => exact rlsn0
  | 1, _ => exact rlsn1
  | 2, _ => exact rlsn2
  | 3, _ => exact rlsn3
  | 4, _ => exact rlsn4
  | 5, _ => exact rlsn5
  | 6, _ => exact rlsn6
  | 7, _ => exact rlsn7
  | i + 8, h => omega
theorem rlCq_all {i : Nat} (hi : i < 8) : RlCq i := by
  match i, hi with
  | 0, _ => exact rlcq0
  | 1, _ => exact rlcq1
  | 2, _ => exact rlcq2
  | 3, _ => exact rlcq3
  | 4, _ => exact rlcq4
  | 5, _ => exact rlcq5
  | 6, _ => exact rlcq6
  | 7, _ => exact rlcq7
  | i + 8, h => omega
theorem rlTl_all {i : Nat} (hi : i < 8) : RlTl i := by
  match i, hi with
  | 0, _ => exact rltl0
  | 1, _ => exact rltl1
  | 2, _ => exact rltl2
  | 3, _ => exact rltl3
  | 4, _ => exact rltl4
  | 5, _ => exact rltl5
  | 6, _ => exact rltl6
  | 7, _ => exact rltl7
  | i + 8, h => omega
theorem rlEx_all {i : Nat} (hi : i < 9) : RlEx i := by
  match i, hi with
  | 0, _ => exact rlex0
  | 1, _ => exact rlex1
  | 2, _ => exact rlex2
  | 3, _ => exact rlex3
  | 4, _ => exact rlex4
  | 5, _ => exact rlex5
  | 6, _ => exact rlex6
  | 7, _ => exact rlex7
  | 8, _ => exact rlex8
  | i + 9, h => omega
theorem rlMid_eq : rlMid = .seq (rlAt 0) (.seq (rlAt 1) (.seq (rlAt 2) (.seq (rlAt 3) (.seq (rlAt 4) (.seq (rlAt 5) (.seq (rlAt 6) (.seq (rlAt 7) rlLast))))))) := by kernel_rfl
theorem rlBody_eq : rlBody0 = .seq rlHead (.seq (.block 1 rlMid) rlTail) := by kernel_rfl
/-! ### what is asked -/
theorem ndI_of {L i : Nat} {K : Prop} (h : i < L) (hK : K) : ndI L i K := by
  unfold ndI
  exact need_of (by simpa using h) (need_of (by simpa using h) hK)
theorem sameI_of {a : Int} {K : Prop} (hK : K) : sameI a a K := need_of (by simp) hK
theorem eqS_of {l : List Int} {K : Prop} (hK : K) : eqS l l K := need_of (by simp) hK
theorem bytN_of {K : Prop} (hK : K) : ∀ {l : List Int}, (∀ x ∈ l, bytR x = true) → bytN l K := by
  intro l
  induction l with
  | nil => intro _; exact hK
  | cons x l ih => intro h; exact need_of (h x (List.mem_cons_self ..)) (ih fun y hy => h y (List.mem_cons_of_mem _ hy))
theorem cmpN_of {K : Prop} (hK : K) : ∀ {l : List Int}, cmpN l l K := by
  intro l
  induction l with
  | nil => exact hK
  | cons x l ih => exact need_of (by simp) ih
theorem e8_of {f : Nat → Int} (h : ∀ k, bytR (f k) = true) : ∀ x ∈ e8 f, bytR x = true := by
  intro x hx
  simp only [e8, List.mem_cons, List.mem_nil_iff, or_false] at hx
  rcases hx with rfl | rfl | rfl | rfl | rfl | rfl | rfl | rfl <;> exact h _
theorem cHi_eq (F : List Nat → Nat) (l : List Int) : cHi (sumI F l) = cFd (sumI F l) := by
  unfold cHi cFd sumI
  rw [crc_by _ 3 (by omega), crc_by _ 2 (by omega), crc_by _ 1 (by omega), crc_by _ 0 (by omega)]
theorem fd_hi {n : Nat} (h : n < 18446744073709551616) : fdB (.ofNat n) = hiB (.ofNat n) := by
  funext k
  rw [fdB_eq, hiB_eq h]
theorem bI_id (a : Nat) : bI (bitsN a) = bI a := by unfold bI; rw [bitsN_idem]
theorem updN_same (g : Nat → Nat) (i : Nat) : updN g i (g i) = g := by
  funext j
  unfold updN
  cases h : Nat.beq j i with
  | false => rfl
  | true => rw [Nat.eq_of_beq_eq_true h]; rfl
theorem rdO_eq {n : Nat} (h : n < 18446744073709551616) : rdO (hiB (.ofNat n)) = n := orD_all h fun k => hiB_eq h k
theorem rdA_eq {n : Nat} (h : n < 18446744073709551616) : rdA (fdB (.ofNat n)) = n := adD_all h fun k => fdB_eq n k
/-! ### a round -/
theorem rl_mid {i L c : Nat} {y : Nat → Int} (hi : i < 8) (hL : i < L) (hy : 0 ≤ y i ∧ y i < 18446744073709551616) {β : Bs} (hβ : β.X.length = 1) {K : Kt} (hK : K .normal (rlFr L c i) (rlMe 0 (i + 1) L (gY y) (gY y) y)) : J Tryz.prog β rlMid (rlFr L c i) (rlMe 0 i L (gY y) (gY y) y) K := by
  have hu : rlU y i < 18446744073709551616 := by unfold rlU; omega
  have hb : bitsN (rlU y i) < 18446744073709551616 := bitsN_lt hu
  have hg : gY y i = bitsN (rlU y i) := rfl
  have hd : rdO (hiB (bI (rlU y i))) = gY y i := rdO_eq hb
  have hbg : bI (gY y i) = bI (rlU y i) := bI_id _
  have hE : rdA (fdB (bI (gY y i))) = gY y i := by rw [hbg]; exact rdA_eq hb
  have hfh : fdB (bI (rlU y i)) = hiB (bI (rlU y i)) := fd_hi hb
  have hhi : ∀ x ∈ e8 (hiB (bI (rlU y i))), bytR x = true := e8_of fun k => bytR_hi hb k
  rw [rlMid_eq]
  refine J.seq (pieceO_ok follows toldX_ok hβ (lv := rlLf) (T := []) (os := []) ?_)
  have e0 := rlFl_all hi refSum L c y (gY y) (gY y)
  unfold rlFlA at e0
  rw [e0]
  unfold rlFlB
  refine ndI_of hL ?_
  show J Tryz.prog β (.seq (rlAt 1) _) (rlFf L c i (rlU y i)) (rlMe 0 i L (gY y) (gY y) y) _
  refine J.seq (pieceO_ok follows toldX_ok hβ (lv := rlLf) (T := []) (os := []) ?_)
  have e1 := rlWr_all hi refSum L c y (gY y) (gY y)
  unfold rlWrA at e1
  rw [e1]
  unfold rlWrB
  rw [hd, updN_same, hbg, hfh, cHi_eq]
  refine sameI_of (bytN_of (bytN_of (cmpN_of (cmpN_of ?_)) hhi) hhi)
  show J Tryz.prog β (.seq (rlAt 2) _) (rlFf L c i (rlU y i)) (rlMe 1 i L (gY y) (gY y) y) _
  refine J.seq (pieceO_ok follows toldX_ok hβ (lv := rlLf) (T := []) (os := []) ?_)
  have e2 := rlSv_all hi refSum L c y (gY y) (gY y)
  unfold rlSvA at e2
  rw [e2]
  unfold rlSvB
  show J Tryz.prog β (.seq (rlAt 3) _) (rlFf L c i (rlU y i)) (rlMe 2 i L (gY y) (gY y) y) _
  refine J.seq (pieceO_ok follows toldX_ok hβ (lv := rlLf) (T := []) (os := []) ?_)
  have e3 := rlSc_all hi refSum L c y (gY y) (gY y)
  unfold rlScA at e3
  rw [e3]
  unfold rlScB
  show J Tryz.prog β (.seq (rlAt 4) _) (rlFf L c i (rlU y i)) (rlMe 4 i L (gY y) (gY y) y) _
  refine J.seq (pieceO_ok follows toldX_ok hβ (lv := rlLf) (T := []) (os := []) ?_)
  have e4 := rlRd_all hi refSum L c y (gY y) (gY y)
  unfold rlRdA at e4
  rw [e4]
  unfold rlRdB
  rw [cHi_eq]
  refine cmpN_of ?_
  show J Tryz.prog β (.seq (rlAt 5) _) (rlFf L c i (rlU y i)) (rlMe 5 i L (gY y) (gY y) y) _
  refine J.seq (pieceO_ok follows toldX_ok hβ (lv := rlLf) (T := []) (os := []) ?_)
  have e5 := rlSw_all hi refSum L c y (gY y) (gY y)
  unfold rlSwA at e5
  rw [e5]
  unfold rlSwB
  show J Tryz.prog β (.seq (rlAt 6) _) (rlFf L c i (rlU y i)) (rlMe 6 i L (gY y) (gY y) y) _
  refine J.seq (pieceO_ok follows toldX_ok hβ (lv := rlLf) (T := []) (os := []) ?_)
  have e6 := rlSe_all hi refSum L c y (gY y) (gY y)
  unfold rlSeA at e6
  rw [e6]
  unfold rlSeB
  rw [cHi_eq]
  refine eqS_of ?_
  show J Tryz.prog β (.seq (rlAt 7) rlLast) (rlFf L c i (rlU y i)) (rlMe 7 i L (gY y) (gY y) y) _
  refine J.seq (pieceO_ok follows toldX_ok hβ (lv := rlLf) (T := []) (os := []) ?_)
  have e7 := rlSn_all hi refSum L c y (gY y) (gY y)
  unfold rlSnA at e7
  rw [e7]
  unfold rlSnB
  rw [hE, updN_same, hbg, hfh, cHi_eq]
  refine bytN_of (bytN_of (bytN_of (bytN_of (eqS_of (eqS_of (eqS_of (eqS_of (eqS_of (sameI_of (sameI_of (eqS_of ?_)))))))) hhi) hhi) hhi) hhi
  show J Tryz.prog β rlLast (rlFf L c i (rlU y i)) (rlMe 0 (i + 1) L (gY y) (gY y) y) _
  refine pieceO_ok follows toldX_ok hβ (lv := rlLx) (T := [145]) (os := [false]) ?_
  have e8' := rlCq_all hi refSum L c y (gY y) (gY y)
  unfold rlCkA at e8'
  rw [e8']
  unfold rlCqB
  rw [hbg, show (!(bI (rlU y i) == bI (rlU y i))) = false by simp, br_f]
  refine need_of rfl ?_
  exact hK
theorem rl_loop {L c : Nat} {y : Nat → Int} (hL : L ≤ 8) (hy : ∀ i, i < L → 0 ≤ y i ∧ y i < 18446744073709551616) {β : Bs} (hβ : β.X.length = 1) : ∀ i, i ≤ L → LoopJ Tryz.prog β (exRl L y) 0 rlBody0 (rlFr L c i) (rlMe 0 i L (gY y) (gY y) y) := by
  refine loop_rule (fun i => i ≤ L) (fun i => rlFr L c i) (fun i => rlMe 0 i L (gY y) (gY y) y) (fun i => L - i) (fun i hI K hK => ?_)
  have hI : i ≤ L := hI
  have hK : K (.exit 0) rlFx (rlMe 0 i L (gY y) (gY y) y) := by
    obtain ⟨h0, h1, h2, h3, h4, h5, h6, h7, h8⟩ := hK
    match i, (show i ≤ 8 by omega) with
    | 0, _ => exact h0
    | 1, _ => exact h1
    | 2, _ => exact h2
    | 3, _ => exact h3
    | 4, _ => exact h4
    | 5, _ => exact h5
    | 6, _ => exact h6
    | 7, _ => exact h7
    | 8, _ => exact h8
    | i + 9, h => omega
  rw [rlBody_eq]
  refine J.seq ?_
  show J Tryz.prog β rlHead (rlFr L c i) (rlMe 0 i L (gY y) (gY y) y) _
  rcases Nat.lt_or_ge i L with hi | hi
  · have hi8 : i < 8 := by omega
    refine pieceO_ok follows toldX_ok hβ (lv := rlLo) (T := [30]) (os := [true]) ?_
    have e := rlHd_all hi8 refSum L c y (gY y) (gY y)
    unfold rlHdA at e
    rw [e]
    unfold rlHdB
    refine need_of (by simpa using hi) ?_
    show J Tryz.prog β (.seq (.block 1 rlMid) rlTail) (rlFr L c i) (rlMe 0 i L (gY y) (gY y) y) _
    refine J.seq (J.block ?_)
    refine rl_mid hi8 hi (hy i hi) hβ ?_
    show J Tryz.prog β rlTail (rlFr L c i) (rlMe 0 (i + 1) L (gY y) (gY y) y) _
    refine pieceO_ok follows toldX_ok hβ (lv := rlLx) (T := []) (os := []) ?_
    have e := rlTl_all hi8 refSum L c y (gY y) (gY y)
    unfold rlTlA at e
    rw [e]
    unfold rlTlB
    exact .inl ⟨rfl, i + 1, hi, (by show L - (i + 1) < L - i; omega), Seen.refl _ _ _⟩
  · have hiL : i = L := by omega
    refine pieceO_ok follows toldX_ok hβ (lv := rlLo) (T := [30]) (os := [false]) ?_
    have e := rlEx_all (show i < 9 by omega) refSum L c y (gY y) (gY y)
    unfold rlExA at e
    rw [e]
    unfold rlExB
    refine need_of (by simp; omega) ?_
    exact .inr ⟨by simp, by simp, _, _, Seen.refl _ _ _, hK⟩
theorem rl_law {l : List U64} {c : Nat} (hl : l.all (okA U64) = true) (w : World) (hgl : GlA w) (args' : Array Value) (hA : PW (TR w (There w)) [tdL l c] args'.toList) :
    Calls Tryz.prog 3 args' w fun e w' => e = .returned (.bool true) ∧ Below w.heap.size w w' := by
  have hy : ∀ i, i < l.length → 0 ≤ (fun i => (l.getD i (Enc.dflt : U64)).v) i ∧ (fun i => (l.getD i (Enc.dflt : U64)).v) i < 18446744073709551616 := fun i hi => by
    rw [List.all_eq_true] at hl
    have := hl (l.getD i Enc.dflt) (by rw [List.getD_eq_getElem?_getD, List.getElem?_eq_getElem hi]; exact List.getElem_mem hi)
    exact (okU64_iff _).1 this
  refine law_top (C := toldRn) (fuel := 1000) (n := 50) (un := fun _ => 0) (lvs := fun _ => [0, 6, 7]) (ex := exRl l.length fun i => (l.getD i Enc.dflt).v) follows toldRn_ok (fun β hβ => ?_) w args' hA hgl
  show lawE _ _ _ _ _ _ (cnOf 1 (fun _ => [0, 6, 7])) _ _ [rlSl l.length c] (mkS [some (rlRow l.length fun i => (l.getD i Enc.dflt).v)]) trueE
  rw [rlBig]
  generalize (fun i => (l.getD i (Enc.dflt : U64)).v) = y at hy ⊢
  refine br_of (fun _ => trivial) (fun h => ?_)
  have hL : l.length ≤ 8 := by simp at h; omega
  generalize l.length = L at hL hy ⊢
  exact ⟨rl_loop hL hy hβ 0 (Nat.zero_le _), ⟨trivial, trivial, trivial, trivial, trivial, trivial, trivial, trivial, trivial⟩⟩
end Go.Proofs.YtpogcoolgnjejaaGreatDoor.Ev
