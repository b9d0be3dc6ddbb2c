/-
  FramApart: what has to hold holds.
-/
import Derived.Test.YtiodkfbmcnfooaaFrBV
set_option linter.unusedVariables false
set_option linter.unusedSimpArgs false
set_option maxRecDepth 100000
namespace Go.Proofs.Ytiodkfbmcnfooaa.Ev
open Go Go.Proofs Go.RowKit

theorem framApart_law {l m : List U8} {c d : Nat} (hc : c ≤ 1) (hd : d ≤ 1) (hl : l.all (okA U8) = true) (hm : m.all (okA U8) = true) (w : World) (args' : Array Value) (ha : PW (TR w (There w)) [tdL l c, tdL m d] args'.toList) :
    Calls Try.prog 6 args' w fun e w' => e = .returned (.bool true) ∧ Below w.heap.size w w' := by
  refine law_top (C := toldQ) (fuel := 100) (n := 20) (un := fun _ => 8) (lvs := fun _ => []) (ex := fun _ _ => False) follows toldQ_ok (fun β hβ => ?_) w args' ha
  show lawE _ _ _ _ _ _ (cnOf 2 fun _ => []) _ _ [.slice (some ⟨0, 0, some 0⟩) l.length c, .slice (some ⟨1, 0, some 0⟩) m.length d] (mkS [some (rowO .still l), some (rowO .still m)]) trueE
  rw [vc_fp]
  refine br_of (fun _ => trivial) (fun q1 => br_of (fun _ => trivial) (fun q2 => ?_))
  have h1 : l.length ≤ 100 := by simp at q1; omega
  have h2 : m.length ≤ 100 := by simp at q2; omega
  have o1 := ok1U hl (by omega) hc
  have o2 := ok1U hm (by omega) hd
  have p1 : putL l = frameU l := by unfold putL; rw [if_neg (by omega)]
  have p2 : putL m = frameU m := by unfold putL; rw [if_neg (by omega)]
  have d1 : decide (l.length ≤ 200) = true := decide_eq_true (by omega)
  have d2 : decide (m.length ≤ 200) = true := decide_eq_true (by omega)
  have hfl := frameU_ok hl
  have hfm := frameU_ok hm
  have B0 : (bytesU l == bytesU m) = sameU l m := bytesU_beq hl hm
  have B1 : (bytesU (frameU l) == bytesU (frameU m)) = sameU l m := by
    rw [bytesU_beq hfl hfm, Bool.eq_iff_iff, sameU_eq, sameU_eq]
    exact ⟨fun h => frame_inj (n := []) (by omega) (by omega) (by rw [List.append_nil]; exact h.symm), fun h => by rw [h]⟩
  simp only [encZ, Nat.zero_add, Nat.sub_zero, bleS, Bool.true_and, need_t, o1, o2, lU, allB_all, p1, p2, d1, d2, bytes_all, B0, B1, beq_self_eq_true]
  refine br_of (fun q => ?_) (fun q => ?_)
  · have q := of_decide_eq_true q
    rw [Int.ofNat_eq_natCast, Int.ofNat_eq_natCast] at q
    have hle : (frameU l).length ≤ (frameU m).length := by omega
    have hif : (if Int.ofNat (frameU m).length < Int.ofNat (frameU l).length then Int.ofNat (frameU m).length else Int.ofNat (frameU l).length) = ((frameU l).length : Int) := by
      rw [if_neg (by rw [Int.ofNat_eq_natCast, Int.ofNat_eq_natCast]; omega)]; rfl
    have e1 : decide ((0 : Int) ≤ ((frameU l).length : Int)) = true := decide_eq_true (by omega)
    have e2 : Nat.ble (frameU l).length (frameU m).length = true := Nat.ble_eq_true_of_le hle
    have B2 : (bytesU ((frameU m).take (frameU l).length) == bytesU (frameU l)) = sameU l m := by
      rw [bytesU_beq (take_all hfm _) hfl, Bool.eq_iff_iff, sameU_eq, sameU_eq]
      constructor
      · intro h
        refine (frame_inj (n := (frameU m).drop (frameU l).length) (l := m) (m := l) (by omega) (by omega) ?_).symm
        rw [← h, List.length_take, Nat.min_eq_left hle]
        exact List.take_append_drop _ _
      · intro h; rw [h, List.take_length]
    simp only [hif, Int.toNat_natCast, e1, e2, need_t, bytes_take _ hle, B2, beq_self_eq_true]
  · have q := of_decide_eq_false q
    rw [Int.ofNat_eq_natCast, Int.ofNat_eq_natCast] at q
    have hs : sameU l m = false := by
      cases h : sameU l m with
      | false => rfl
      | true =>
        rw [(sameU_eq l m).1 h] at q
        omega
    simp only [hs, beq_self_eq_true, need_t]
end Go.Proofs.Ytiodkfbmcnfooaa.Ev
