/-
  CntAll: what has to hold holds.
-/
import Derived.Test.YtcdbodpmcnebiaaCnAV
import Derived.Test.YtcdbodpmcnebiaaClW
set_option linter.unusedVariables false
set_option linter.unusedSimpArgs false
set_option maxRecDepth 100000
namespace Go.Proofs.Ytcdbodpmcnebiaa.Ev
open Go Go.Proofs Go.RowKit

theorem cntL_len (kind : Int) (l : List Vl) (inn : Bool) (pv : Int) : (cntL kind l inn pv).length = l.length := by
  unfold cntL
  split
  · cases decide (kind = 9) <;> cases decide (kind = 10) <;> rfl
  · cases decide (kind = 11) <;> cases decide (kind = 12) <;> rfl
  · rfl
theorem ok2_cnt (k : Int) (l : List Vl) (inn : Bool) (pv : Int) (hl : l.length ≤ 6) : ok2 Vl Vl (fun _ _ _ _ => true) [Ta.cell (Td.fr 3 (cntL k l inn pv).length 0 (encL (cntL k l inn pv))), Ta.cell (Td.fr 3 (cntL k l inn pv).length 0 (encL (cntL k l inn pv)))] = true :=
  ok2_vl (by rw [cntL_len]; omega) (by rw [cntL_len]; omega) (by omega) (by omega)
theorem wild_cnt {l : List Vl} (h3 : l.length ≠ 3) (h6 : l.length ≤ 6) (inn : Bool) (pv : Int) : cntOk true 9 l = true ∧ cntL 9 l inn pv = l := by
  match l, h3, h6 with
  | [], _, _ => exact ⟨rfl, rfl⟩
  | [_], _, _ => exact ⟨rfl, rfl⟩
  | [x, y], _, _ => exact ⟨by show ((isB x && isB y) || (true && decide ((9 : Int) = 9))) = true; simp, rfl⟩
  | [_, _, _], h, _ => exact absurd rfl h
  | [_, _, _, _], _, _ => exact ⟨rfl, rfl⟩
  | [_, _, _, _, _], _, _ => exact ⟨rfl, rfl⟩
  | [_, _, _, _, _, _], _, _ => exact ⟨rfl, rfl⟩
  | _ :: _ :: _ :: _ :: _ :: _ :: _ :: _, _, h => simp at h
theorem cntC3 (a b d : Vl) (n : Nat) : cntC [a, b, d] n = 0 := rfl
theorem cntC2 (a b : Vl) (n : Nat) : cntC [a, b] n = 0 := rfl
theorem cntAll_law {l : List Vl} {c : Nat} (hc : c ≤ 1) (kind cv pv : Int) (q was inn : Bool) (w : World) (args' : Array Value) (ha : PW (TR w (There w)) [.sc (.int .i64 kind), .sc (.bool q), .sc (.int .i16 cv), .sc (.bool was), .sc (.bool inn), .sc (.int .i16 pv), tdL l c] args'.toList) :
    Calls Try.prog 7 args' w fun e w' => e = .returned (.bool true) ∧ Below w.heap.size w w' := by
  refine law_top (C := toldG) (fuel := 100) (n := 20) (un := fun _ => 7) (lvs := fun _ => []) (ex := fun _ _ => False) follows toldG_ok (fun β hβ => ?_) w args' ha
  show lawE _ _ _ _ _ _ (cnOf 1 fun _ => []) _ _ [.int .i64 kind, .bool q, .int .i16 cv, .bool was, .bool inn, .int .i16 pv, .slice (some ⟨0, 0, some 0⟩) l.length c] (mkS [some (rowO .still l)]) trueE
  rw [vc_ca]
  refine br_of (fun _ => trivial) (fun q1 => ?_)
  have h6 : l.length ≤ 6 := by simp at q1; omega
  have hW : br (Int.ofNat l.length == 3) True (need (okStep (cntOk true) [Ta.cell (Td.sc (Value.int IntKind.i64 9)), Ta.cell (Td.fr 3 l.length c (encL l)), Ta.cell (Td.sc (Value.bool inn)), Ta.cell (Td.sc (Value.int IntKind.i64 (IntKind.wrap IntKind.i64 pv)))])
      (need (ok2 Vl Vl (fun _ _ _ _ => true) [Ta.cell (Td.fr 3 (cntL 9 l inn (IntKind.wrap IntKind.i64 pv)).length (cntC l c) (encL (cntL 9 l inn (IntKind.wrap IntKind.i64 pv)))), Ta.cell (Td.fr 3 l.length c (encL l))]) (need (sameVs (cntL 9 l inn (IntKind.wrap IntKind.i64 pv)) l) True))) := by
    refine br_of (fun _ => trivial) (fun h => ?_)
    have h3 : l.length ≠ 3 := by
      intro e; rw [e] at h; simp at h
    obtain ⟨k1, k2⟩ := wild_cnt h3 h6 inn (IntKind.wrap IntKind.i64 pv)
    have hcc : cntC l c ≤ 1 := by unfold cntC; split <;> omega
    rw [k2]
    refine need_of ?_ (need_of (ok2_vl (by omega) (by omega) hcc hc) (need_of (sameVs_self l) trivial))
    show (okT Vl (tdL l c) && cntOk true 9 (listT Vl (tdL l c))) = true
    rw [okT_tdL (allV _) (by omega) hc, listT_tdL, k1]; rfl
  have e3 : ∀ (a b c : Vl), [a, b, c].length ≤ 6 := fun _ _ _ => by simp
  have e2 : ∀ (a b : Vl), [a, b].length ≤ 6 := fun _ _ => by simp
  refine br_of (fun hq => br_of (fun hw => ?_) (fun hw => ?_)) (fun hq => br_of (fun hw => ?_) (fun hw => ?_))
  all_goals
    simp only [cond_true, cond_false, cntC3, cntC2, encZ, esV, lV, nFr, Nat.zero_add, bleS, Bool.true_and, need_t, sameVs_self, Bool.not_true, br_f]
    exact need_of (ok2_cnt kind _ inn _ (e3 _ _ _)) (need_of (ok2_cnt kind _ inn _ (e2 _ _)) hW)
end Go.Proofs.Ytcdbodpmcnebiaa.Ev
