/-
  TimAll: what has to hold holds.
-/
import Derived.Test.YtaceobjppcmhjaaTmAV
import Derived.Test.YtaceobjppcmhjaaClW
set_option linter.unusedVariables false
set_option linter.unusedSimpArgs false
set_option maxRecDepth 100000
namespace Go.Proofs.Ytaceobjppcmhjaa.Ev
open Go Go.Proofs Go.RowKit

theorem timL_len (kind : Int) (l : List Vl) (inn : Bool) (pt now : Int) : (timL kind l inn pt now).length = l.length := by
  unfold timL
  split
  · cases decide (kind = 6) <;> cases decide (kind = 7) <;> cases decide (kind = 8) <;> rfl
  · rfl
theorem ok2_tim (k : Int) (l : List Vl) (inn : Bool) (pt now : Int) (hl : l.length ≤ 6) : ok2 Vl Vl (fun _ _ _ _ => true) [Ta.cell (Td.fr 3 (timL k l inn pt now).length 0 (encL (timL k l inn pt now))), Ta.cell (Td.fr 3 (timL k l inn pt now).length 0 (encL (timL k l inn pt now)))] = true :=
  ok2_vl (by rw [timL_len]; omega) (by rw [timL_len]; omega) (by omega) (by omega)
theorem wild_tim {l : List Vl} (h4 : l.length ≠ 4) (h6 : l.length ≤ 6) (inn : Bool) (pt now : Int) : timOk true 6 l = true ∧ timL 6 l inn pt now = l := by
  match l, h4, h6 with
  | [], _, _ => exact ⟨rfl, rfl⟩
  | [_], _, _ => exact ⟨rfl, rfl⟩
  | [_, _], _, _ => exact ⟨rfl, rfl⟩
  | [_, _, _], _, _ => exact ⟨rfl, rfl⟩
  | [_, _, _, _], h, _ => exact absurd rfl h
  | [_, _, _, _, _], _, _ => exact ⟨rfl, rfl⟩
  | [_, _, _, _, _, _], _, _ => exact ⟨rfl, rfl⟩
  | _ :: _ :: _ :: _ :: _ :: _ :: _ :: _, _, h => simp at h
theorem timC4 (a b d e : Vl) (n : Nat) : timC [a, b, d, e] n = 0 := rfl
theorem okSR (k q0 et on0 a pt now : Int) (inn : Bool) (h1 : small a = true) (h2 : small pt = true) (h3 : small now = true) : okStepR [Ta.cell (Td.sc (Value.int IntKind.i64 k)), Ta.cell (Td.fr 3 4 0 (selT 3 4 [Td.sc (Value.int IntKind.i64 1), Td.sc (Value.int IntKind.i64 q0), Td.sc (Value.float FloatKind.f64 0), Td.sc (Value.int IntKind.i64 4), Td.sc (Value.int IntKind.i64 et), Td.sc (Value.float FloatKind.f64 0), Td.sc (Value.int IntKind.i64 1), Td.sc (Value.int IntKind.i64 on0), Td.sc (Value.float FloatKind.f64 0), Td.sc (Value.int IntKind.i64 4), Td.sc (Value.int IntKind.i64 a), Td.sc (Value.float FloatKind.f64 0)])), Ta.cell (Td.sc (Value.bool inn)), Ta.cell (Td.sc (Value.int IntKind.i64 pt)), Ta.cell (Td.sc (Value.int IntKind.i64 now))] = true := by
  have : okStepR [Ta.cell (Td.sc (Value.int IntKind.i64 k)), Ta.cell (Td.fr 3 4 0 (selT 3 4 [Td.sc (Value.int IntKind.i64 1), Td.sc (Value.int IntKind.i64 q0), Td.sc (Value.float FloatKind.f64 0), Td.sc (Value.int IntKind.i64 4), Td.sc (Value.int IntKind.i64 et), Td.sc (Value.float FloatKind.f64 0), Td.sc (Value.int IntKind.i64 1), Td.sc (Value.int IntKind.i64 on0), Td.sc (Value.float FloatKind.f64 0), Td.sc (Value.int IntKind.i64 4), Td.sc (Value.int IntKind.i64 a), Td.sc (Value.float FloatKind.f64 0)])), Ta.cell (Td.sc (Value.bool inn)), Ta.cell (Td.sc (Value.int IntKind.i64 pt)), Ta.cell (Td.sc (Value.int IntKind.i64 now))] = (true && (true && small a && small pt && small now)) := by kernel_rfl
  rw [this, h1, h2, h3]; rfl
theorem small_of {x : Int} (h : -2147483648 ≤ x ∧ x < 2147483648) : small (IntKind.wrap .i64 x) = true := by
  rw [w64 (by omega) (by omega)]
  simp [small]; omega
theorem timAll_law {l : List Vl} {c : Nat} (hc : c ≤ 1) (kind et a pt now : Int) (q on inn : Bool) (ha1 : -2147483648 ≤ a ∧ a < 2147483648) (hp1 : -2147483648 ≤ pt ∧ pt < 2147483648) (hn1 : -2147483648 ≤ now ∧ now < 2147483648) (w : World) (args' : Array Value) (ha : PW (TR w (There w)) [.sc (.int .i64 kind), .sc (.bool q), .sc (.int .u16 et), .sc (.bool on), .sc (.int .i32 a), .sc (.bool inn), .sc (.int .i32 pt), .sc (.int .i32 now), tdL l c] args'.toList) :
    Calls Try.prog 7 args' w fun e w' => e = .returned (.bool true) ∧ Below w.heap.size w w' := by
  refine law_top (C := toldG) (fuel := 100) (n := 20) (un := fun _ => 7) (lvs := fun _ => []) (ex := fun _ _ => False) follows toldG_ok (fun β hβ => ?_) w args' ha
  show lawE _ _ _ _ _ _ (cnOf 1 fun _ => []) _ _ [.int .i64 kind, .bool q, .int .u16 et, .bool on, .int .i32 a, .bool inn, .int .i32 pt, .int .i32 now, .slice (some ⟨0, 0, some 0⟩) l.length c] (mkS [some (rowO .still l)]) trueE
  rw [vc_ta]
  refine br_of (fun _ => trivial) (fun q1 => ?_)
  have h6 : l.length ≤ 6 := by simp at q1; omega
  have sa := small_of ha1
  have sp := small_of hp1
  have sn := small_of hn1
  have hW : br (Int.ofNat l.length == 4) True (need (okStep (timOk true) [Ta.cell (Td.sc (Value.int IntKind.i64 6)), Ta.cell (Td.fr 3 l.length c (encL l)), Ta.cell (Td.sc (Value.bool inn)), Ta.cell (Td.sc (Value.int IntKind.i64 (IntKind.wrap IntKind.i64 pt))), Ta.cell (Td.sc (Value.int IntKind.i64 (IntKind.wrap IntKind.i64 now)))])
      (need (ok2 Vl Vl (fun _ _ _ _ => true) [Ta.cell (Td.fr 3 (timL 6 l inn (IntKind.wrap IntKind.i64 pt) (IntKind.wrap IntKind.i64 now)).length (timC l c) (encL (timL 6 l inn (IntKind.wrap IntKind.i64 pt) (IntKind.wrap IntKind.i64 now)))), Ta.cell (Td.fr 3 l.length c (encL l))]) (need (sameVs (timL 6 l inn (IntKind.wrap IntKind.i64 pt) (IntKind.wrap IntKind.i64 now)) l) True))) := by
    refine br_of (fun _ => trivial) (fun h => ?_)
    have h4 : l.length ≠ 4 := by
      intro e; rw [e] at h; simp at h
    obtain ⟨k1, k2⟩ := wild_tim h4 h6 inn (IntKind.wrap IntKind.i64 pt) (IntKind.wrap IntKind.i64 now)
    have hcc : timC l c ≤ 1 := by unfold timC; split <;> omega
    rw [k2]
    refine need_of ?_ (need_of (ok2_vl (by omega) (by omega) hcc hc) (need_of (sameVs_self l) trivial))
    show (okT Vl (tdL l c) && timOk true 6 (listT Vl (tdL l c))) = true
    rw [okT_tdL (allV _) (by omega) hc, listT_tdL, k1]; rfl
  have e4 : ∀ (a b d e : Vl), [a, b, d, e].length ≤ 6 := fun _ _ _ _ => by simp
  refine br_of (fun hq => br_of (fun hw => ?_) (fun hw => ?_)) (fun hq => br_of (fun hw => ?_) (fun hw => ?_))
  all_goals
    simp only [okSR _ _ _ _ _ _ _ _ sa sp sn, cond_true, cond_false, timC4, encZ, esV, lV, nFr, Nat.zero_add, bleS, Bool.true_and, need_t, sameVs_self, Bool.not_true, br_f]
    exact need_of (ok2_tim kind _ inn _ _ (e4 _ _ _ _)) hW
end Go.Proofs.Ytaceobjppcmhjaa.Ev
