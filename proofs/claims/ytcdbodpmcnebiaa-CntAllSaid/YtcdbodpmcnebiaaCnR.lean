/-
  The document's step of counters, told to the evaluator.
-/
import Derived.Test.YtcdbodpmcnebiaaCnRV
set_option linter.unusedVariables false
set_option linter.unusedSimpArgs false
set_option maxRecDepth 100000
namespace Go.Proofs.Ytcdbodpmcnebiaa.Ev
open Go Go.Proofs Go.RowKit

/-- a row of values that was written, cell by cell -/
theorem leafP {l : List (Option AObj)} {k n c c0 : Nat} {L : List Vl} {e : Nat → Nat → Td} (h : l[k]? = some (some (.row .mine 3 0 n e))) (hn : n = L.length) (hc : n = 0 → c0 = c)
    (he : ∀ i, i < n → ∀ w F y, (TR w F (e i 0) y → TR w F (.sc (.int .i64 (L.getD i Enc.dflt).k)) y) ∧ (TR w F (e i 1) y → TR w F (.sc (.int .i64 (L.getD i Enc.dflt).i)) y) ∧ (TR w F (e i 2) y → TR w F (.sc (.float .f64 (L.getD i Enc.dflt).f)) y)) :
    ∃ m, objsR l m ∧ ansE (.ret (.cell (ownL L c))) (.returned (.slice (some ⟨k, 0, some 0⟩) n c0)) (mkS m) := leafR h hn hc fun i hi j hj w F y ht => match j, hj with
  | 0, _ => (he i hi w F y).1 ht
  | 1, _ => (he i hi w F y).2.1 ht
  | 2, _ => (he i hi w F y).2.2 ht
theorem okFit_of {kind : Int} {L : List Vl} {c : Nat} (hl : L.length ≤ 1000000) (hc : c ≤ 1) (h : cntOk false kind L = true) : okFit [Ta.cell (Td.sc (Value.int IntKind.i64 kind)), Ta.cell (Td.fr 3 L.length c fun i => encL L (0 + i))] = true := by
  rw [encZ]
  show (okT Vl (tdL L c) && cntOk false kind (listT Vl (tdL L c))) = true
  rw [okT_tdL (allV _) hl hc, listT_tdL, h]; rfl
set_option maxHeartbeats 2000000 in
theorem ref_told : ToldW Try.prog 12 (okStep (cntOk false)) (ansStep cntA) := by
  refine told_step follows fun kind l c inn pv hl hc hok => ⟨toldF, 100, 20, fun _ => 0, fun _ => [], fun _ _ => False, toldF_ok, fun β hβ => ?_⟩
  show lawE _ _ _ _ _ _ _ _ _ _ _ (outK fun r m => ∃ m2, objsR m m2 ∧ ansE (cntA kind l c inn pv) r (mkS m2))
  rcases cntOk_cases hok with ⟨x, y, z, rfl⟩ | ⟨x, z, rfl⟩ | ⟨h, _⟩
  · show lawE _ _ _ _ _ _ _ _ _ [.int .i64 kind, .slice (some ⟨0, 0, some 0⟩) 3 c, .bool inn, .int .i64 pv] (mkS [some (rowO .look (l3 x y z))]) _
    rw [vc_crA]
    have ho : okFit [Ta.cell (Td.sc (Value.int IntKind.i64 kind)), Ta.cell (Td.fr 3 3 c fun i => encL (l3 x y z) (0 + i))] = true := okFit_of (L := l3 x y z) hl hc hok
    have hf : fitF kind (listT Vl (Td.fr 3 3 c fun i => encL (l3 x y z) (0 + i))) = (decide (kind = 9) || decide (kind = 10)) := by
      rw [encZ, show listT Vl (Td.fr 3 3 c (encL (l3 x y z))) = l3 x y z from listT_tdL (l3 x y z) c]; rfl
    simp only [ho, need_t, hf]
    have hcl : kind ≠ 9 → kind ≠ 10 → cntA kind (l3 x y z) c inn pv = .ret (.cell (ownL (l3 x y z) 0)) := fun h1 h2 => by simp [cntA, cntL, cntC, l3, h1, h2]
    refine br_of (fun q => ?_) (fun q => br_of (fun q' => ?_) (fun q' => br_of (fun q2 => ?_) (fun q2 => ?_)))
    · rw [hcl (by simp at q; omega) (by simp at q; omega)]
      exact leafC (k := 2) (L := l3 x y z) rfl rfl (fun h => by cases h)
    · rw [hcl (by simp at q'; omega) (by simp at q'; omega)]
      exact leafC (k := 2) (L := l3 x y z) rfl rfl (fun h => by cases h)
    · rw [hcl (by simp at q2; omega) (by simp at q2; omega)]
      exact leafC (k := 2) (L := l3 x y z) rfl rfl (fun h => by cases h)
    · have hk : kind = 9 ∨ kind = 10 := by simp at q2; omega
      rcases hk with rfl | rfl
      · have e1 : ((9 : Int) == 11) = false := rfl
        have e2 : ((9 : Int) == 12) = false := rfl
        simp only [e1, e2, br_f, beq_self_eq_true, br_t]
        rw [show cntA 9 (l3 x y z) c inn pv = .ret (.cell (ownL (cntU x y z inn pv) 0)) from rfl]
        refine br_of (fun q1 => br_of (fun q2 => ?_) (fun q2 => ?_)) (fun q1 => ?_)
        · have hz : z = 0 := by simpa using q2
          have hL : cntU x y z inn pv = [⟨1, one (decide ((if (32767 : Int) < IntKind.wrap .i64 (y + 1) then (32767 : Int) else IntKind.wrap .i64 (y + 1)) ≥ pv)), 0⟩, ⟨2, if (32767 : Int) < IntKind.wrap .i64 (y + 1) then (32767 : Int) else IntKind.wrap .i64 (y + 1), 0⟩, ⟨1, one inn, 0⟩] := by simp [cntU, q1, hz]
          rw [hL]
          exact leafP (k := 2) rfl rfl (fun h => by cases h) fun i hi w F y => match i, hi with
            | 0, _ => ⟨fun h => h, fun h => h, fun h => h⟩
            | 1, _ => ⟨fun h => h, fun h => h, fun h => h⟩
            | 2, _ => ⟨fun h => h, fun h => h, fun h => h⟩
        · have hz : ¬ z = 0 := by simpa using q2
          have hL : cntU x y z inn pv = [⟨1, one (decide (y ≥ pv)), 0⟩, ⟨2, y, 0⟩, ⟨1, one inn, 0⟩] := by simp [cntU, q1, hz]
          rw [hL]
          exact leafP (k := 2) rfl rfl (fun h => by cases h) fun i hi w F y => match i, hi with
            | 0, _ => ⟨fun h => h, fun h => h, fun h => h⟩
            | 1, _ => ⟨fun h => h, fun h => h, fun h => h⟩
            | 2, _ => ⟨fun h => h, fun h => h, fun h => h⟩
        · have hL : cntU x y z inn pv = [⟨1, one (decide (y ≥ pv)), 0⟩, ⟨2, y, 0⟩, ⟨1, one inn, 0⟩] := by simp [cntU, q1]
          rw [hL]
          exact leafP (k := 2) rfl rfl (fun h => by cases h) fun i hi w F y => match i, hi with
            | 0, _ => ⟨fun h => h, fun h => h, fun h => h⟩
            | 1, _ => ⟨fun h => h, fun h => h, fun h => h⟩
            | 2, _ => ⟨fun h => h, fun h => h, fun h => h⟩
      · have e0 : ((10 : Int) == 9) = false := rfl
        have e1 : ((10 : Int) == 11) = false := rfl
        have e2 : ((10 : Int) == 12) = false := rfl
        simp only [e0, e1, e2, br_f, beq_self_eq_true, br_t]
        rw [show cntA 10 (l3 x y z) c inn pv = .ret (.cell (ownL (cntD x y z inn pv) 0)) from rfl]
        refine br_of (fun q1 => br_of (fun q2 => br_of (fun q3 => ?_) (fun q3 => ?_)) (fun q2 => ?_)) (fun q1 => ?_)
        · have hz : z = 0 := by simpa using q2
          have q3 : decide (y ≤ 0) = true := q3
          have hL : cntD x y z inn pv = [⟨1, one (decide (pv ≤ 0)), 0⟩, ⟨2, pv, 0⟩, ⟨1, one inn, 0⟩] := by simp [cntD, q1, hz, of_decide_eq_true q3]
          rw [hL]
          exact leafP (k := 2) rfl rfl (fun h => by cases h) fun i hi w F y => match i, hi with
            | 0, _ => ⟨fun h => h, fun h => h, fun h => h⟩
            | 1, _ => ⟨fun h => h, fun h => h, fun h => h⟩
            | 2, _ => ⟨fun h => h, fun h => h, fun h => h⟩
        · have hz : z = 0 := by simpa using q2
          have q3 : decide (y ≤ 0) = false := q3
          have hL : cntD x y z inn pv = [⟨1, one (decide (IntKind.wrap .i64 (y - 1) ≤ 0)), 0⟩, ⟨2, IntKind.wrap .i64 (y - 1), 0⟩, ⟨1, one inn, 0⟩] := by simp [cntD, q1, hz, of_decide_eq_false q3]
          rw [hL]
          exact leafP (k := 2) rfl rfl (fun h => by cases h) fun i hi w F y => match i, hi with
            | 0, _ => ⟨fun h => h, fun h => h, fun h => h⟩
            | 1, _ => ⟨fun h => h, fun h => h, fun h => h⟩
            | 2, _ => ⟨fun h => h, fun h => h, fun h => h⟩
        · have hz : ¬ z = 0 := by simpa using q2
          have hL : cntD x y z inn pv = [⟨1, one (decide (y ≤ 0)), 0⟩, ⟨2, y, 0⟩, ⟨1, one inn, 0⟩] := by simp [cntD, q1, hz]
          rw [hL]
          exact leafP (k := 2) rfl rfl (fun h => by cases h) fun i hi w F y => match i, hi with
            | 0, _ => ⟨fun h => h, fun h => h, fun h => h⟩
            | 1, _ => ⟨fun h => h, fun h => h, fun h => h⟩
            | 2, _ => ⟨fun h => h, fun h => h, fun h => h⟩
        · have hL : cntD x y z inn pv = [⟨1, one (decide (y ≤ 0)), 0⟩, ⟨2, y, 0⟩, ⟨1, one inn, 0⟩] := by simp [cntD, q1]
          rw [hL]
          exact leafP (k := 2) rfl rfl (fun h => by cases h) fun i hi w F y => match i, hi with
            | 0, _ => ⟨fun h => h, fun h => h, fun h => h⟩
            | 1, _ => ⟨fun h => h, fun h => h, fun h => h⟩
            | 2, _ => ⟨fun h => h, fun h => h, fun h => h⟩
  · show lawE _ _ _ _ _ _ _ _ _ [.int .i64 kind, .slice (some ⟨0, 0, some 0⟩) 2 c, .bool inn, .int .i64 pv] (mkS [some (rowO .look (l2 x z))]) _
    rw [vc_crB]
    have ho : okFit [Ta.cell (Td.sc (Value.int IntKind.i64 kind)), Ta.cell (Td.fr 3 2 c fun i => encL (l2 x z) (0 + i))] = true := okFit_of (L := l2 x z) hl hc hok
    have hf : fitF kind (listT Vl (Td.fr 3 2 c fun i => encL (l2 x z) (0 + i))) = (decide (kind = 11) || decide (kind = 12)) := by
      rw [encZ, show listT Vl (Td.fr 3 2 c (encL (l2 x z))) = l2 x z from listT_tdL (l2 x z) c]; rfl
    simp only [ho, need_t, hf]
    have hcl : kind ≠ 11 → kind ≠ 12 → cntA kind (l2 x z) c inn pv = .ret (.cell (ownL (l2 x z) 0)) := fun h1 h2 => by simp [cntA, cntL, cntC, l2, h1, h2]
    refine br_of (fun q => ?_) (fun q => br_of (fun q' => ?_) (fun q' => br_of (fun q2 => ?_) (fun q2 => ?_)))
    · rw [hcl (by simp at q; omega) (by simp at q; omega)]
      exact leafC (k := 2) (L := l2 x z) rfl rfl (fun h => by cases h)
    · rw [hcl (by simp at q'; omega) (by simp at q'; omega)]
      exact leafC (k := 2) (L := l2 x z) rfl rfl (fun h => by cases h)
    · rw [hcl (by simp at q2; omega) (by simp at q2; omega)]
      exact leafC (k := 2) (L := l2 x z) rfl rfl (fun h => by cases h)
    · have hk : kind = 11 ∨ kind = 12 := by simp at q2; omega
      rcases hk with rfl | rfl
      · simp only [beq_self_eq_true, br_t]
        rw [show cntA 11 (l2 x z) c inn pv = .ret (.cell (ownL ([⟨1, one (inn && decide (z = 0)), 0⟩, ⟨1, one inn, 0⟩] : List Vl) 0)) from rfl]
        have hb : (!z != 0) = decide (z = 0) := by by_cases h : z = 0 <;> simp [h]
        refine br_of (fun q1 => ?_) (fun q1 => ?_)
        · rw [show one (inn && decide (z = 0)) = one (!z != 0) by rw [q1, hb, Bool.true_and]]
          exact leafP (k := 2) rfl rfl (fun h => by cases h) fun i hi w F y => match i, hi with
            | 0, _ => ⟨fun h => h, fun h => h, fun h => h⟩
            | 1, _ => ⟨fun h => h, fun h => h, fun h => h⟩
        · rw [show one (inn && decide (z = 0)) = one false by rw [q1, Bool.false_and]]
          exact leafP (k := 2) rfl rfl (fun h => by cases h) fun i hi w F y => match i, hi with
            | 0, _ => ⟨fun h => h, fun h => h, fun h => h⟩
            | 1, _ => ⟨fun h => h, fun h => h, fun h => h⟩
      · have e1 : ((12 : Int) == 11) = false := rfl
        simp only [e1, br_f, beq_self_eq_true, br_t]
        rw [show cntA 12 (l2 x z) c inn pv = .ret (.cell (ownL ([⟨1, one (!inn && !decide (z = 0)), 0⟩, ⟨1, one inn, 0⟩] : List Vl) 0)) from rfl]
        have hb : (z != 0) = !decide (z = 0) := by by_cases h : z = 0 <;> simp [h]
        refine br_of (fun q1 => ?_) (fun q1 => ?_)
        · rw [show one (!inn && !decide (z = 0)) = one (z != 0) by rw [q1, hb, Bool.true_and]]
          exact leafP (k := 2) rfl rfl (fun h => by cases h) fun i hi w F y => match i, hi with
            | 0, _ => ⟨fun h => h, fun h => h, fun h => h⟩
            | 1, _ => ⟨fun h => h, fun h => h, fun h => h⟩
        · rw [show one (!inn && !decide (z = 0)) = one false by rw [q1, Bool.false_and]]
          exact leafP (k := 2) rfl rfl (fun h => by cases h) fun i hi w F y => match i, hi with
            | 0, _ => ⟨fun h => h, fun h => h, fun h => h⟩
            | 1, _ => ⟨fun h => h, fun h => h, fun h => h⟩
  · cases h
def toldG : Told := (toldF.tree 10 (okStep (cntOk true)) (ansStep cntA)).tree 12 (okStep (cntOk false)) (ansStep cntA)
theorem toldG_ok : ToldS Try.prog toldG := Told.tree_ok (Told.tree_ok toldF_ok step_told) ref_told
end Go.Proofs.Ytcdbodpmcnebiaa.Ev
