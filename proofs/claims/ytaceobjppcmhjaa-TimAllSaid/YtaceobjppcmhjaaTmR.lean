/-
  The document's step of timers, told to the evaluator where numbers are small.
-/
import Derived.Test.YtaceobjppcmhjaaTmRV
import Derived.Test.YtaceobjppcmhjaaTmM
set_option linter.unusedVariables false
set_option linter.unusedSimpArgs false
set_option maxRecDepth 100000
namespace Go.Proofs.Ytaceobjppcmhjaa.Ev
open Go Go.Proofs Go.RowKit

/-- a row of values that was written, cell by cell -/
theorem leafP {l : List (Option AObj)} {k n c c0 : Nat} {L : List Vl} {e : Nat → Nat → Td} (h : l[k]? = some (some (.row .mine 3 0 n e))) (hn : n = L.length) (hc : n = 0 → c0 = c)
    (he : ∀ i, i < n → ∀ w F y, (TR w F (e i 0) y → TR w F (.sc (.int .i64 (L.getD i Enc.dflt).k)) y) ∧ (TR w F (e i 1) y → TR w F (.sc (.int .i64 (L.getD i Enc.dflt).i)) y) ∧ (TR w F (e i 2) y → TR w F (.sc (.float .f64 (L.getD i Enc.dflt).f)) y)) :
    ∃ m, objsR l m ∧ ansE (.ret (.cell (ownL L c))) (.returned (.slice (some ⟨k, 0, some 0⟩) n c0)) (mkS m) := leafR h hn hc fun i hi j hj w F y ht => match j, hj with
  | 0, _ => (he i hi w F y).1 ht
  | 1, _ => (he i hi w F y).2.1 ht
  | 2, _ => (he i hi w F y).2.2 ht
theorem leafT {l : List (Option AObj)} {k : Nat} {q et on a x0 x1 x2 x3 : Int} {Q ON : Bool} {ET A : Int}
    (h : l[k]? = some (some (.row .mine 3 0 4 (putT 3 1 [Td.sc (.int .i64 x3)] (putT 2 1 [Td.sc (.int .i64 x2)] (putT 1 1 [Td.sc (.int .i64 x1)] (putT 0 1 [Td.sc (.int .i64 x0)] fun j => encL (l4 q et on a) (0 + j))))))))
    (h0 : x0 = one Q) (h1 : x1 = ET) (h2 : x2 = one ON) (h3 : x3 = A) :
    ∃ m, objsR l m ∧ ansE (.ret (.cell (ownL (vals4 Q ET ON A) 0))) (.returned (.slice (some ⟨k, 0, some 0⟩) 4 0)) (mkS m) := by
  subst h0 h1 h2 h3
  exact leafP h rfl (fun h => by cases h) fun i hi w F y => match i, hi with
    | 0, _ => ⟨fun h => h, fun h => h, fun h => h⟩
    | 1, _ => ⟨fun h => h, fun h => h, fun h => h⟩
    | 2, _ => ⟨fun h => h, fun h => h, fun h => h⟩
    | 3, _ => ⟨fun h => h, fun h => h, fun h => h⟩
def small (x : Int) : Bool := decide (-4294967296 ≤ x) && decide (x ≤ 4294967296)
def timOkR (kind : Int) (l : List Vl) (pt now : Int) : Bool := timOk false kind l && small (l.getD 3 Enc.dflt).i && small pt && small now
def okStepR (ts : List Ta) : Bool := match ts with
  | [.cell (.sc (.int .i64 kind)), .cell t, .cell (.sc (.bool inn)), .cell (.sc (.int .i64 pt)), .cell (.sc (.int .i64 now))] => okT Vl t && timOkR kind (listT Vl t) pt now
  | _ => false
theorem told_stepR {P : Program} {g : FuncId} {A : Int → List Vl → Nat → Bool → Int → Int → Ans} (hm : P.follows .mixedOrders = true)
    (h : ∀ (kind : Int) (l : List Vl) (c : Nat) (inn : Bool) (pt now : Int), l.length ≤ 1000000 → c ≤ 1 → timOkR kind l pt now = true → ∃ (C : Told) (fuel n : Nat) (un : Nat → Nat) (lvs : Nat → List Nat) (ex : Nat → Kt → Prop), ToldS P C ∧ ∀ β : Bs, β.X.length = 1 →
      lawE P C fuel n β un (cnOf 1 lvs) ex g [.int .i64 kind, .slice (some ⟨0, 0, some 0⟩) l.length c, .bool inn, .int .i64 pt, .int .i64 now] (mkS [some (rowO .look l)]) (outR (ansE (A kind l c inn pt now)))) : ToldW P g okStepR (ansStep A) := by
  intro ts hok w args' F hF ha
  unfold okStepR at hok
  split at hok
  · rename_i kind t inn pt now
    simp only [Bool.and_eq_true] at hok
    obtain ⟨o1, o2⟩ := hok
    obtain ⟨h1, h2⟩ := okT_len o1
    obtain ⟨y1, m1, e1, k1, hm1⟩ := ha.uncons
    obtain ⟨y2, m2, rfl, k2, hm2⟩ := hm1.uncons
    obtain ⟨y3, m3, rfl, k3, hm3⟩ := hm2.uncons
    obtain ⟨y4, m4, rfl, k4, hm4⟩ := hm3.uncons
    obtain ⟨y5, m5, rfl, k5, hm5⟩ := hm4.uncons
    have := hm5.nil_inv
    subst this
    have ha' : PW (TaR w F) [.cell (.sc (.int .i64 kind)), .cell (tdL (listT Vl t) (nilT t)), .cell (.sc (.bool inn)), .cell (.sc (.int .i64 pt)), .cell (.sc (.int .i64 now))] args'.toList := by
      rw [e1]; exact PW.cons k1 (PW.cons (okT_TRo o1 k2) (PW.cons k3 (PW.cons k4 (PW.cons k5 (PW.nil _)))))
    exact toldW_out (ts := [.cell (.sc (.int .i64 kind)), .cell (tdL (listT Vl t) (nilT t)), .cell (.sc (.bool inn)), .cell (.sc (.int .i64 pt)), .cell (.sc (.int .i64 now))]) hm (h kind _ _ inn pt now h1 h2 o2) w args' F hF ha'
  · cases hok
theorem okFit_of {kind : Int} {L : List Vl} {c : Nat} (hl : L.length ≤ 1000000) (hc : c ≤ 1) (h : timOk false kind L = true) : okFit [Ta.cell (Td.sc (Value.int IntKind.i64 kind)), Ta.cell (Td.fr 3 L.length c fun i => encL L (0 + i))] = true := by
  rw [encZ]
  show (okT Vl (tdL L c) && timOk false kind (listT Vl (tdL L c))) = true
  rw [okT_tdL (allV _) hl hc, listT_tdL, h]; rfl
set_option maxHeartbeats 2000000 in
theorem ref_told : ToldW Try.prog 12 okStepR (ansStep timA) := by
  refine told_stepR follows fun kind l c inn pt now hl hc hok => ⟨toldF, 100, 20, fun _ => 0, fun _ => [], fun _ _ => False, toldF_ok, fun β hβ => ?_⟩
  show lawE _ _ _ _ _ _ _ _ _ _ _ (outK fun r m => ∃ m2, objsR m m2 ∧ ansE (timA kind l c inn pt now) r (mkS m2))
  unfold timOkR at hok
  simp only [Bool.and_eq_true] at hok
  obtain ⟨⟨⟨hk, ha1⟩, hp1⟩, hn1⟩ := hok
  rcases timOk_cases hk with ⟨q, et, on, a, rfl⟩ | ⟨h, _⟩
  · show lawE _ _ _ _ _ _ _ _ _ [.int .i64 kind, .slice (some ⟨0, 0, some 0⟩) 4 c, .bool inn, .int .i64 pt, .int .i64 now] (mkS [some (rowO .look (l4 q et on a))]) _
    rw [vc_trA]
    have ha2 : small a = true := ha1
    simp only [small, Bool.and_eq_true, decide_eq_true_eq] at ha2 hp1 hn1
    have hP0 : 0 ≤ ptM pt := by unfold ptM; split <;> omega
    have hP1 : ptM pt ≤ 4294967296 := by unfold ptM; split <;> omega
    have g1 := goes_past (now := now) (a := now) (pt := ptM pt) hn1.1 hn1.2 hn1.1 hn1.2 hP0 hP1
    have g2 := goes_past (now := now) (a := a) (pt := ptM pt) ha2.1 ha2.2 hn1.1 hn1.2 hP0 hP1
    have G1 := g1.1
    have G2 := g2.1
    have N1 : (!(pastN now now (ptM pt) == ptM pt)) = decide (pastN now now (ptM pt) < ptM pt) := by
      rw [Bool.eq_iff_iff]; simp only [Bool.not_eq_true', beq_eq_false_iff_ne, decide_eq_true_eq]; have := g1.2.1; omega
    have N2 : (!(pastN now a (ptM pt) == ptM pt)) = decide (pastN now a (ptM pt) < ptM pt) := by
      rw [Bool.eq_iff_iff]; simp only [Bool.not_eq_true', beq_eq_false_iff_ne, decide_eq_true_eq]; have := g2.2.1; omega
    have hpm : (if (0 : Int) > pt then (0 : Int) else pt) = ptM pt := rfl
    have ho : okFit [Ta.cell (Td.sc (Value.int IntKind.i64 kind)), Ta.cell (Td.fr 3 4 c fun i => encL (l4 q et on a) (0 + i))] = true := okFit_of (L := l4 q et on a) hl hc hk
    have hcl : kind ≠ 6 → kind ≠ 7 → kind ≠ 8 → timA kind (l4 q et on a) c inn pt now = .ret (.cell (ownL (l4 q et on a) 0)) := fun h1 h2 h3 => by simp [timA, timL, timC, l4, h1, h2, h3]
    rw [hpm]
    generalize hPM : ptM pt = P at *
    simp only [ho, need_t]
    refine br_of (fun q1 => ?_) (fun q1 => br_of (fun q2 => ?_) (fun q2 => br_of (fun q3 => ?_) (fun q3 => ?_)))
    · rw [hcl (by simp at q1; omega) (by simp at q1; omega) (by simp at q1; omega)]
      exact leafC (k := 2) (L := l4 q et on a) rfl rfl (fun h => by cases h)
    · rw [hcl (by simp at q2; omega) (by simp at q2; omega) (by simp at q2; omega)]
      exact leafC (k := 2) (L := l4 q et on a) rfl rfl (fun h => by cases h)
    · have : ¬ (6 ≤ kind ∧ kind ≤ 8) := by
        intro h; unfold fitF at q3; simp [h.1, h.2] at q3
      rw [hcl (by omega) (by omega) (by omega)]
      exact leafC (k := 2) (L := l4 q et on a) rfl rfl (fun h => by cases h)
    · have hk3 : kind = 6 ∨ kind = 7 ∨ kind = 8 := by simp at q1 q2; omega
      rcases hk3 with rfl | rfl | rfl
      · rw [tim_6]
        have e6 : ((6 : Int) == 6) = true := rfl
        have e7 : ((6 : Int) == 7) = false := rfl
        unfold tonL
        rw [hPM]
        refine Hold.h ?_
        cases inn <;> cases hon : (on != 0) <;> cases hq : (q != 0)
        all_goals
          refine ⟨?_⟩
          simp only [e6, e7, hon, hq, Bool.not_true, Bool.not_false, br_t, br_f, cond_true, cond_false, atM, tpB, G1, G2, N1, N2]
          first
            | exact leafT (k := 2) rfl rfl rfl rfl rfl
            | (refine br_of (fun h => ?_) (fun h => ?_)
               · first
                   | exact leafT (k := 2) rfl rfl rfl rfl rfl
                   | (rw [Bool.not_eq_true'] at h
                      simp only [h, cond_true, cond_false]
                      exact leafT (k := 2) rfl rfl rfl rfl rfl)
               · first
                   | exact leafT (k := 2) rfl rfl rfl rfl rfl
                   | (rw [Bool.not_eq_false'] at h
                      simp only [h, cond_true, cond_false]
                      exact leafT (k := 2) rfl rfl rfl rfl rfl))
      · rw [tim_7]
        have e6 : ((7 : Int) == 6) = false := rfl
        have e7 : ((7 : Int) == 7) = true := rfl
        unfold tofL
        rw [hPM]
        refine Hold.h ?_
        cases inn <;> cases hon : (on != 0) <;> cases hq : (q != 0)
        all_goals
          refine ⟨?_⟩
          simp only [e6, e7, hon, hq, Bool.not_true, Bool.not_false, br_t, br_f, cond_true, cond_false, atM, tpB, G1, G2, N1, N2]
          first
            | exact leafT (k := 2) rfl rfl rfl rfl rfl
            | (refine br_of (fun h => ?_) (fun h => ?_)
               · first
                   | exact leafT (k := 2) rfl rfl rfl rfl rfl
                   | (rw [Bool.not_eq_true'] at h
                      simp only [h, cond_true, cond_false]
                      exact leafT (k := 2) rfl rfl rfl rfl rfl)
               · first
                   | exact leafT (k := 2) rfl rfl rfl rfl rfl
                   | (rw [Bool.not_eq_false'] at h
                      simp only [h, cond_true, cond_false]
                      exact leafT (k := 2) rfl rfl rfl rfl rfl))
      · rw [tim_8]
        have e6 : ((8 : Int) == 6) = false := rfl
        have e7 : ((8 : Int) == 7) = false := rfl
        unfold tpL
        rw [hPM]
        refine Hold.h ?_
        cases inn <;> cases hon : (on != 0) <;> cases hq : (q != 0)
        all_goals
          refine ⟨?_⟩
          simp only [e6, e7, hon, hq, Bool.not_true, Bool.not_false, br_t, br_f, cond_true, cond_false, atM, tpB, G1, G2, N1, N2]
          first
            | exact leafT (k := 2) rfl rfl rfl rfl rfl
            | (refine br_of (fun h => ?_) (fun h => ?_)
               · first
                   | exact leafT (k := 2) rfl rfl rfl rfl rfl
                   | (rw [Bool.not_eq_true'] at h
                      simp only [h, cond_true, cond_false]
                      exact leafT (k := 2) rfl rfl rfl rfl rfl)
               · first
                   | exact leafT (k := 2) rfl rfl rfl rfl rfl
                   | (rw [Bool.not_eq_false'] at h
                      simp only [h, cond_true, cond_false]
                      exact leafT (k := 2) rfl rfl rfl rfl rfl))
  · cases h
def toldG : Told := (toldF.tree 10 (okStep (timOk true)) (ansStep timA)).tree 12 okStepR (ansStep timA)
theorem toldG_ok : ToldS Try.prog toldG := Told.tree_ok (Told.tree_ok toldF_ok step_told) ref_told
end Go.Proofs.Ytaceobjppcmhjaa.Ev
