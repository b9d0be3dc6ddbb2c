/-
  The steps of counters, told to the evaluator.
-/
import Derived.Test.YtcdbodpmcnebiaaCnSV
import Derived.Test.YtcdbodpmcnebiaaCnCV
set_option linter.unusedVariables false
set_option linter.unusedSimpArgs false
set_option maxRecDepth 100000
namespace Go.Proofs.Ytcdbodpmcnebiaa.Ev
open Go Go.Proofs Go.RowKit

def okStep (p : Int → List Vl → Bool) (ts : List Ta) : Bool := match ts with
  | [.cell (.sc (.int .i64 kind)), .cell t, .cell (.sc (.bool inn)), .cell (.sc (.int .i64 pv))] => okT Vl t && p kind (listT Vl t)
  | _ => false
def ansStep (A : Int → List Vl → Nat → Bool → Int → Ans) (ts : List Ta) : Ans := match ts with
  | [.cell (.sc (.int .i64 kind)), .cell t, .cell (.sc (.bool inn)), .cell (.sc (.int .i64 pv))] => A kind (listT Vl t) (nilT t) inn pv
  | _ => .pan .nilIface
theorem told_step {P : Program} {g : FuncId} {p : Int → List Vl → Bool} {A : Int → List Vl → Nat → Bool → Int → Ans} (hm : P.follows .mixedOrders = true)
    (h : ∀ (kind : Int) (l : List Vl) (c : Nat) (inn : Bool) (pv : Int), l.length ≤ 1000000 → c ≤ 1 → p kind l = true → ∃ (C : Told) (fuel n : Nat) (un : Nat → Nat) (lvs : Nat → List Nat) (ex : Nat → Kt → Prop), ToldS P C ∧ ∀ β : Bs, β.X.length = 1 →
      lawE P C fuel n β un (cnOf 1 lvs) ex g [.int .i64 kind, .slice (some ⟨0, 0, some 0⟩) l.length c, .bool inn, .int .i64 pv] (mkS [some (rowO .look l)]) (outR (ansE (A kind l c inn pv)))) : ToldW P g (okStep p) (ansStep A) := by
  intro ts hok w args' F hF ha
  unfold okStep at hok
  split at hok
  · rename_i kind t inn pv
    simp only [Bool.and_eq_true] at hok
    obtain ⟨o1, o2⟩ := hok
    obtain ⟨h1, h2⟩ := okT_len o1
    obtain ⟨y1, m1, e1, k1, hm1⟩ := ha.uncons
    obtain ⟨y2, m2, rfl, k2, hm2⟩ := hm1.uncons
    obtain ⟨y3, m3, rfl, k3, hm3⟩ := hm2.uncons
    obtain ⟨y4, m4, rfl, k4, hm4⟩ := hm3.uncons
    have := hm4.nil_inv
    subst this
    have ha' : PW (TaR w F) [.cell (.sc (.int .i64 kind)), .cell (tdL (listT Vl t) (nilT t)), .cell (.sc (.bool inn)), .cell (.sc (.int .i64 pv))] args'.toList := by
      rw [e1]; exact PW.cons k1 (PW.cons (okT_TRo o1 k2) (PW.cons k3 (PW.cons k4 (PW.nil _))))
    exact toldW_out (ts := [.cell (.sc (.int .i64 kind)), .cell (tdL (listT Vl t) (nilT t)), .cell (.sc (.bool inn)), .cell (.sc (.int .i64 pv))]) hm (h kind _ _ inn pv h1 h2 o2) w args' F hF ha'
  · cases hok
def cntU (x y z : Int) (inn : Bool) (pv : Int) : List Vl := [⟨1, one (decide (cond (inn && decide (z = 0)) (if (32767 : Int) < IntKind.wrap .i64 (y + 1) then (32767 : Int) else IntKind.wrap .i64 (y + 1)) y ≥ pv)), 0⟩, ⟨2, cond (inn && decide (z = 0)) (if (32767 : Int) < IntKind.wrap .i64 (y + 1) then (32767 : Int) else IntKind.wrap .i64 (y + 1)) y, 0⟩, ⟨1, one inn, 0⟩]
def cntD (x y z : Int) (inn : Bool) (pv : Int) : List Vl := [⟨1, one (decide (cond (inn && decide (z = 0)) (cond (decide (y ≤ 0)) pv (IntKind.wrap .i64 (y - 1))) y ≤ 0)), 0⟩, ⟨2, cond (inn && decide (z = 0)) (cond (decide (y ≤ 0)) pv (IntKind.wrap .i64 (y - 1))) y, 0⟩, ⟨1, one inn, 0⟩]
def cntL (kind : Int) (l : List Vl) (inn : Bool) (pv : Int) : List Vl := match l with
  | [x, y, z] => cond (decide (kind = 9)) (cntU x.i y.i z.i inn pv) (cond (decide (kind = 10)) (cntD x.i y.i z.i inn pv) [x, y, z])
  | [x, z] => cond (decide (kind = 11)) [⟨1, one (inn && decide (z.i = 0)), 0⟩, ⟨1, one inn, 0⟩] (cond (decide (kind = 12)) [⟨1, one (!inn && !decide (z.i = 0)), 0⟩, ⟨1, one inn, 0⟩] [x, z])
  | l => l
def cntC (l : List Vl) (c : Nat) : Nat := match l with
  | [x, y, z] => 0
  | [x, z] => 0
  | l => c
def isB (v : Vl) : Bool := decide (v.k = 1) && decide (v.f = 0)
def isN (v : Vl) : Bool := decide (v.k = 2) && decide (v.f = 0)
def cntOk (wild : Bool) (kind : Int) (l : List Vl) : Bool := match l with
  | [x, y, z] => isB x && isN y && isB z
  | [x, z] => (isB x && isB z) || (wild && decide (kind = 9))
  | l => wild && decide (kind = 9) && Nat.ble l.length 6
def cntA (kind : Int) (l : List Vl) (c : Nat) (inn : Bool) (pv : Int) : Ans := .ret (.cell (ownL (cntL kind l inn pv) (cntC l c)))
theorem isB_inv {v : Vl} (h : isB v = true) : v = ⟨1, v.i, 0⟩ := by
  obtain ⟨k, i, f⟩ := v
  simp [isB] at h
  obtain ⟨rfl, rfl⟩ := h
  rfl
theorem isN_inv {v : Vl} (h : isN v = true) : v = ⟨2, v.i, 0⟩ := by
  obtain ⟨k, i, f⟩ := v
  simp [isN] at h
  obtain ⟨rfl, rfl⟩ := h
  rfl
/-- what a list is of which it may be told -/
theorem cntOk_cases {wild : Bool} {kind : Int} {l : List Vl} (h : cntOk wild kind l = true) : (∃ x y z, l = l3 x y z) ∨ (∃ x z, l = l2 x z) ∨ (wild = true ∧ kind = 9 ∧ l.length ≠ 3 ∧ l.length ≤ 6) := by
  unfold cntOk at h
  split at h
  · rename_i x y z
    simp only [Bool.and_eq_true] at h
    exact .inl ⟨x.i, y.i, z.i, by rw [l3, ← isB_inv h.1.1, ← isN_inv h.1.2, ← isB_inv h.2]⟩
  · rename_i x z
    simp only [Bool.or_eq_true, Bool.and_eq_true, decide_eq_true_eq] at h
    rcases h with h | h
    · exact .inr (.inl ⟨x.i, z.i, by rw [l2, ← isB_inv h.1, ← isB_inv h.2]⟩)
    · exact .inr (.inr ⟨h.1, h.2, by simp, by simp⟩)
  · rename_i h3 h2
    simp only [Bool.and_eq_true, decide_eq_true_eq] at h
    refine .inr (.inr ⟨h.1.1, h.1.2, fun hl => ?_, Nat.le_of_ble_eq_true h.2⟩)
    match l, hl with
    | [x, y, z], _ => exact h3 x y z rfl
theorem leafV {l : List (Option AObj)} {k n cap : Nat} {L : List Vl} {cs : List Value} (h : l[k]? = some (some (.cells cs true 3))) (hcs : cs = vcells L) (hn : n = L.length) (hcap : cap = n) :
    ∃ m, objsR l m ∧ ansE (.ret (.cell (ownL L 0))) (.returned (.slice (some ⟨k, 0, none⟩) n cap)) (mkS m) := by
  subst hn
  have hl := (List.getElem?_eq_some_iff.1 h).1
  exact ⟨_, outAt h rfl (fun _ _ _ h => h), [k], own_vals hl hcs hcap, by simp⟩
theorem leafR {l : List (Option AObj)} {k n c c0 : Nat} {L : List Vl} {e : Nat → Nat → Td} (h : l[k]? = some (some (.row .mine 3 0 n e))) (hn : n = L.length) (hc : n = 0 → c0 = c) (he : ∀ i, i < n → ∀ j, j < 3 → ∀ w F y, TR w F (e i j) y → TR w F (encL L i j) y) :
    ∃ m, objsR l m ∧ ansE (.ret (.cell (ownL L c))) (.returned (.slice (some ⟨k, 0, some 0⟩) n c0)) (mkS m) := by
  subst hn
  have hl := (List.getElem?_eq_some_iff.1 h).1
  refine ⟨_, outAt (o2 := rowO .mine L) h rfl (fun ρ s w ho => ho.row_TR rfl fun i _ hi j hj F y ht => he i hi j hj w F y ht), [k], own_at hl rfl hc, by simp⟩
def clnT (L : List Vl) (i : Nat) : Nat → Td := encL L (0 + i)
theorem leafC {l : List (Option AObj)} {k n c c0 : Nat} {L : List Vl} (h : l[k]? = some (some (.row .mine 3 0 n fun i => encL L (0 + i)))) (hn : n = L.length) (hc : n = 0 → c0 = c) :
    ∃ m, objsR l m ∧ ansE (.ret (.cell (ownL L c))) (.returned (.slice (some ⟨k, 0, some 0⟩) n c0)) (mkS m) := leafR h hn hc fun i _ j _ w F y ht => by rw [Nat.zero_add] at ht; exact ht
set_option maxHeartbeats 2000000 in
theorem step_told : ToldW Try.prog 10 (okStep (cntOk true)) (ansStep cntA) := by
  refine told_step follows fun kind l c inn pv hl hc hok => ⟨toldN, 100, 20, fun _ => 0, fun _ => [], fun _ _ => False, toldN_ok, fun β hβ => ?_⟩
  show lawE _ _ _ _ _ _ _ _ _ _ _ (outK fun r m => ∃ m2, objsR m m2 ∧ ansE (cntA kind l c inn pv) r (mkS m2))
  rcases cntOk_cases hok with ⟨x, y, z, rfl⟩ | ⟨x, z, rfl⟩ | ⟨_, rfl, h3, h6⟩
  · show lawE _ _ _ _ _ _ _ _ _ [.int .i64 kind, .slice (some ⟨0, 0, some 0⟩) 3 c, .bool inn, .int .i64 pv] (mkS [some (rowO .look (l3 x y z))]) _
    rw [vc_csA]
    have ho : okC 3 [Ta.cell (Td.fr 3 3 c fun i => encL (l3 x y z) (0 + i))] = true := okC_of (by omega) hc
    simp only [ho, need_t]
    by_cases k9 : kind = 9
    · subst k9
      simp only [beq_self_eq_true, br_t]
      refine br_of (fun q1 => br_of (fun q2 => ?_) (fun q2 => ?_)) (fun q1 => ?_)
      · exact leafV (k := 9) (L := cntU x y z inn pv) rfl (by simp at q2; simp [cntU, vcells, q1, q2]) rfl rfl
      · exact leafV (k := 9) (L := cntU x y z inn pv) rfl (by simp at q2; simp [cntU, vcells, q1, q2]) rfl rfl
      · exact leafV (k := 9) (L := cntU x y z inn pv) rfl (by simp [cntU, vcells, q1]) rfl rfl
    · have b9 : (kind == 9) = false := by simpa using k9
      by_cases k10 : kind = 10
      · subst k10
        simp only [b9, br_f, beq_self_eq_true, br_t]
        refine br_of (fun q1 => br_of (fun q2 => br_of (fun q3 => ?_) (fun q3 => ?_)) (fun q2 => ?_)) (fun q1 => ?_)
        · exact leafV (k := 9) (L := cntD x y z inn pv) rfl (by simp at q2 q3; simp [cntD, vcells, q1, q2, q3]) rfl rfl
        · exact leafV (k := 9) (L := cntD x y z inn pv) rfl (by simp at q2; simp [cntD, vcells, q1, q2, of_decide_eq_false q3]) rfl rfl
        · exact leafV (k := 9) (L := cntD x y z inn pv) rfl (by simp at q2; simp [cntD, vcells, q1, q2]) rfl rfl
        · exact leafV (k := 9) (L := cntD x y z inn pv) rfl (by simp [cntD, vcells, q1]) rfl rfl
      · have b10 : (kind == 10) = false := by simpa using k10
        simp only [b9, b10, br_f]
        rw [show cntA kind (l3 x y z) c inn pv = .ret (.cell (ownL (l3 x y z) 0)) by simp [cntA, cntL, cntC, l3, k9, k10]]
        refine br_of (fun _ => ?_) (fun _ => br_of (fun _ => ?_) (fun _ => ?_))
        · exact leafC (k := 5) (L := l3 x y z) rfl rfl (fun h => by cases h)
        · exact leafC (k := 5) (L := l3 x y z) rfl rfl (fun h => by cases h)
        · exact leafC (k := 4) (L := l3 x y z) rfl rfl (fun h => by cases h)
  · show lawE _ _ _ _ _ _ _ _ _ [.int .i64 kind, .slice (some ⟨0, 0, some 0⟩) 2 c, .bool inn, .int .i64 pv] (mkS [some (rowO .look (l2 x z))]) _
    rw [vc_csB]
    have ho : okC 3 [Ta.cell (Td.fr 3 2 c fun i => encL (l2 x z) (0 + i))] = true := okC_of (by omega) hc
    simp only [ho, need_t]
    by_cases k11 : kind = 11
    · subst k11
      have e1 : ((11 : Int) == 9) = false := rfl
      have e2 : ((11 : Int) == 10) = false := rfl
      simp only [e1, e2, br_f, beq_self_eq_true, br_t]
      refine br_of (fun q => ?_) (fun q => ?_)
      · exact leafV (k := 7) (L := [⟨1, one (inn && decide (z = 0)), 0⟩, ⟨1, one inn, 0⟩]) rfl (by revert q; cases inn <;> by_cases hz : z = 0 <;> simp [vcells, hz, one]) rfl rfl
      · exact leafV (k := 7) (L := [⟨1, one (inn && decide (z = 0)), 0⟩, ⟨1, one inn, 0⟩]) rfl (by revert q; cases inn <;> by_cases hz : z = 0 <;> simp [vcells, hz, one]) rfl rfl
    · by_cases k12 : kind = 12
      · subst k12
        have e1 : ((12 : Int) == 9) = false := rfl
        have e2 : ((12 : Int) == 10) = false := rfl
        have e3 : ((12 : Int) == 11) = false := rfl
        simp only [e1, e2, e3, br_f, beq_self_eq_true, br_t]
        refine br_of (fun q => ?_) (fun q => ?_)
        · exact leafV (k := 7) (L := [⟨1, one (!inn && !decide (z = 0)), 0⟩, ⟨1, one inn, 0⟩]) rfl (by revert q; cases inn <;> by_cases hz : z = 0 <;> simp [vcells, hz, one]) rfl rfl
        · exact leafV (k := 7) (L := [⟨1, one (!inn && !decide (z = 0)), 0⟩, ⟨1, one inn, 0⟩]) rfl (by revert q; cases inn <;> by_cases hz : z = 0 <;> simp [vcells, hz, one]) rfl rfl
      · have b11 : (kind == 11) = false := by simpa using k11
        have b12 : (kind == 12) = false := by simpa using k12
        simp only [b11, b12, br_f]
        rw [show cntA kind (l2 x z) c inn pv = .ret (.cell (ownL (l2 x z) 0)) by simp [cntA, cntL, cntC, l2, k11, k12]]
        refine br_of (fun _ => ?_) (fun _ => br_of (fun _ => ?_) (fun _ => ?_))
        · exact leafC (k := 5) (L := l2 x z) rfl rfl (fun h => by cases h)
        · exact leafC (k := 5) (L := l2 x z) rfl rfl (fun h => by cases h)
        · exact leafC (k := 4) (L := l2 x z) rfl rfl (fun h => by cases h)
  · have key : ∀ (l : List Vl), l.length ≠ 3 → l.length ≠ 2 → cntA 9 l c inn pv = .ret (.cell (ownL l c)) := fun l h1 h2 => by
      match l, h1, h2 with
      | [], _, _ => rfl
      | [_], _, _ => rfl
      | [_, _], _, h => exact absurd rfl h
      | [_, _, _], h, _ => exact absurd rfl h
      | _ :: _ :: _ :: _ :: _, _, _ => rfl
    match l, h3, h6 with
    | [], _, _ =>
      show lawE _ _ _ _ _ _ _ _ _ [.int .i64 9, .slice (some ⟨0, 0, some 0⟩) 0 c, .bool inn, .int .i64 pv] (mkS [some (rowO .look ([] : List Vl))]) _
      rw [vc_csC0]
      have ho : okC 3 [Ta.cell (Td.fr 3 0 c fun i => encL ([] : List Vl) (0 + i))] = true := okC_of (by omega) hc
      simp only [ho, need_t]
      rw [key _ (by simp) (by simp)]
      exact leafC (k := 5) (L := []) rfl rfl (fun h => rfl)
    | [a], _, _ =>
      show lawE _ _ _ _ _ _ _ _ _ [.int .i64 9, .slice (some ⟨0, 0, some 0⟩) 1 c, .bool inn, .int .i64 pv] (mkS [some (rowO .look ([a] : List Vl))]) _
      rw [vc_csC1]
      have ho : okC 3 [Ta.cell (Td.fr 3 1 c fun i => encL ([a] : List Vl) (0 + i))] = true := okC_of (by omega) hc
      simp only [ho, need_t]
      rw [key _ (by simp) (by simp)]
      exact leafC (k := 5) (L := [a]) rfl rfl (fun h => by cases h)
    | [a, b], _, _ =>
      show lawE _ _ _ _ _ _ _ _ _ [.int .i64 9, .slice (some ⟨0, 0, some 0⟩) 2 c, .bool inn, .int .i64 pv] (mkS [some (rowO .look ([a, b] : List Vl))]) _
      rw [vc_csC2]
      have ho : okC 3 [Ta.cell (Td.fr 3 2 c fun i => encL ([a, b] : List Vl) (0 + i))] = true := okC_of (by omega) hc
      simp only [ho, need_t]
      rw [show cntA 9 [a, b] c inn pv = .ret (.cell (ownL [a, b] 0)) from rfl]
      exact leafC (k := 5) (L := [a, b]) rfl rfl (fun h => by cases h)
    | [a, b, d, e], _, _ =>
      show lawE _ _ _ _ _ _ _ _ _ [.int .i64 9, .slice (some ⟨0, 0, some 0⟩) 4 c, .bool inn, .int .i64 pv] (mkS [some (rowO .look ([a, b, d, e] : List Vl))]) _
      rw [vc_csC4]
      have ho : okC 3 [Ta.cell (Td.fr 3 4 c fun i => encL ([a, b, d, e] : List Vl) (0 + i))] = true := okC_of (by omega) hc
      simp only [ho, need_t]
      rw [key _ (by simp) (by simp)]
      exact leafC (k := 5) (L := [a, b, d, e]) rfl rfl (fun h => by cases h)
    | [a, b, d, e, f], _, _ =>
      show lawE _ _ _ _ _ _ _ _ _ [.int .i64 9, .slice (some ⟨0, 0, some 0⟩) 5 c, .bool inn, .int .i64 pv] (mkS [some (rowO .look ([a, b, d, e, f] : List Vl))]) _
      rw [vc_csC5]
      have ho : okC 3 [Ta.cell (Td.fr 3 5 c fun i => encL ([a, b, d, e, f] : List Vl) (0 + i))] = true := okC_of (by omega) hc
      simp only [ho, need_t]
      rw [key _ (by simp) (by simp)]
      exact leafC (k := 5) (L := [a, b, d, e, f]) rfl rfl (fun h => by cases h)
    | [a, b, d, e, f, g], _, _ =>
      show lawE _ _ _ _ _ _ _ _ _ [.int .i64 9, .slice (some ⟨0, 0, some 0⟩) 6 c, .bool inn, .int .i64 pv] (mkS [some (rowO .look ([a, b, d, e, f, g] : List Vl))]) _
      rw [vc_csC6]
      have ho : okC 3 [Ta.cell (Td.fr 3 6 c fun i => encL ([a, b, d, e, f, g] : List Vl) (0 + i))] = true := okC_of (by omega) hc
      simp only [ho, need_t]
      rw [key _ (by simp) (by simp)]
      exact leafC (k := 5) (L := [a, b, d, e, f, g]) rfl rfl (fun h => by cases h)
    | [_, _, _], h, _ => exact absurd rfl h
    | _ :: _ :: _ :: _ :: _ :: _ :: _ :: _, _, h => simp at h
end Go.Proofs.Ytcdbodpmcnebiaa.Ev
