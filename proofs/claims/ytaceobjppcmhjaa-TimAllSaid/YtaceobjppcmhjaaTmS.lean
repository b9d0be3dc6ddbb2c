/-
  The steps of timers, told to the evaluator.
-/
import Derived.Test.YtaceobjppcmhjaaTmSV
import Derived.Test.YtaceobjppcmhjaaTmCV
set_option linter.unusedVariables false
set_option linter.unusedSimpArgs false
set_option maxRecDepth 100000
namespace Go.Proofs.Ytaceobjppcmhjaa.Ev
open Go Go.Proofs Go.RowKit

def okStep (p : Int → List Vl → Bool) (ts : List Ta) : Bool := match ts with
  | [.cell (.sc (.int .i64 kind)), .cell t, .cell (.sc (.bool inn)), .cell (.sc (.int .i64 pt)), .cell (.sc (.int .i64 now))] => okT Vl t && p kind (listT Vl t)
  | _ => false
def ansStep (A : Int → List Vl → Nat → Bool → Int → Int → Ans) (ts : List Ta) : Ans := match ts with
  | [.cell (.sc (.int .i64 kind)), .cell t, .cell (.sc (.bool inn)), .cell (.sc (.int .i64 pt)), .cell (.sc (.int .i64 now))] => A kind (listT Vl t) (nilT t) inn pt now
  | _ => .pan .nilIface
theorem told_step {P : Program} {g : FuncId} {p : Int → List Vl → Bool} {A : Int → List Vl → Nat → Bool → Int → Int → Ans} (hm : P.follows .mixedOrders = true)
    (h : ∀ (kind : Int) (l : List Vl) (c : Nat) (inn : Bool) (pt now : Int), l.length ≤ 1000000 → c ≤ 1 → p kind l = true → ∃ (C : Told) (fuel n : Nat) (un : Nat → Nat) (lvs : Nat → List Nat) (ex : Nat → Kt → Prop), ToldS P C ∧ ∀ β : Bs, β.X.length = 1 →
      lawE P C fuel n β un (cnOf 1 lvs) ex g [.int .i64 kind, .slice (some ⟨0, 0, some 0⟩) l.length c, .bool inn, .int .i64 pt, .int .i64 now] (mkS [some (rowO .look l)]) (outR (ansE (A kind l c inn pt now)))) : ToldW P g (okStep p) (ansStep A) := by
  intro ts hok w args' F hF ha
  unfold okStep at hok
  split at hok
  · rename_i kind t inn pt now
    simp only [Bool.and_eq_true] at hok
    obtain ⟨o1, o2⟩ := hok
    obtain ⟨h1, h2⟩ := okT_len o1
    obtain ⟨y1, m1, e1, k1, hm1⟩ := ha.uncons
    obtain ⟨y2, m2, rfl, k2, hm2⟩ := hm1.uncons
    obtain ⟨y3, m3, rfl, k3, hm3⟩ := hm2.uncons
    obtain ⟨y4, m4, rfl, k4, hm4⟩ := hm3.uncons
    obtain ⟨y5, m5, rfl, k5, hm5⟩ := hm4.uncons
    have := hm5.nil_inv
    subst this
    have ha' : PW (TaR w F) [.cell (.sc (.int .i64 kind)), .cell (tdL (listT Vl t) (nilT t)), .cell (.sc (.bool inn)), .cell (.sc (.int .i64 pt)), .cell (.sc (.int .i64 now))] args'.toList := by
      rw [e1]; exact PW.cons k1 (PW.cons (okT_TRo o1 k2) (PW.cons k3 (PW.cons k4 (PW.cons k5 (PW.nil _)))))
    exact toldW_out (ts := [.cell (.sc (.int .i64 kind)), .cell (tdL (listT Vl t) (nilT t)), .cell (.sc (.bool inn)), .cell (.sc (.int .i64 pt)), .cell (.sc (.int .i64 now))]) hm (h kind _ _ inn pt now h1 h2 o2) w args' F hF ha'
  · cases hok
def ptM (pt : Int) : Int := if (0 : Int) > pt then (0 : Int) else pt
def atM (on a now : Int) : Int := cond (on != 0) a now
def vals4 (q : Bool) (et : Int) (on : Bool) (a : Int) : List Vl := [⟨1, one q, 0⟩, ⟨4, et, 0⟩, ⟨1, one on, 0⟩, ⟨4, a, 0⟩]
def tonL (q et on a : Int) (inn : Bool) (pt now : Int) : List Vl := vals4 (cond inn (goesN now (atM on a now) (ptM pt) == ptM pt) false) (cond inn (goesN now (atM on a now) (ptM pt)) 0) inn (cond inn (atM on a now) 0)
def tofL (q et on a : Int) (inn : Bool) (pt now : Int) : List Vl := vals4 (cond inn true (cond (q != 0) (!(goesN now (atM on a now) (ptM pt) == ptM pt)) false)) (cond inn 0 (cond (q != 0) (goesN now (atM on a now) (ptM pt)) et)) (cond inn false (cond (q != 0) true (on != 0))) (cond inn 0 (cond (q != 0) (atM on a now) a))
def tpL (q et on a : Int) (inn : Bool) (pt now : Int) : List Vl := vals4 (cond (tpB (on != 0) inn a (ptM pt) now) (!(goesN now (atM on a now) (ptM pt) == ptM pt)) false) (cond (tpB (on != 0) inn a (ptM pt) now) (goesN now (atM on a now) (ptM pt)) 0) (tpB (on != 0) inn a (ptM pt) now) (cond (tpB (on != 0) inn a (ptM pt) now) (atM on a now) 0)
def timL (kind : Int) (l : List Vl) (inn : Bool) (pt now : Int) : List Vl := match l with
  | [x, y, z, t] => cond (decide (kind = 6)) (tonL x.i y.i z.i t.i inn pt now) (cond (decide (kind = 7)) (tofL x.i y.i z.i t.i inn pt now) (cond (decide (kind = 8)) (tpL x.i y.i z.i t.i inn pt now) [x, y, z, t]))
  | l => l
def timC (l : List Vl) (c : Nat) : Nat := match l with
  | [x, y, z, t] => 0
  | l => c
def isB (v : Vl) : Bool := decide (v.k = 1) && decide (v.f = 0)
def isT (v : Vl) : Bool := decide (v.k = 4) && decide (v.f = 0)
def timOk (wild : Bool) (kind : Int) (l : List Vl) : Bool := match l with
  | [x, y, z, t] => isB x && isT y && isB z && isT t
  | l => wild && decide (kind = 6) && Nat.ble l.length 6
def timA (kind : Int) (l : List Vl) (c : Nat) (inn : Bool) (pt now : Int) : Ans := .ret (.cell (ownL (timL kind l inn pt now) (timC l c)))
theorem isB_inv {v : Vl} (h : isB v = true) : v = ⟨1, v.i, 0⟩ := by
  obtain ⟨k, i, f⟩ := v
  simp [isB] at h
  obtain ⟨rfl, rfl⟩ := h
  rfl
theorem isT_inv {v : Vl} (h : isT v = true) : v = ⟨4, v.i, 0⟩ := by
  obtain ⟨k, i, f⟩ := v
  simp [isT] at h
  obtain ⟨rfl, rfl⟩ := h
  rfl
theorem timOk_cases {wild : Bool} {kind : Int} {l : List Vl} (h : timOk wild kind l = true) : (∃ x y z t, l = l4 x y z t) ∨ (wild = true ∧ kind = 6 ∧ l.length ≠ 4 ∧ l.length ≤ 6) := by
  unfold timOk at h
  split at h
  · rename_i x y z t
    simp only [Bool.and_eq_true] at h
    exact .inl ⟨x.i, y.i, z.i, t.i, by rw [l4, ← isB_inv h.1.1.1, ← isT_inv h.1.1.2, ← isB_inv h.1.2, ← isT_inv h.2]⟩
  · rename_i h4
    simp only [Bool.and_eq_true, decide_eq_true_eq] at h
    refine .inr ⟨h.1.1, h.1.2, fun hl => ?_, Nat.le_of_ble_eq_true h.2⟩
    match l, hl with
    | [x, y, z, t], _ => exact h4 x y z t rfl
theorem leafV {l : List (Option AObj)} {k n cap : Nat} {L : List Vl} {cs : List Value} (h : l[k]? = some (some (.cells cs true 3))) (hcs : cs = vcells L) (hn : n = L.length) (hcap : cap = n) :
    ∃ m, objsR l m ∧ ansE (.ret (.cell (ownL L 0))) (.returned (.slice (some ⟨k, 0, none⟩) n cap)) (mkS m) := by
  subst hn
  have hl := (List.getElem?_eq_some_iff.1 h).1
  exact ⟨_, outAt h rfl (fun _ _ _ h => h), [k], own_vals hl hcs hcap, by simp⟩
theorem leafR {l : List (Option AObj)} {k n c c0 : Nat} {L : List Vl} {e : Nat → Nat → Td} (h : l[k]? = some (some (.row .mine 3 0 n e))) (hn : n = L.length) (hc : n = 0 → c0 = c) (he : ∀ i, i < n → ∀ j, j < 3 → ∀ w F y, TR w F (e i j) y → TR w F (encL L i j) y) :
    ∃ m, objsR l m ∧ ansE (.ret (.cell (ownL L c))) (.returned (.slice (some ⟨k, 0, some 0⟩) n c0)) (mkS m) := by
  subst hn
  have hl := (List.getElem?_eq_some_iff.1 h).1
  refine ⟨_, outAt (o2 := rowO .mine L) h rfl (fun ρ s w ho => ho.row_TR rfl fun i _ hi j hj F y ht => he i hi j hj w F y ht), [k], own_at hl rfl hc, by simp⟩
def clnT (L : List Vl) (i : Nat) : Nat → Td := encL L (0 + i)
theorem leafC {l : List (Option AObj)} {k n c c0 : Nat} {L : List Vl} (h : l[k]? = some (some (.row .mine 3 0 n fun i => encL L (0 + i)))) (hn : n = L.length) (hc : n = 0 → c0 = c) :
    ∃ m, objsR l m ∧ ansE (.ret (.cell (ownL L c))) (.returned (.slice (some ⟨k, 0, some 0⟩) n c0)) (mkS m) := leafR h hn hc fun i _ j _ w F y ht => by rw [Nat.zero_add] at ht; exact ht
structure Hold (p : Prop) : Prop where
  h : p
theorem lens4 {l : List Vl} (h4 : l.length ≠ 4) (h6 : l.length ≤ 6) : l = [] ∨ (∃ a, l = [a]) ∨ (∃ a b, l = [a, b]) ∨ (∃ a b d, l = [a, b, d]) ∨ (∃ a b d e f, l = [a, b, d, e, f]) ∨ ∃ a b d e f g, l = [a, b, d, e, f, g] := by
  match l, h4, h6 with
  | [], _, _ => simp
  | [_], _, _ => simp
  | [_, _], _, _ => simp
  | [_, _, _], _, _ => simp
  | [_, _, _, _], h, _ => exact absurd rfl h
  | [_, _, _, _, _], _, _ => simp
  | [_, _, _, _, _, _], _, _ => simp
  | _ :: _ :: _ :: _ :: _ :: _ :: _ :: _, _, h => simp at h
theorem tim_6 (q et on a : Int) (c : Nat) (inn : Bool) (pt now : Int) : timA 6 (l4 q et on a) c inn pt now = .ret (.cell (ownL (tonL q et on a inn pt now) 0)) := by
  unfold timA timL timC l4
  simp only [show decide ((6 : Int) = 6) = true from rfl, show decide ((6 : Int) = 7) = false from rfl, show decide ((6 : Int) = 8) = false from rfl, cond_true, cond_false, decide_true]
theorem tim_7 (q et on a : Int) (c : Nat) (inn : Bool) (pt now : Int) : timA 7 (l4 q et on a) c inn pt now = .ret (.cell (ownL (tofL q et on a inn pt now) 0)) := by
  unfold timA timL timC l4
  simp only [show decide ((7 : Int) = 6) = false from rfl, show decide ((7 : Int) = 7) = true from rfl, show decide ((7 : Int) = 8) = false from rfl, cond_true, cond_false, decide_true]
theorem tim_8 (q et on a : Int) (c : Nat) (inn : Bool) (pt now : Int) : timA 8 (l4 q et on a) c inn pt now = .ret (.cell (ownL (tpL q et on a inn pt now) 0)) := by
  unfold timA timL timC l4
  simp only [show decide ((8 : Int) = 6) = false from rfl, show decide ((8 : Int) = 7) = false from rfl, show decide ((8 : Int) = 8) = true from rfl, cond_true, cond_false, decide_true]
set_option maxHeartbeats 2000000 in
theorem step_told : ToldW Try.prog 10 (okStep (timOk true)) (ansStep timA) := by
  refine told_step follows fun kind l c inn pt now hl hc hok => ⟨toldT, 100, 20, fun _ => 0, fun _ => [], fun _ _ => False, toldT_ok, fun β hβ => ?_⟩
  show lawE _ _ _ _ _ _ _ _ _ _ _ (outK fun r m => ∃ m2, objsR m m2 ∧ ansE (timA kind l c inn pt now) r (mkS m2))
  rcases timOk_cases hok with ⟨q, et, on, a, rfl⟩ | ⟨_, hk, h3, h6⟩
  · show lawE _ _ _ _ _ _ _ _ _ [.int .i64 kind, .slice (some ⟨0, 0, some 0⟩) 4 c, .bool inn, .int .i64 pt, .int .i64 now] (mkS [some (rowO .look (l4 q et on a))]) _
    rw [vc_tsA]
    have ho : okC 3 [Ta.cell (Td.fr 3 4 c fun i => encL (l4 q et on a) (0 + i))] = true := okC_of (by omega) hc
    simp only [ho, need_t]
    refine br_of (fun k6 => ?_) (fun k6 => br_of (fun k7 => ?_) (fun k7 => br_of (fun k8 => ?_) (fun k8 => ?_)))
    · have : kind = 6 := by simpa using k6
      subst this
      rw [tim_6]
      exact leafV (k := 14) (L := tonL q et on a inn pt now) rfl (by simp only [tonL, vals4, vcells, atM, ptM]) rfl rfl
    · have : kind = 7 := by simpa using k7
      subst this
      rw [tim_7]
      exact leafV (k := 14) (L := tofL q et on a inn pt now) rfl (by simp only [tofL, vals4, vcells, atM, ptM]) rfl rfl
    · have : kind = 8 := by simpa using k8
      subst this
      rw [tim_8]
      exact leafV (k := 14) (L := tpL q et on a inn pt now) rfl (by simp only [tpL, vals4, vcells, atM, ptM]) rfl rfl
    · have k6 : kind ≠ 6 := by simpa using k6
      have k7 : kind ≠ 7 := by simpa using k7
      have k8 : kind ≠ 8 := by simpa using k8
      rw [show timA kind (l4 q et on a) c inn pt now = .ret (.cell (ownL (l4 q et on a) 0)) by simp [timA, timL, timC, l4, k6, k7, k8]]
      exact leafC (k := 15) (L := l4 q et on a) rfl rfl (fun h => by cases h)
  · have hcases := lens4 h3 h6
    clear h3 h6 hok
    refine Hold.h ?_
    rcases hcases with rfl | ⟨a, rfl⟩ | ⟨a, b, rfl⟩ | ⟨a, b, d, rfl⟩ | ⟨a, b, d, e, f, rfl⟩ | ⟨a, b, d, e, f, g, rfl⟩
    · refine ⟨?_⟩
      rw [hk]
      show lawE _ _ _ _ _ _ _ _ _ [.int .i64 6, .slice (some ⟨0, 0, some 0⟩) 0 c, .bool inn, .int .i64 pt, .int .i64 now] _ _
      rw [vc_tsC0]
      have ho : okC 3 [Ta.cell (Td.fr 3 0 c fun i => encL ([] : List Vl) (0 + i))] = true := okC_of (by omega) hc
      simp only [ho, need_t]
      rw [show timA 6 ([] : List Vl) c inn pt now = .ret (.cell (ownL ([] : List Vl) c)) from rfl]
      exact leafC (k := 6) (L := []) rfl rfl (fun h => rfl)
    · refine ⟨?_⟩
      rw [hk]
      show lawE _ _ _ _ _ _ _ _ _ [.int .i64 6, .slice (some ⟨0, 0, some 0⟩) 1 c, .bool inn, .int .i64 pt, .int .i64 now] _ _
      rw [vc_tsC1]
      have ho : okC 3 [Ta.cell (Td.fr 3 1 c fun i => encL ([a] : List Vl) (0 + i))] = true := okC_of (by omega) hc
      simp only [ho, need_t]
      rw [show timA 6 ([a] : List Vl) c inn pt now = .ret (.cell (ownL ([a] : List Vl) c)) from rfl]
      exact leafC (k := 6) (L := [a]) rfl rfl (fun h => by cases h)
    · refine ⟨?_⟩
      rw [hk]
      show lawE _ _ _ _ _ _ _ _ _ [.int .i64 6, .slice (some ⟨0, 0, some 0⟩) 2 c, .bool inn, .int .i64 pt, .int .i64 now] _ _
      rw [vc_tsC2]
      have ho : okC 3 [Ta.cell (Td.fr 3 2 c fun i => encL ([a, b] : List Vl) (0 + i))] = true := okC_of (by omega) hc
      simp only [ho, need_t]
      rw [show timA 6 ([a, b] : List Vl) c inn pt now = .ret (.cell (ownL ([a, b] : List Vl) c)) from rfl]
      exact leafC (k := 6) (L := [a, b]) rfl rfl (fun h => by cases h)
    · refine ⟨?_⟩
      rw [hk]
      show lawE _ _ _ _ _ _ _ _ _ [.int .i64 6, .slice (some ⟨0, 0, some 0⟩) 3 c, .bool inn, .int .i64 pt, .int .i64 now] _ _
      rw [vc_tsC3]
      have ho : okC 3 [Ta.cell (Td.fr 3 3 c fun i => encL ([a, b, d] : List Vl) (0 + i))] = true := okC_of (by omega) hc
      simp only [ho, need_t]
      rw [show timA 6 ([a, b, d] : List Vl) c inn pt now = .ret (.cell (ownL ([a, b, d] : List Vl) c)) from rfl]
      exact leafC (k := 6) (L := [a, b, d]) rfl rfl (fun h => by cases h)
    · refine ⟨?_⟩
      rw [hk]
      show lawE _ _ _ _ _ _ _ _ _ [.int .i64 6, .slice (some ⟨0, 0, some 0⟩) 5 c, .bool inn, .int .i64 pt, .int .i64 now] _ _
      rw [vc_tsC5]
      have ho : okC 3 [Ta.cell (Td.fr 3 5 c fun i => encL ([a, b, d, e, f] : List Vl) (0 + i))] = true := okC_of (by omega) hc
      simp only [ho, need_t]
      rw [show timA 6 ([a, b, d, e, f] : List Vl) c inn pt now = .ret (.cell (ownL ([a, b, d, e, f] : List Vl) c)) from rfl]
      exact leafC (k := 6) (L := [a, b, d, e, f]) rfl rfl (fun h => by cases h)
    · refine ⟨?_⟩
      rw [hk]
      show lawE _ _ _ _ _ _ _ _ _ [.int .i64 6, .slice (some ⟨0, 0, some 0⟩) 6 c, .bool inn, .int .i64 pt, .int .i64 now] _ _
      rw [vc_tsC6]
      have ho : okC 3 [Ta.cell (Td.fr 3 6 c fun i => encL ([a, b, d, e, f, g] : List Vl) (0 + i))] = true := okC_of (by omega) hc
      simp only [ho, need_t]
      rw [show timA 6 ([a, b, d, e, f, g] : List Vl) c inn pt now = .ret (.cell (ownL ([a, b, d, e, f, g] : List Vl) c)) from rfl]
      exact leafC (k := 6) (L := [a, b, d, e, f, g]) rfl rfl (fun h => by cases h)
end Go.Proofs.Ytaceobjppcmhjaa.Ev
