/-
  SubsRise: what has to hold holds.
-/
import Derived.Test.YtlbccgoheiaheaaSubsRiseL
set_option linter.unusedVariables false
set_option linter.unusedSimpArgs false
namespace Go.Proofs.Ytlbccgoheiaheaa.Ev
open Go Go.Proofs Go.RowKit

theorem row5 (m : Nat) (f1 f2 f3 : Nat → Int) (f4 : Nat → Nat) (f5 : Nat → Bool) (i0 : Nat) : (allS m fun j => (fun i => [Value.int .i64 (f1 i), .int .i64 (f2 i), .int .i64 (f3 i), .float .f64 (f4 i), .bool (f5 i)]) (i0 + j)) = true := allS_of fun j => rfl
theorem chk {D nw ev : Int} {R R' X : Prop} (h : nw < D ∨ (D = nw ∧ ¬ ev > 0)) (x : X) : br (decide (D < nw)) R (br (decide (ev > 0)) (br (D == nw) R' X) X) := by
  have h1 : decide (D < nw) = false := decide_eq_false (by omega)
  rw [h1]
  show br (decide (ev > 0)) (br (D == nw) R' X) X
  refine br_of (fun e => ?_) (fun _ => x)
  have e : ev > 0 := of_decide_eq_true e
  have h2 : (D == nw) = false := by simp; omega
  rw [h2]
  exact x
instance Far.dec (b x y : Int) : Decidable (Far b x y) := inferInstanceAs (Decidable (b < y - x ∨ b < x - y))
theorem moved_eq {a v band : Int} (ha : -19 ≤ a ∧ a ≤ 19) (hv : -19 ≤ v ∧ v ≤ 19) (hb : 0 ≤ band ∧ band ≤ 4) :
    (!decide (IntKind.wrap .u64 (IntKind.wrap .u64 (if a > v then a else v) - IntKind.wrap .u64 (if a < v then a else v)) > IntKind.wrap .u64 (if 0 > band then 0 else band))) = !decide (Far band a v) := by
  have e : ∀ x y : Int, -19 ≤ x ∧ x ≤ 19 → -19 ≤ y ∧ y ≤ 19 → y ≤ x → IntKind.wrap .u64 (IntKind.wrap .u64 x - IntKind.wrap .u64 y) = x - y := by
    intro x y h1 h2 h3
    unfold IntKind.wrap
    simp [IntKind.signed, IntKind.bits]
    omega
  rw [if_neg (by omega : ¬ 0 > band), wu64 (x := band) (by omega) (by omega)]
  rw [e _ _ (by split <;> omega) (by split <;> omega) (by split <;> split <;> omega)]
  congr 1
  apply decide_eq_decide.2
  unfold Far
  split <;> split <;> omega
theorem now_eq {now x : Int} (h1 : 0 ≤ now ∧ now ≤ 1000000) (h2 : 0 ≤ x ∧ x ≤ 255) : IntKind.wrap .i64 (now + IntKind.wrap .i64 (Int.tmod x 40)) = now + x % 40 := by
  rw [Int.tmod_eq_emod_of_nonneg h2.1, w64 (x := x % 40) (by omega) (by omega), w64 (by omega) (by omega)]
theorem tmod20 (x : Int) : -19 ≤ Int.tmod x 20 ∧ Int.tmod x 20 ≤ 19 := by
  have h1 := Int.tmod_lt_of_pos x (b := 20) (by omega)
  have h2 := Int.lt_tmod_of_pos x (b := 20) (by omega)
  omega
theorem due_at {now due E : Int} (h1 : 0 ≤ due ∧ due ≤ now ∧ now ≤ 1000000) (hE : 1 ≤ E ∧ E ≤ 30) :
    ∃ D, IntKind.wrap .i64 (due + IntKind.wrap .i64 (IntKind.wrap .i64 (IntKind.wrap .u64 (IntKind.wrap .u64 (Int.tdiv (IntKind.wrap .u64 (IntKind.wrap .u64 now - IntKind.wrap .u64 due)) (IntKind.wrap .u64 E)) + 1)) * E)) = D ∧ now < D ∧ D ≤ now + E := by
  have e1 : IntKind.wrap .u64 now = now := wu64 (by omega) (by omega)
  have e2 : IntKind.wrap .u64 due = due := wu64 (by omega) (by omega)
  have e3 : IntKind.wrap .u64 E = E := wu64 (by omega) (by omega)
  have e4 : IntKind.wrap .u64 (now - due) = now - due := wu64 (by omega) (by omega)
  rw [e1, e2, e3, e4, Int.tdiv_eq_ediv_of_nonneg (by omega)]
  have hq0 : 0 ≤ (now - due) / E := Int.ediv_nonneg (by omega) (by omega)
  have hq1 : (now - due) / E ≤ now - due := Int.ediv_le_self _ (by omega)
  have hq2 : (now - due) / E * E ≤ now - due := Int.ediv_mul_le _ (by omega)
  have hq3 : now - due < ((now - due) / E + 1) * E := Int.lt_ediv_add_one_mul_self (now - due) (b := E) (by omega)
  generalize (now - due) / E = q at hq0 hq1 hq2 hq3
  have e5 : IntKind.wrap .u64 q = q := wu64 (by omega) (by omega)
  have e6 : IntKind.wrap .u64 (q + 1) = q + 1 := wu64 (by omega) (by omega)
  have e7 : IntKind.wrap .i64 (q + 1) = q + 1 := w64 (by omega) (by omega)
  rw [e5, e6, e7]
  have hm : (q + 1) * E = q * E + E := by rw [Int.add_mul]; omega
  have hm0 : 0 ≤ q * E := Int.mul_nonneg hq0 (by omega)
  rw [hm] at hq3 ⊢
  rw [w64 (x := q * E + E) (by omega) (by omega), w64 (by omega) (by omega)]
  exact ⟨_, rfl, by omega, by omega⟩
def PostR (has : Bool) (lk : Int) (p : RP) : Prop := p.seq ≤ p.S
abbrev AR := Bool × RP
def FQ (d : Dd) (every far m : Int) (a : AR) : AFr := FR d every far m a.2
def SQ (d : Dd) (E band m : Int) (a : AR) : ASt := SR d E band m a.1 (cond a.1 2 0) a.2
def IR (n : Nat) (E band m : Int) (a : AR) : Prop := cond a.1 (IT n E band m a.2) (IF n E band m a.2)
section
variable {d : Dd} {every far E band m : Int} {β : Bs}
theorem rise_next {K : Kt} {a : AR} {p' : RP} (h : IT d.n E band m p') (hi : p'.i = a.2.i + 1) (h0 : 0 ≤ a.2.i) (hN : p'.i ≤ d.n) : onP (Nn β (IR d.n E band m) (fun a : AR => (d.n - a.2.i).toNat) (FQ d every far m) (SQ d E band m) a K) .normal (shpB d every far E band m p') :=
  Nn.next (α := AR) (F := FQ d every far m) (S := SQ d E band m) (true, p') h (by dsimp only; omega)
theorem rise_nextF {K : Kt} {a : AR} {p' : RP} (h : IF d.n E band m p') (hi : p'.i = a.2.i + 1) (h0 : 0 ≤ a.2.i) (hN : p'.i ≤ d.n) : onP (Nn β (IR d.n E band m) (fun a : AR => (d.n - a.2.i).toNat) (FQ d every far m) (SQ d E band m) a K) .normal (shpA d every far E band m p') :=
  Nn.next (α := AR) (F := FQ d every far m) (S := SQ d E band m) (false, p') h (by dsimp only; omega)
theorem rise_round (hβ : β.X.length = 1) (hn : d.n ≤ 40) (hE : 0 ≤ E ∧ E ≤ 29) (hev : Int.tmod every 30 = E) (hb : 0 ≤ band ∧ band ≤ 4) (hfar : IntKind.wrap .i64 (Int.tmod far 5) = band) (hm : 1 ≤ m ∧ m ≤ 8) (hd : ∀ j, j < d.n → (0 ≤ d.db j ∧ d.db j ≤ 255))
    (K : Kt) (hK : ∀ has lk p, PostR has lk p → K (.exit 0) (FR d every far m p) (SR d E band m has lk p)) (a : AR) (ha : IR d.n E band m a) :
    J Try.prog β (loopOf Try.prog 3 0) (FQ d every far m a) (SQ d E band m a) (Nn β (IR d.n E band m) (fun a : AR => (d.n - a.2.i).toNat) (FQ d every far m) (SQ d E band m) a K) := by
  obtain ⟨b, p⟩ := a
  refine roundJ_ok (E := 1) (lvs := fun _ => slR) (un := fun _ => 0) (fuel := 100) (n := 20) (ex := fun _ _ => False) follows toldB_ok hβ (lv := fun _ => slR) ?_
  have hB : IB d.n E band m p := by cases b; exact IF.toIB ha; exact IT.toIB ha
  have hi0 := hB.i0
  have hiN := hB.iN
  have hrow := hB.row
  have hnn := hB.nn
  have hlm := hB.lm
  have hnow0 := hB.now0
  have hnow1 := hB.now1
  have hdue0 := hB.due0
  have hdue1 := hB.due1
  have hseq0 := hB.seq0
  have hseq1 := hB.seq1
  have hS1 := hB.S1
  have hall := row5 p.len p.qs p.qk p.qi p.qf p.ql p.i0
  have hwi : IntKind.wrap .i64 (p.i + 1) = p.i + 1 := w64 (by omega) (by omega)
  have hwS : IntKind.wrap .i64 (p.S + 1) = p.S + 1 := w64 (by omega) (by omega)
  have hws : IntKind.wrap .i64 (p.seq + 1) = p.seq + 1 := w64 (by omega) (by omega)
  have n6 : (Nat.ble 0 p.i0 && Nat.ble (p.i0 + p.len) p.nn) = true := by simpa using hrow
  have n7 : Nat.ble p.len 1000000 = true := Nat.ble_eq_true_of_le (by omega)
  have n8 : Nat.ble (p.len + 1) 1000000 = true := Nat.ble_eq_true_of_le (by omega)
  have n9 : (true && Nat.ble (0 + p.len) p.len) = true := by simp
  have c3 : decide (Int.ofNat p.len > m) = false := decide_eq_false (by show ¬ ((p.len : Int) > m); omega)
  have e1 : (Int.ofNat (p.len + 1 - 1) : Int) = p.len := by show ((p.len + 1 - 1 : Nat) : Int) = p.len; omega
  have c5 : decide (Int.ofNat (p.len + 1 - 1) > m) = false := decide_eq_false (by rw [e1]; omega)
  have nz : ¬ ∃ x, x < 0 ∧ 0 ≤ E ∧ E ≤ x := by rintro ⟨x, h1, h2, h3⟩; omega
  by_cases hin : p.i < (d.n : Int)
  · have c1 : decide (p.i < Int.ofNat d.n) = true := by simpa using hin
    have hk : p.i.toNat < d.n := by omega
    have n0 : decide (0 ≤ p.i) = true := decide_eq_true hi0
    have n1 : Nat.blt (Int.toNat p.i) d.n = true := blt_t hk
    have n2 : (Nat.ble 0 (0 + Int.toNat p.i) && Nat.blt (0 + Int.toNat p.i) d.n) = true := by
      rw [Nat.zero_add, n1]; rfl
    have hdb := hd _ hk
    have hnw := now_eq (now := p.now) (x := d.db (0 + Int.toNat p.i)) ⟨hnow0, by omega⟩ (by rw [Nat.zero_add]; exact hdb)
    have hnwb : p.now ≤ p.now + d.db (0 + Int.toNat p.i) % 40 ∧ p.now + d.db (0 + Int.toNat p.i) % 40 ≤ p.now + 40 := by
      rw [Nat.zero_add]; omega
    have hv := tmod20 (d.vi (0 + Int.toNat p.i))
    generalize hnwe : p.now + d.db (0 + Int.toNat p.i) % 40 = nw at hnw hnwb
    generalize hve : Int.tmod (d.vi (0 + Int.toNat p.i)) 20 = v at hv
    cases b with
    | false =>
      have hF : IF d.n E band m p := ha
      have hl0 := hF.l
      show roundJ _ _ _ _ _ _ _ _ _ _ _ _ (FR d every far m p) (SR d E band m false 0 p) _
      rw [vc_rise_r0]
      have c4 : decide (Int.ofNat (p.len + 1) ≤ m) = true := decide_eq_true (by show ((p.len + 1 : Nat) : Int) ≤ m; omega)
      have c6 : decide (Int.ofNat (p.len + 1) > m) = false := decide_eq_false (by show ¬ (((p.len + 1 : Nat) : Int) > m); omega)
      have c7 : (Int.ofNat p.len == 0) = true := by rw [hl0]; rfl
      simp only [hnw, hve, hwi, hwS, c1, n0, n1, n2, n6, n7, n8, n9, hall, c3, c4, c6, c7, hev, br_t, br_f, need_t]
      refine br_of (fun _ => ?_) (fun _ => ?_)
      · refine br_of (fun h1 => ?_) (fun h1 => ?_)
        · have h1 : nw < p.due := by simpa using h1
          exact chk (.inl h1) (rise_nextF (hF.copy hm.2 hin hnwb ⟨hdue0, by omega⟩) rfl hi0 (by show p.i + 1 ≤ (d.n : Int); omega))
        · have h1 : ¬ nw < p.due := by simpa using h1
          refine br_of (fun h2 => ?_) (fun h2 => ?_)
          · have h2 : E ≤ 0 := by simpa using h2
            exact chk (.inr ⟨rfl, by omega⟩) (rise_next (hF.app hm.2 hm.1 hin hnwb ⟨by omega, by omega⟩ hv hb.1) rfl hi0 (by show p.i + 1 ≤ (d.n : Int); omega))
          · have h2 : ¬ E ≤ 0 := by simpa using h2
            obtain ⟨D, hD, hD1, hD2⟩ := due_at (now := nw) (due := p.due) (E := E) ⟨hdue0, by omega, by omega⟩ (by omega)
            have nE : (true && !decide (IntKind.wrap .u64 E = 0)) = true := by
              rw [wu64 (by omega) (by omega)]; simp; omega
            simp only [hD, nE, need_t]
            exact chk (.inl hD1) (rise_next (hF.app hm.2 hm.1 hin hnwb ⟨by omega, hD2⟩ hv hb.1) rfl hi0 (by show p.i + 1 ≤ (d.n : Int); omega))
      · exact rise_nextF (hF.copy hm.2 hin hnwb ⟨hdue0, by omega⟩) rfl hi0 (by show p.i + 1 ≤ (d.n : Int); omega)
    | true =>
      have hT : IT d.n E band m p := ha
      have hli := hT.li
      have hmv := moved_eq (a := p.li) (v := v) hli hv hb
      show roundJ _ _ _ _ _ _ _ _ _ _ _ _ (FR d every far m p) (SR d E band m true 2 p) _
      rw [vc_rise_r1]
      simp only [hnw, hve, hwi, hwS, hws, hmv, c1, n0, n1, n2, n6, n7, n8, n9, hall, c3, c5, e1, hev, hfar, br_t, br_f, need_t]
      refine br_of (fun _ => ?_) (fun _ => ?_)
      · refine br_of (fun h1 => ?_) (fun h1 => ?_)
        · have h1 : nw < p.due := by simpa using h1
          exact chk (.inl h1) (rise_next (hT.copy hm.2 hin hnwb ⟨hdue0, by omega⟩) rfl hi0 (by show p.i + 1 ≤ (d.n : Int); omega))
        · have h1 : ¬ nw < p.due := by simpa using h1
          have hD : ∃ D, nw ≤ D ∧ D ≤ nw + E := ⟨nw, by omega, by omega⟩
          refine br_of (fun h2 => ?_) (fun h2 => ?_)
          · have h2 : E ≤ 0 := by simpa using h2
            have hq : ∀ X R R' : Prop, X → br (decide (nw < nw)) R (br (decide (E > 0)) (br (nw == nw) R' X) X) := fun X R R' x => chk (.inr ⟨rfl, by omega⟩) x
            refine br_of (fun h3 => ?_) (fun h3 => ?_)
            · exact hq _ _ _ (rise_next (hT.copy hm.2 hin hnwb ⟨by omega, by omega⟩) rfl hi0 (by show p.i + 1 ≤ (d.n : Int); omega))
            · have h3 : Far band p.li v := by simpa using h3
              refine br_of (fun h4 => ?_) (fun h4 => ?_)
              · have h4 : ((p.len + 1 : Nat) : Int) ≤ m := by simpa using h4
                have c6 : decide (Int.ofNat (p.len + 1) > m) = false := decide_eq_false (by show ¬ (((p.len + 1 : Nat) : Int) > m); omega)
                rw [c6]
                exact hq _ _ _ (rise_next (hT.app hm.2 hin hnwb ⟨by omega, by omega⟩ hv (by omega) h3 hb.1) rfl hi0 (by show p.i + 1 ≤ (d.n : Int); omega))
              · have h4 : ¬ ((p.len + 1 : Nat) : Int) ≤ m := by simpa using h4
                have hlp : 0 < p.len := by omega
                have c7 : ((p.len : Int) == 0) = false := by simp; omega
                have c8 : Nat.blt 0 (p.len + 1 - 1) = true := blt_t (by omega)
                have c9 : Nat.blt 1 (p.len + 1) = true := blt_t (by omega)
                have c10 : decide ((p.len : Int) > m) = false := decide_eq_false (by omega)
                simp only [c7, c8, c9, c10, br_f, need_t]
                exact hq _ _ _ (rise_next (hT.drop hm.2 hin hnwb ⟨by omega, by omega⟩ hv hlp h3) rfl hi0 (by show p.i + 1 ≤ (d.n : Int); omega))
          · have h2 : ¬ E ≤ 0 := by simpa using h2
            obtain ⟨D, hD, hD1, hD2⟩ := due_at (now := nw) (due := p.due) (E := E) ⟨hdue0, by omega, by omega⟩ (by omega)
            have nE : (true && !decide (IntKind.wrap .u64 E = 0)) = true := by
              rw [wu64 (by omega) (by omega)]; simp; omega
            simp only [hD, nE, need_t]
            have hq : ∀ X R R' : Prop, X → br (decide (D < nw)) R (br (decide (E > 0)) (br (D == nw) R' X) X) := fun X R R' x => chk (.inl hD1) x
            refine br_of (fun h3 => ?_) (fun h3 => ?_)
            · exact hq _ _ _ (rise_next (hT.copy hm.2 hin hnwb ⟨by omega, by omega⟩) rfl hi0 (by show p.i + 1 ≤ (d.n : Int); omega))
            · have h3 : Far band p.li v := by simpa using h3
              refine br_of (fun h4 => ?_) (fun h4 => ?_)
              · have h4 : ((p.len + 1 : Nat) : Int) ≤ m := by simpa using h4
                have c6 : decide (Int.ofNat (p.len + 1) > m) = false := decide_eq_false (by show ¬ (((p.len + 1 : Nat) : Int) > m); omega)
                rw [c6]
                exact hq _ _ _ (rise_next (hT.app hm.2 hin hnwb ⟨by omega, by omega⟩ hv (by omega) h3 hb.1) rfl hi0 (by show p.i + 1 ≤ (d.n : Int); omega))
              · have h4 : ¬ ((p.len + 1 : Nat) : Int) ≤ m := by simpa using h4
                have hlp : 0 < p.len := by omega
                have c7 : ((p.len : Int) == 0) = false := by simp; omega
                have c8 : Nat.blt 0 (p.len + 1 - 1) = true := blt_t (by omega)
                have c9 : Nat.blt 1 (p.len + 1) = true := blt_t (by omega)
                have c10 : decide ((p.len : Int) > m) = false := decide_eq_false (by omega)
                simp only [c7, c8, c9, c10, br_f, need_t]
                exact hq _ _ _ (rise_next (hT.drop hm.2 hin hnwb ⟨by omega, by omega⟩ hv hlp h3) rfl hi0 (by show p.i + 1 ≤ (d.n : Int); omega))
      · refine br_of (fun h1 => ?_) (fun h1 => ?_)
        · exact rise_next (hT.copy hm.2 hin hnwb ⟨hdue0, by omega⟩) rfl hi0 (by show p.i + 1 ≤ (d.n : Int); omega)
        · have hlp : 0 < p.len := by
            rcases Nat.eq_zero_or_pos p.len with h | h
            · rw [h] at h1; cases h1
            · exact h
          have m1 : Nat.blt 0 p.len = true := blt_t hlp
          have m2 : Nat.ble 1 p.len = true := Nat.ble_eq_true_of_le hlp
          obtain ⟨a1, a2, a3, a4⟩ := hT.el 0 hlp
          have c11 : decide (p.qs (p.i0 + 0) ≤ p.seq) = false := decide_eq_false (by rw [a1]; omega)
          have c12 : (!(p.qs (p.i0 + 0) != p.seq + 1) == p.ql (p.i0 + 0)) = false := by
            rw [a4, a1]
            by_cases hq : p.S - p.len = p.seq
            · simp [hq]
            · have : ¬ p.S - p.len + 1 = p.seq + 1 := by omega
              simp [hq, this]
          have c13 : (p.qk (p.i0 + 0) != 2) = false := by rw [a2]; rfl
          simp only [m1, m2, c11, c12, c13, Bool.true_and, br_f, need_t]
          have hend : ∀ (c : Nat) (lost : Bool), onP (Nn β (IR d.n E band m) (fun a : AR => (d.n - a.2.i).toNat) (FQ d every far m) (SQ d E band m) (true, p) K) .normal (shpB d every far E band m (tk p nw c lost)) :=
            fun c lost => rise_next (hT.take hm.2 hin hnwb hlp) rfl hi0 (by show p.i + 1 ≤ (d.n : Int); omega)
          refine br_of (fun h2 => ?_) (fun h2 => ?_)
          · refine br_of (fun h3 => ?_) (fun h3 => ?_)
            · have h2 : p.qs (p.i0 + 0) = p.seq + 1 := by simpa using h2
              have h3 : 0 < p.seq := by simpa using h3
              have hf := hT.first hlp (by omega) h3
              have hls := hT.last
              have c14 : decide (IntKind.wrap .i64 ((if p.last > p.qi (p.i0 + 0) then p.last else p.qi (p.i0 + 0)) - if p.last < p.qi (p.i0 + 0) then p.last else p.qi (p.i0 + 0)) ≤ band) = false := by
                apply decide_eq_false
                have e0 : p.qi (p.i0 + 0) = p.qi p.i0 := rfl
                rw [e0] at a3 ⊢
                unfold Far at hf
                rw [w64 (by split <;> split <;> omega) (by split <;> split <;> omega)]
                split <;> split <;> omega
              rw [c14, br_f]
              refine br_of (fun _ => hend _ _) (fun _ => hend _ _)
            · refine br_of (fun _ => hend _ _) (fun _ => hend _ _)
          · refine br_of (fun _ => hend _ _) (fun _ => hend _ _)
  · have c1 : decide (p.i < Int.ofNat d.n) = false := by simpa using hin
    cases b with
    | false =>
      show roundJ _ _ _ _ _ _ _ _ _ _ _ _ (FR d every far m p) (SR d E band m false 0 p) _
      rw [vc_rise_r0]
      simp only [c1, br_f]
      exact Nn.exit (hK false 0 p (by show p.seq ≤ p.S; omega))
    | true =>
      show roundJ _ _ _ _ _ _ _ _ _ _ _ _ (FR d every far m p) (SR d E band m true 2 p) _
      rw [vc_rise_r1]
      simp only [c1, br_f]
      exact Nn.exit (hK true 2 p (by show p.seq ≤ p.S; omega))
end
/-- deeds that come in -/
theorem RowAt.deeds {w : World} {x : Value} {n : Nat} {e : Nat → List Value} (h : RowAt w x n 5 e) (hs : ∀ i, i < n → ShL [.int .u8, .int .u8, .int .i64, .int .i64, .flt .f64] (e i)) :
    RowAt w x n 5 (fun i => [.int .u8 (intC (e i) 0), .int .u8 (intC (e i) 1), .int .i64 (intC (e i) 2), .int .i64 (intC (e i) 3), .float .f64 (fltC (e i) 4)]) ∧ ∀ i, i < n → (Lit.int .u8 (intC (e i) 1)).wf = true := by
  have key : ∀ i, i < n → e i = [.int .u8 (intC (e i) 0), .int .u8 (intC (e i) 1), .int .i64 (intC (e i) 2), .int .i64 (intC (e i) 3), .float .f64 (fltC (e i) 4)] ∧ (Lit.int .u8 (intC (e i) 1)).wf = true := by
    intro i hi
    have := hs i hi
    generalize e i = l at this
    match l, this with
    | [a, b, c, d, f], h =>
      obtain ⟨h1, h2, h3, h4, h5, _⟩ := h
      obtain ⟨x1, rfl, _⟩ := Sh.int_inv h1
      obtain ⟨x2, rfl, w2⟩ := Sh.int_inv h2
      obtain ⟨x3, rfl, _⟩ := Sh.int_inv h3
      obtain ⟨x4, rfl, _⟩ := Sh.int_inv h4
      obtain ⟨x5, rfl, _⟩ := Sh.flt_inv h5
      exact ⟨rfl, w2⟩
  exact ⟨h.congr fun i hi => (key i hi).1, fun i hi => (key i hi).2⟩
theorem rise_law (x : Value) (every far most : Int) (he : 0 ≤ every ∧ every ≤ 255) (hf : 0 ≤ far ∧ far ≤ 255) (hm : 0 ≤ most ∧ most ≤ 255) (w : World) {n : Nat} {e : Nat → List Value} (hx : RowAt w x n 5 e) (hs : ∀ i, i < n → ShL [.int .u8, .int .u8, .int .i64, .int .i64, .flt .f64] (e i)) :
    Calls Try.prog 3 #[.int .u8 every, .int .u8 far, .int .u8 most, x] w fun e w' => e = .returned (.bool true) ∧ Below w.heap.size w w' := by
  obtain ⟨hx, hd⟩ := hx.deeds hs
  obtain ⟨s, s1, ⟨c, hc, s2⟩, s3⟩ := hx.spot
  generalize hdd : (⟨n, c, fun i => intC (e i) 0, fun i => intC (e i) 1, fun i => intC (e i) 2, fun i => intC (e i) 3, fun i => fltC (e i) 4⟩ : Dd) = d
  have hn : d.n = n := by rw [← hdd]
  have hrow : deedRow d = .row false 5 0 n fun i => [.int .u8 (intC (e i) 0), .int .u8 (intC (e i) 1), .int .i64 (intC (e i) 2), .int .i64 (intC (e i) 3), .float .f64 (fltC (e i) 4)] := by rw [← hdd]; rfl
  have hdb : ∀ j, j < d.n → (0 ≤ d.db j ∧ d.db j ≤ 255) := by
    intro j hj
    rw [hn] at hj
    rw [← hdd]
    exact u8_wf (hd j hj)
  have hcc : d.c = c := by rw [← hdd]
  have hM : IntKind.wrap .i64 (1 + IntKind.wrap .i64 (Int.tmod most 8)) = 1 + most % 8 := by
    rw [Int.tmod_eq_emod_of_nonneg hm.1, w64 (x := most % 8) (by omega) (by omega), w64 (by omega) (by omega)]
  have hE : Int.tmod every 30 = every % 30 := Int.tmod_eq_emod_of_nonneg he.1
  have hE2 : IntKind.wrap .i64 (Int.tmod every 30) = every % 30 := by rw [hE]; exact w64 (by omega) (by omega)
  have hF : IntKind.wrap .i64 (Int.tmod far 5) = far % 5 := by
    rw [Int.tmod_eq_emod_of_nonneg hf.1, w64 (by omega) (by omega)]
  generalize hE' : every % 30 = E at hE hE2
  generalize hB' : far % 5 = band at hF
  generalize hM' : 1 + most % 8 = m at hM
  refine law_rows (args := [.int .u8 every, .int .u8 far, .int .u8 most, .slice (some ⟨0, 0, some 0⟩) d.n d.c]) (X := [s]) (objs := [deedRow d]) (fuel := 100) (n := 20) (un := fun _ => 0) (lvs := fun _ => slR) (ex := exR d every far E band m PostR) follows toldB_ok w rfl (fun k t o h1 h2 => ?_) (fun t ht => ?_) ?_ ?_
  · cases k with
    | zero => cases h1; cases h2; rw [hrow]; exact s3 [s]
    | succ k => cases h1
  · simp at ht; subst ht; exact s1
  · rw [hn, hcc]
    exact VRL.cons (.int _ _) (VRL.cons (.int _ _) (VRL.cons (.int _ _) (VRL.cons (s2 _ 0 rfl) (VRL.nil _))))
  · show lawJ _ _ _ _ _ _ (cnOf 1 _) _ _ _ (mkS [some (deedRow d)]) _
    rw [vc_rise, hE2, hF, hM]
    refine br_of (fun _ => trivial) (fun h => ⟨?_, fun has lk p hp => need_of (decide_eq_true hp) trivial⟩)
    have hn40 : d.n ≤ 40 := by simp at h; omega
    refine LoopJ.seen (Seen.void (i := 1) (j := 14) 5 (fun i => [.int .i64 0, .int .i64 0, .int .i64 0, .float .f64 0, .bool false]) rfl rfl) ?_
    refine loop_rule (IR d.n E band m) (FQ d every far m) (SQ d E band m) (fun a => (d.n - a.2.i).toNat) (fun a ha K hK => rise_round rfl hn40 (by omega) hE (by omega) hF (by omega) hdb K hK a ha)
      (false, ⟨0, 0, 0, 0, 1, 0, 0, 0, false, 0, 0, 0, fun _ => 0, fun _ => 0, fun _ => 0, fun _ => 0, fun _ => false⟩) ?_
    refine (⟨⟨Int.le_refl _, by simp, by simp, by simp, ?_, Int.le_refl _, by simp, Int.le_refl _, ?_, Int.le_refl _, by simp, by simp, fun _ => rfl, fun j hj => by simp at hj, fun j hj => by simp at hj, by simp, fun h => by simp at h⟩, rfl, rfl, rfl⟩ : IF d.n E band m ⟨0, 0, 0, 0, 1, 0, 0, 0, false, 0, 0, 0, fun _ => 0, fun _ => 0, fun _ => 0, fun _ => 0, fun _ => false⟩)
    · show ((0 : Nat) : Int) ≤ m; omega
    · show (0 : Int) ≤ 0 + E; omega
end Go.Proofs.Ytlbccgoheiaheaa.Ev
