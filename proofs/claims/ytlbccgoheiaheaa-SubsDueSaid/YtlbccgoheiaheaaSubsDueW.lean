/-
  SubsDue: what has to hold holds.
-/
import Derived.Test.YtlbccgoheiaheaaSubsDueV
import Derived.Test.YtlbccgoheiaheaaInT
set_option linter.unusedVariables false
set_option linter.unusedSimpArgs false
namespace Go.Proofs.Ytlbccgoheiaheaa.Ev
open Go Go.Proofs Go.RowKit

theorem due_now {now x : Int} (h1 : -1000000 ≤ now ∧ now ≤ 1000000) (h2 : 0 ≤ x ∧ x ≤ 255) : IntKind.wrap .i64 (now + IntKind.wrap .i64 (Int.tmod x 50)) = now + x % 50 := by
  rw [Int.tmod_eq_emod_of_nonneg h2.1, w64 (x := x % 50) (by omega) (by omega), w64 (by omega) (by omega)]
theorem due_at {now due E : Int} (h1 : 0 ≤ due ∧ due ≤ now ∧ now ≤ 1000000) (hE : 1 ≤ E ∧ E ≤ 30) :
    IntKind.wrap .i64 (due + IntKind.wrap .i64 (IntKind.wrap .i64 (IntKind.wrap .u64 (IntKind.wrap .u64 (Int.tdiv (IntKind.wrap .u64 (IntKind.wrap .u64 now - IntKind.wrap .u64 due)) (IntKind.wrap .u64 E)) + 1)) * E)) = due + ((now - due) / E + 1) * E := by
  have e1 : IntKind.wrap .u64 now = now := wu64 (by omega) (by omega)
  have e2 : IntKind.wrap .u64 due = due := wu64 (by omega) (by omega)
  have e3 : IntKind.wrap .u64 E = E := wu64 (by omega) (by omega)
  have e4 : IntKind.wrap .u64 (now - due) = now - due := wu64 (by omega) (by omega)
  rw [e1, e2, e3, e4, Int.tdiv_eq_ediv_of_nonneg (by omega)]
  have hq0 : 0 ≤ (now - due) / E := Int.ediv_nonneg (by omega) (by omega)
  have hq1 : (now - due) / E ≤ now - due := Int.ediv_le_self _ (by omega)
  have hq2 : (now - due) / E * E ≤ now - due := Int.ediv_mul_le _ (by omega)
  generalize (now - due) / E = q at hq0 hq1 hq2
  have e5 : IntKind.wrap .u64 q = q := wu64 (by omega) (by omega)
  have e6 : IntKind.wrap .u64 (q + 1) = q + 1 := wu64 (by omega) (by omega)
  have e7 : IntKind.wrap .i64 (q + 1) = q + 1 := w64 (by omega) (by omega)
  rw [e5, e6, e7]
  have hm : (q + 1) * E = q * E + E := by rw [Int.add_mul]; omega
  have hm0 : 0 ≤ q * E := Int.mul_nonneg hq0 (by omega)
  rw [hm]
  rw [w64 (x := q * E + E) (by omega) (by omega), w64 (by omega) (by omega)]
theorem due_next {now due E : Int} (h1 : 0 ≤ due ∧ due ≤ now) (hE : 1 ≤ E) : ∃ j : Nat, due + ((now - due) / E + 1) * E = due + (j + 1) * E ∧ now < due + (j + 1) * E ∧ due + (j + 1) * E ≤ now + E := by
  have hq0 : 0 ≤ (now - due) / E := Int.ediv_nonneg (by omega) (by omega)
  have hq2 : (now - due) / E * E ≤ now - due := Int.ediv_mul_le _ (by omega)
  have hq3 : now - due < ((now - due) / E + 1) * E := by
    have := Int.lt_ediv_add_one_mul_self (now - due) (b := E) (by omega)
    exact this
  refine ⟨((now - due) / E).toNat, ?_, ?_, ?_⟩
  · rw [Int.toNat_of_nonneg hq0]
  · rw [Int.toNat_of_nonneg hq0]; omega
  · rw [Int.toNat_of_nonneg hq0, Int.add_mul]; omega

abbrev AL := Bool × DP
def FX (n c : Nat) (E : Int) (a : AL) : AFr := FD n c E a.2.seq a.2
def SX (n : Nat) (g : Nat → Int) (E : Int) (a : AL) : ASt := SD n g E a.1 (cond a.1 3 0) a.2
def IX (n : Nat) (E : Int) (a : AL) : Prop := a.2.k ≤ n ∧ (a.1 = false → a.2.k = 0 ∧ a.2.m = 0 ∧ a.2.now = 5 ∧ a.2.due = 5 ∧ a.2.due2 = 5 ∧ a.2.seq = 0 ∧ a.2.li = 0) ∧
  (a.1 = true → 0 < a.2.k ∧ a.2.m ≤ a.2.k ∧ a.2.seq = a.2.m ∧ a.2.due2 = a.2.due ∧ 5 ≤ a.2.now ∧ a.2.now ≤ 5 + 50 * a.2.k ∧ a.2.now < a.2.due ∧ a.2.due ≤ a.2.now + E ∧ 0 ≤ a.2.li ∧ a.2.li < a.2.k)
def PostX (n : Nat) (E : Int) (k : Nat) (q : DP) : Prop := q.k = k ∧ IX n E (true, { q with k := k + 1 })
theorem PostX.mk {n : Nat} {E : Int} {k : Nat} {p : DP} (hk : p.k = k) (hkn : k < n) (h1 : p.m ≤ k + 1) (h2 : p.seq = p.m) (h3 : 5 ≤ p.now) (h4 : p.now ≤ 5 + 50 * (k + 1)) (h5 : p.now < p.due) (h6 : p.due ≤ p.now + E) (h7 : 0 ≤ p.li) (h8 : p.li < k + 1) : PostX n E k { p with due2 := p.due } :=
  ⟨hk, by dsimp only; omega, (fun h => by cases h), fun _ => ⟨by dsimp only; omega, h1, h2, rfl, h3, by dsimp only; omega, h5, h6, h7, by dsimp only; omega⟩⟩
theorem inner_ok {n c : Nat} {g : Nat → Int} {E : Int} {β : Bs} (hE : β.X.length = 1) (hE1 : 1 ≤ E ∧ E ≤ 30) (Post : DP → Prop) (p : DP) (j : Nat) (h0 : 0 ≤ p.due2 ∧ p.now ≤ 1000000) (hj : p.due = p.due2 + j * E) (h1 : p.now < p.due ∧ p.due ≤ p.now + E) (hp : Post { p with due2 := p.due }) :
    LoopJ Try.prog β (exIn n c g E Post) 2 (loopOf Try.prog 4 2) (FD n c E p.seq p) (SD n g E true 3 p) := by
  have key : ∀ d : Int, (∃ j : Nat, p.due = d + j * E ∧ 0 ≤ d) → LoopJ Try.prog β (exIn n c g E Post) 2 (loopOf Try.prog 4 2) (FD n c E p.seq { p with due2 := d }) (SD n g E true 3 { p with due2 := d }) := by
    refine loop_rule (fun d : Int => ∃ j : Nat, p.due = d + j * E ∧ 0 ≤ d) (fun d => FD n c E p.seq { p with due2 := d }) (fun d => SD n g E true 3 { p with due2 := d }) (fun d => (p.due - d).toNat) ?_
    intro d ⟨j, hj, hd0⟩ K hK
    refine roundJ_ok (E := 1) (lvs := fun _ => [1, 5, 6, 7, 8, 9, 10]) (un := fun _ => 0) (fuel := 100) (n := 20) (ex := fun _ _ => False) follows toldB_ok hE (lv := fun _ => [1, 5, 6, 7, 8, 9, 10]) ?_
    rw [vc_due_in]
    have hjE : 0 ≤ (j : Int) * E := Int.mul_nonneg (by omega) (by omega)
    refine br_of (fun h => ?_) (fun h => ?_)
    · have h : d ≤ p.now := by simpa using h
      have hj1 : j ≠ 0 := by intro e; subst e; simp at hj; omega
      obtain ⟨i, rfl⟩ := Nat.exists_eq_succ_of_ne_zero hj1
      have hs : ((i.succ : Nat) : Int) * E = (i : Int) * E + E := by rw [Int.natCast_succ, Int.add_mul]; omega
      have hi0 : 0 ≤ (i : Int) * E := Int.mul_nonneg (by omega) (by omega)
      have hw : IntKind.wrap .i64 (d + E) = d + E := w64 (by omega) (by omega)
      rw [hw]
      exact .inl ⟨rfl, d + E, ⟨i, by omega, by omega⟩, by omega, Seen.refl _ _ _⟩
    · have h : ¬ d ≤ p.now := by simpa using h
      have hj0 : j = 0 := by
        rcases Nat.eq_zero_or_pos j with e | e
        · exact e
        · exfalso
          have : 1 * E ≤ (j : Int) * E := Int.mul_le_mul_of_nonneg_right (by omega) (by omega)
          omega
      subst hj0
      have hd : d = p.due := by simp at hj; omega
      subst hd
      exact .inr ⟨by simp, by simp, _, _, Seen.refl _ _ _, hK { p with due2 := p.due } hp⟩
  exact key p.due2 ⟨j, hj, h0.1⟩
theorem due_round {n c : Nat} {g : Nat → Int} {E : Int} {β : Bs} (hn : n ≤ 40) (hg : ∀ i, i < n → 0 ≤ g i ∧ g i ≤ 255) (hβ : β.X.length = 1) (hE1 : 1 ≤ E ∧ E ≤ 30) (K : Kt) (hK : K (.exit 0) (mkF 70 []) (mkS [some (gapRow n g)])) (a : AL) (ha : IX n E a) :
    J Try.prog β (loopOf Try.prog 4 0) (FX n c E a) (SX n g E a) (Nn β (IX n E) (fun a => n - a.2.k) (FX n c E) (SX n g E) a K) := by
  obtain ⟨b, k, m, now, seq, due, due2, li, qs, qk, qi, qf, ql⟩ := a
  obtain ⟨hk, hb0, hb1⟩ := ha
  simp only at hk hb0 hb1
  refine roundJ_ok (E := 1) (lvs := fun _ => [1, 5, 6, 7, 8, 9, 10]) (un := fun _ => 0) (fuel := 100) (n := 20) (ex := exIn n c g E (PostX n E k)) follows toldB_ok hβ (lv := lvOf [1, 5, 6, 7, 8, 9, 10]) ?_
  have hidx : (0 : Nat) + Int.toNat (Int.ofNat k) = k := by simp
  have hw1 : IntKind.wrap .i64 (Int.ofNat k + 1) = Int.ofNat (k + 1) := w64 (by simp; omega) (by simp; omega)
  by_cases hkn : k < n
  · have hgk := hg k hkn
    have hlt : decide (Int.ofNat k < Int.ofNat n) = true := by simp; omega
    have hn1 : Nat.blt (Int.toNat (Int.ofNat k)) n = true := by simpa using hkn
    have hn2 : (Nat.ble 0 k && Nat.blt k n) = true := by simpa using hkn
    have hm1 : (true && Nat.ble (0 + m) m) = true := by simp
    have hall : ∀ q : DP, (allS m fun j => (fun i => [Value.int .i64 (q.qs i), .int .i64 (q.qk i), .int .i64 (q.qi i), .float .f64 (q.qf i), .bool (q.ql i)]) (0 + j)) = true := fun q => allS_of fun j => rfl
    cases b with
    | false =>
      obtain ⟨rfl, rfl, rfl, rfl, rfl, rfl, rfl⟩ := hb0 rfl
      show roundJ _ _ _ _ _ _ _ _ _ _ _ _ (FD n c E (DP.seq ⟨0, 0, 5, 0, 5, 5, 0, qs, qk, qi, qf, ql⟩) ⟨0, 0, 5, 0, 5, 5, 0, qs, qk, qi, qf, ql⟩) (SD n g E false 0 ⟨0, 0, 5, 0, 5, 5, 0, qs, qk, qi, qf, ql⟩) _
      rw [vc_due_r0]
      dsimp only
      have hnow := due_now (now := 5) (x := g 0) (by omega) hgk
      have hle : decide (5 + g 0 % 50 < 5) = false := by simp; omega
      rw [hidx, hnow]
      have hEn : decide (E ≤ 0) = false := by simp; omega
      have hEz : (true && !decide (IntKind.wrap .u64 E = 0)) = true := by rw [wu64 (x := E) (by omega) (by omega)]; simp; omega
      have hge : decide (5 + g 0 % 50 ≥ 5) = true := by simp; omega
      have h01 : decide (Int.ofNat (0 + 1) ≤ 99) = true := rfl
      have hb0 : Nat.ble 0 1000000 = true := rfl
      have hb1 : Nat.ble (0 + 1) 1000000 = true := rfl
      have hz : IntKind.wrap .i64 (0 + 1) = 1 := rfl
      have hall' := hall ⟨0, 0, 5, 0, 5, 5, 0, qs, qk, qi, qf, ql⟩
      have hD := due_at (now := 5 + g 0 % 50) (due := 5) (E := E) (by omega) hE1
      obtain ⟨j, hj1, hj2, hj3⟩ := due_next (now := 5 + g 0 % 50) (due := 5) (E := E) (by omega) (by omega)
      rw [hj1] at hD
      simp only [hlt, hn1, hn2, hm1, br_t, need_t, br_f, hle, hEn, hEz, hge, h01, hb0, hb1, hz, hall']
      rw [hD]
      have hjj : (5 : Int) + (j + 1) * E = 5 + ((j + 1 : Nat) : Int) * E := by rw [Int.natCast_succ]
      refine ⟨inner_ok hβ hE1 (PostX n E 0) ⟨0, 0 + 1, 5 + g 0 % 50, 1, 5 + (j + 1) * E, 5, Int.ofNat 0, _, _, _, _, _⟩ (j + 1) (by dsimp only; omega) hjj ⟨hj2, hj3⟩ (PostX.mk rfl hkn (by simp) rfl (by dsimp only; omega) (by dsimp only; omega) hj2 hj3 (by simp) (by simp)), ?_⟩
      intro q hq
      obtain ⟨qk', qm, qnow, qseq, qdue, qdue2, qli, q1, q2, q3, q4, q5⟩ := q
      obtain ⟨hqk, hq⟩ := hq
      dsimp only at hqk hq ⊢
      subst hqk
      obtain ⟨_, _, e1, e2, _⟩ := hq.2.2 rfl
      dsimp only at e1 e2
      subst e1 e2
      have z1 : ((qm : Int) != (qm : Int)) = false := by simp
      have z2 : (qdue2 != qdue2) = false := by simp
      have z3 : (Int.ofNat qm != (qm : Int)) = false := by simp
      simp only [z1, z2, z3, br_f]
      rw [hw1]
      exact Nn.next (α := AL) (true, ⟨_, qm, qnow, _, _, _, qli, q1, q2, q3, q4, q5⟩) hq (by dsimp only; omega)
    | true =>
      obtain ⟨h1, h2, rfl, rfl, h3, h4, h5, h6, h7, h8⟩ := hb1 rfl
      show roundJ _ _ _ _ _ _ _ _ _ _ _ _ (FD n c E (DP.seq ⟨k, m, now, m, due2, due2, li, qs, qk, qi, qf, ql⟩) ⟨k, m, now, m, due2, due2, li, qs, qk, qi, qf, ql⟩) (SD n g E true 3 ⟨k, m, now, m, due2, due2, li, qs, qk, qi, qf, ql⟩) _
      rw [vc_due_r1]
      dsimp only
      have hnow := due_now (now := now) (x := g k) (by omega) hgk
      rw [hidx, hnow]
      have hmm : Nat.ble m 1000000 = true := by simp; omega
      have hall' := hall ⟨k, m, now, m, due2, due2, li, qs, qk, qi, qf, ql⟩
      simp only [hlt, hn1, hn2, hm1, hmm, hall', br_t, need_t]
      refine br_of (fun h => ?_) (fun h => ?_)
      · have hge : decide (now + g k % 50 ≥ due2) = false := by simp at h ⊢; omega
        have e1 : ((m : Int) != (m : Int)) = false := by simp
        have e2 : (due2 != due2) = false := by simp
        have e3 : (Int.ofNat m != (m : Int)) = false := by simp
        simp only [hge, e1, e2, e3, br_f]
        rw [hw1]
        exact Nn.next (α := AL) (true, ⟨k + 1, m, now + g k % 50, _, _, _, li, _, _, _, _, _⟩) ⟨hkn, (fun h => by cases h), fun _ => ⟨by simp, by dsimp only; omega, rfl, rfl, by dsimp only; omega, by dsimp only; omega, by simpa using h, by dsimp only; omega, h7, by dsimp only; omega⟩⟩ (by dsimp only; omega)
      · have h : ¬ now + g k % 50 < due2 := by simpa using h
        have hEn : decide (E ≤ 0) = false := by simp; omega
        have hEz : (true && !decide (IntKind.wrap .u64 E = 0)) = true := by rw [wu64 (x := E) (by omega) (by omega)]; simp; omega
        have hge : decide (now + g k % 50 ≥ due2) = true := by simp; omega
        have h99 : decide (Int.ofNat (m + 1) ≤ 99) = true := by simp; omega
        have hb1 : Nat.ble (m + 1) 1000000 = true := Nat.ble_eq_true_of_le (by omega)
        have hw2 : IntKind.wrap .i64 ((m : Int) + 1) = ((m + 1 : Nat) : Int) := w64 (by omega) (by omega)
        have hgt : (if li > Int.ofNat k then li else Int.ofNat k) = Int.ofNat k := if_neg (by simp; omega)
        have hlt2 : (if li < Int.ofNat k then li else Int.ofNat k) = li := if_pos (by simp; omega)
        have hfar : (!decide (IntKind.wrap .u64 (IntKind.wrap .u64 (Int.ofNat k) - IntKind.wrap .u64 li) > 0)) = false := by
          rw [wu64 (x := Int.ofNat k) (by simp) (by simp; omega), wu64 (x := li) (by omega) (by omega), wu64 (by simp; omega) (by simp; omega)]
          simp; omega
        have hD := due_at (now := now + g k % 50) (due := due2) (E := E) (by omega) hE1
        obtain ⟨j, hj1, hj2, hj3⟩ := due_next (now := now + g k % 50) (due := due2) (E := E) (by omega) (by omega)
        rw [hj1] at hD
        rw [hgt, hlt2]
        simp only [hEn, hEz, hge, h99, hb1, hm1, hfar, br_f, br_t, need_t]
        rw [hD, hw2]
        have hjj : due2 + (j + 1) * E = due2 + ((j + 1 : Nat) : Int) * E := by rw [Int.natCast_succ]
        refine ⟨inner_ok hβ hE1 (PostX n E k) ⟨k, m + 1, now + g k % 50, ((m + 1 : Nat) : Int), due2 + (j + 1) * E, due2, Int.ofNat k, _, _, _, _, _⟩ (j + 1) (by dsimp only; omega) hjj ⟨hj2, hj3⟩ (PostX.mk rfl hkn (by dsimp only; omega) rfl (by dsimp only; omega) (by dsimp only; omega) hj2 hj3 (by simp) (by simp; omega)), ?_⟩
        intro q hq
        obtain ⟨qk', qm, qnow, qseq, qdue, qdue2, qli, q1, q2, q3, q4, q5⟩ := q
        obtain ⟨hqk, hq⟩ := hq
        dsimp only at hqk hq ⊢
        subst hqk
        obtain ⟨_, _, e1, e2, _⟩ := hq.2.2 rfl
        dsimp only at e1 e2
        subst e1 e2
        have z1 : ((qm : Int) != (qm : Int)) = false := by simp
        have z2 : (qdue2 != qdue2) = false := by simp
        have z3 : (Int.ofNat qm != (qm : Int)) = false := by simp
        simp only [z1, z2, z3, br_f]
        rw [hw1]
        exact Nn.next (α := AL) (true, ⟨_, qm, qnow, _, _, _, qli, q1, q2, q3, q4, q5⟩) hq (by dsimp only; omega)
  · have hkn' : k = n := by omega
    have hlt : decide (Int.ofNat k < Int.ofNat n) = false := by simp; omega
    cases b with
    | false =>
      show roundJ _ _ _ _ _ _ _ _ _ _ _ _ (FD n c E (DP.seq ⟨k, m, now, seq, due, due2, li, qs, qk, qi, qf, ql⟩) ⟨k, m, now, seq, due, due2, li, qs, qk, qi, qf, ql⟩) (SD n g E false 0 ⟨k, m, now, seq, due, due2, li, qs, qk, qi, qf, ql⟩) _
      rw [vc_due_r0]
      dsimp only
      simp only [hlt, br_f]
      exact Nn.exit hK
    | true =>
      show roundJ _ _ _ _ _ _ _ _ _ _ _ _ (FD n c E (DP.seq ⟨k, m, now, seq, due, due2, li, qs, qk, qi, qf, ql⟩) ⟨k, m, now, seq, due, due2, li, qs, qk, qi, qf, ql⟩) (SD n g E true 3 ⟨k, m, now, seq, due, due2, li, qs, qk, qi, qf, ql⟩) _
      rw [vc_due_r1]
      dsimp only
      simp only [hlt, br_f]
      exact Nn.exit hK
theorem due_law (x : Value) (every : Int) (he : 0 ≤ every ∧ every ≤ 255) (w : World) {n : Nat} {g : Nat → Int} (hx : RowAt w x n 1 fun i => [.int .u8 (g i)]) (hg : ∀ i, i < n → 0 ≤ g i ∧ g i ≤ 255) :
    Calls Try.prog 4 #[.int .u8 every, x] w fun e w' => e = .returned (.bool true) ∧ Below w.heap.size w w' := by
  obtain ⟨s, s1, ⟨c, hc, s2⟩, s3⟩ := hx.spot
  refine law_rows (args := [.int .u8 every, .slice (some ⟨0, 0, some 0⟩) n c]) (X := [s]) (objs := [gapRow n g]) (fuel := 100) (n := 20) (un := fun _ => 0) (lvs := fun _ => [1, 5, 6, 7, 8, 9, 10]) (ex := exEnd 70 [some (gapRow n g)]) follows toldB_ok w rfl (fun k t o h1 h2 => ?_) (fun t ht => ?_) ?_ ?_
  · cases k with
    | zero => cases h1; cases h2; exact s3 [s]
    | succ k => cases h1
  · simp at ht; subst ht; exact s1
  · exact VRL.cons (.int _ _) (VRL.cons (s2 _ 0 rfl) (VRL.nil _))
  · show lawJ _ _ _ _ _ _ (cnOf 1 _) _ _ _ (mkS [some (gapRow n g)]) _
    rw [vc_due]
    refine br_of (fun _ => trivial) (fun h => ⟨?_, trivial⟩)
    have hn : n ≤ 40 := by simp at h; omega
    have hE : IntKind.wrap .i64 (IntKind.wrap .u8 (1 + Int.tmod every 30)) = 1 + every % 30 := by
      rw [Int.tmod_eq_emod_of_nonneg he.1]
      have : IntKind.wrap .u8 (1 + every % 30) = 1 + every % 30 := by
        unfold IntKind.wrap
        simp [IntKind.signed, IntKind.bits]
        omega
      rw [this]
      exact w64 (by omega) (by omega)
    rw [hE]
    refine LoopJ.seen (Seen.void (i := 1) (j := 14) 5 (fun i => [.int .i64 0, .int .i64 0, .int .i64 0, .float .f64 0, .bool false]) rfl rfl) ?_
    exact loop_rule (IX n (1 + every % 30)) (FX n c (1 + every % 30)) (SX n g (1 + every % 30)) (fun a => n - a.2.k) (fun a ha K hK => due_round hn hg rfl (by omega) K hK a ha)
      (false, ⟨0, 0, 5, 0, 5, 5, 0, fun _ => 0, fun _ => 0, fun _ => 0, fun _ => 0, fun _ => false⟩) ⟨Nat.zero_le _, fun _ => ⟨rfl, rfl, rfl, rfl, rfl, rfl, rfl⟩, fun h => by cases h⟩
end Go.Proofs.Ytlbccgoheiaheaa.Ev
