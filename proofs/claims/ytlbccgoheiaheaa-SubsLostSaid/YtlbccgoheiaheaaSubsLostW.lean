/-
  SubsLost: what has to hold holds.
-/
import Derived.Test.YtlbccgoheiaheaaSubsLostV
import Derived.Test.YtlbccgoheiaheaaInT
set_option linter.unusedVariables false
set_option linter.unusedSimpArgs false
namespace Go.Proofs.Ytlbccgoheiaheaa.Ev
open Go Go.Proofs Go.RowKit

abbrev AQ := Bool × QP
def SQ (m : Int) (a : AQ) : ASt := SL m a.1 (cond a.1 3 0) a.2
/-- what stands in the queue behind i looks -/
def Els (i m : Int) (p : QP) : Prop := ∀ j : Nat, j < p.len → p.qs (p.i0 + j) = i - p.len + j + 1 ∧ p.qi (p.i0 + j) = i - p.len + j ∧ p.ql (p.i0 + j) = (decide (j = 0) && decide (i > m))
def IQ (m k : Int) (a : AQ) : Prop := (a.1 = false → a.2.i = 0 ∧ a.2.len = 0 ∧ a.2.seq = 0 ∧ a.2.due = 0 ∧ a.2.nn = 0 ∧ a.2.i0 = 0) ∧
  (a.1 = true → 0 < a.2.i ∧ (a.2.i : Int) ≤ k ∧ ((a.2.len : Int) ≤ m ∧ ((a.2.len : Int) = a.2.i ∨ ((a.2.len : Int) = m ∧ m ≤ a.2.i)) ∧ a.2.len ≤ a.2.i) ∧ a.2.i0 + a.2.len ≤ a.2.nn ∧ a.2.nn ≤ 100 ∧ a.2.seq = a.2.i ∧ a.2.due = a.2.i - 1 ∧ a.2.li = a.2.i - 1 ∧ Els a.2.i m a.2)
def Post1 (m k : Int) (has : Bool) (lk : Int) (p : QP) : Prop := (p.len : Int) = (if m < k then m else k) ∧ p.seq = k ∧ p.i0 + p.len ≤ p.nn ∧ p.nn ≤ 100 ∧ Els k m p
def I2 (m k : Int) (p : QP) : Prop := (p.len : Int) + p.i = (if m < k then m else k) ∧ p.i0 + p.len ≤ p.nn ∧ p.nn ≤ 100 ∧ ∀ j : Nat, j < p.len → p.qs (p.i0 + j) = k - p.len + j + 1 ∧ p.qi (p.i0 + j) = k - p.len + j ∧ p.ql (p.i0 + j) = (decide (p.i + j = 0) && decide (k > m))
def Post2 (has : Bool) (lk : Int) (p : QP) : Prop := p.len = 0 ∧ p.i0 ≤ p.nn
theorem row5 (m : Nat) (f1 f2 f3 : Nat → Int) (f4 : Nat → Nat) (f5 : Nat → Bool) (i0 : Nat) : (allS m fun j => (fun i => [Value.int .i64 (f1 i), .int .i64 (f2 i), .int .i64 (f3 i), .float .f64 (f4 i), .bool (f5 i)]) (i0 + j)) = true := allS_of fun j => rfl

theorem lost_round1 {m k : Int} {β : Bs} (hβ : β.X.length = 0) (hm : 1 ≤ m ∧ m ≤ 8) (hk : 0 ≤ k ∧ k ≤ 29) (K : Kt) (hK : ∀ has lk p, Post1 m k has lk p → K (.exit 0) (FL1 m k p) (SL m has lk p)) (a : AQ) (ha : IQ m k a) :
    J Try.prog β (loopOf Try.prog 6 0) (FL1 m k a.2) (SQ m a) (Nn β (IQ m k) (fun a => (k - a.2.i).toNat) (fun a => FL1 m k a.2) (SQ m) a K) := by
  obtain ⟨b, i, i0, nn, len, c, due, li, seq, qs, qk, qi, qf, ql⟩ := a
  obtain ⟨hb0, hb1⟩ := ha
  dsimp only at hb0 hb1
  refine roundJ_ok (E := 0) (lvs := lvL) (un := fun _ => 0) (fuel := 100) (n := 20) (ex := fun _ _ => False) follows toldB_ok hβ (lv := fun _ => [5, 6, 7, 8]) ?_
  have hall := row5 len qs qk qi qf ql i0
  cases b with
  | false =>
    obtain ⟨rfl, rfl, rfl, rfl, rfl, rfl⟩ := hb0 rfl
    show roundJ _ _ _ _ _ _ _ _ _ _ _ _ (FL1 m k ⟨0, 0, 0, 0, c, 0, li, 0, qs, qk, qi, qf, ql⟩) (SL m false 0 ⟨0, 0, 0, 0, c, 0, li, 0, qs, qk, qi, qf, ql⟩) _
    rw [vc_lost_r0]
    dsimp only
    by_cases hik : 0 < k
    · have c1 : decide (Int.ofNat 0 < k) = true := by simpa using hik
      have c2 : decide (Int.ofNat 0 < (0 : Int)) = false := rfl
      have c3 : decide (Int.ofNat (0 + 1) ≤ m) = true := by simp; omega
      have c4 : (Nat.ble 0 0 && Nat.ble (0 + 0) 0) = true := rfl
      have c5 : Nat.ble 0 1000000 = true := rfl
      have c6 : Nat.ble (0 + 1) 1000000 = true := rfl
      have c7 : (true && Nat.ble (0 + 0) 0) = true := rfl
      simp only [c1, c2, c3, c4, c5, c6, c7, hall, br_t, br_f, need_t]
      refine Nn.next (α := AQ) (true, ⟨1, 0, 0 + 1, 0 + 1, c, Int.ofNat 0, Int.ofNat 0, 1, _, _, _, _, _⟩) ⟨(fun h => by cases h), fun _ => ⟨by simp, by dsimp only; omega, ⟨by dsimp only; omega, .inl (by dsimp only), by simp⟩, by simp, by simp, rfl, rfl, rfl, ?_⟩⟩ (by dsimp only; omega)
      intro j hj
      dsimp only at hj ⊢
      have : j = 0 := by omega
      subst this
      refine ⟨rfl, rfl, ?_⟩
      simp; omega
    · have c1 : decide (Int.ofNat 0 < k) = false := by simpa using hik
      simp only [c1, br_f]
      refine Nn.exit (hK false 0 ⟨0, 0, 0, 0, c, 0, li, 0, qs, qk, qi, qf, ql⟩ ⟨?_, by dsimp only; omega, Nat.le_refl _, by simp, fun j hj => by dsimp only at hj; omega⟩)
      dsimp only
      rw [if_neg (by omega)]; omega
  | true =>
    obtain ⟨h1, h2, ⟨h3, h4, h5⟩, h6, h7, rfl, rfl, rfl, hE⟩ := hb1 rfl
    show roundJ _ _ _ _ _ _ _ _ _ _ _ _ (FL1 m k ⟨i, i0, nn, len, c, i - 1, i - 1, i, qs, qk, qi, qf, ql⟩) (SL m true 3 ⟨i, i0, nn, len, c, i - 1, i - 1, i, qs, qk, qi, qf, ql⟩) _
    rw [vc_lost_r1]
    dsimp only
    by_cases hik : (i : Int) < k
    · have c1 : decide (Int.ofNat i < k) = true := by simpa using hik
      have c2 : decide (Int.ofNat i < (i : Int) - 1) = false := decide_eq_false (by show ¬ ((i : Int) < (i : Int) - 1); omega)
      have c4 : (Nat.ble 0 i0 && Nat.ble (i0 + len) nn) = true := by simpa using h6
      have c5 : Nat.ble len 1000000 = true := Nat.ble_eq_true_of_le (by omega)
      have c6 : Nat.ble (len + 1) 1000000 = true := Nat.ble_eq_true_of_le (by omega)
      have c7 : (true && Nat.ble (0 + len) len) = true := by simp
      have hgt : (if (i : Int) - 1 > Int.ofNat i then (i : Int) - 1 else Int.ofNat i) = Int.ofNat i := if_neg (by show ¬ ((i : Int) - 1 > (i : Int)); omega)
      have hlt2 : (if (i : Int) - 1 < Int.ofNat i then (i : Int) - 1 else Int.ofNat i) = (i : Int) - 1 := if_pos (by show ((i : Int) - 1 < (i : Int)); omega)
      have hfar : (!decide (IntKind.wrap .u64 (IntKind.wrap .u64 (Int.ofNat i) - IntKind.wrap .u64 ((i : Int) - 1)) > 0)) = false := by
        rw [wu64 (x := Int.ofNat i) (by simp) (by simp; omega), wu64 (x := (i : Int) - 1) (by omega) (by omega), wu64 (by simp; omega) (by simp; omega)]
        simp; omega
      have hw1 : IntKind.wrap .i64 ((i : Int) + 1) = ((i + 1 : Nat) : Int) := w64 (by omega) (by omega)
      have hw2 : IntKind.wrap .i64 (Int.ofNat i + 1) = Int.ofNat (i + 1) := w64 (by simp; omega) (by simp; omega)
      have hb8 : Nat.blt 0 (len + 1 - 1) = true ∨ len = 0 := by
        rcases Nat.eq_zero_or_pos len with e | e
        · exact .inr e
        · left; simpa using e
      have hlpos : 0 < len := by omega
      have c8 : Nat.blt 0 (len + 1 - 1) = true := by simpa using hlpos
      have c9 : Nat.blt 1 (len + 1) = true := by simpa using hlpos
      have c10 : (Int.ofNat (len + 1 - 1) == 0) = false := by simp; omega
      rw [hgt, hlt2]
      simp only [c1, c2, c4, c5, c6, c7, hall, br_t, br_f, need_t, hfar]
      rw [hw1, hw2]
      by_cases hlm : (len : Int) + 1 ≤ m
      · have c3 : decide (Int.ofNat (len + 1) ≤ m) = true := by simpa using hlm
        simp only [c3, br_t]
        have hli : (len : Int) = i := by omega
        refine Nn.next (α := AQ) (true, ⟨i + 1, 0, len + 1, len + 1, c, Int.ofNat i, Int.ofNat i, ((i + 1 : Nat) : Int), _, _, _, _, _⟩) ⟨(fun h => by cases h), fun _ => ⟨by simp, by dsimp only; omega, ⟨by dsimp only; omega, .inl (by dsimp only; omega), by dsimp only; omega⟩, by simp, by dsimp only; omega, rfl, by simp, by simp, ?_⟩⟩ (by dsimp only; omega)
        intro j hj
        dsimp only at hj ⊢
        simp only [Nat.zero_add]
        by_cases hjl : j < len
        · have hbl : Nat.blt j len = true := by simpa using hjl
          obtain ⟨e1, e2, e3⟩ := hE j hjl
          dsimp only at e1 e2 e3
          simp only [hbl, cond_true]
          refine ⟨by rw [e1]; omega, by rw [e2]; omega, ?_⟩
          rw [e3]
          have d1 : decide ((i : Int) > m) = false := by simp; omega
          have d2 : decide (((i + 1 : Nat) : Int) > m) = false := by simp; omega
          rw [d1, d2]
        · have hbl : Nat.blt j len = false := by
            cases hq : Nat.blt j len with
            | true => exact absurd (by simpa using hq) hjl
            | false => rfl
          have hjj : j = len := by omega
          subst hjj
          simp only [hbl, cond_false]
          refine ⟨by omega, by simp; omega, ?_⟩
          have d2 : decide (((i + 1 : Nat) : Int) > m) = false := by simp; omega
          rw [d2, Bool.and_false]
      · have c3 : decide (Int.ofNat (len + 1) ≤ m) = false := by simpa using hlm
        simp only [c3, br_f, c8, c9, c10, need_t]
        have hml : (len : Int) = m := by omega
        refine Nn.next (α := AQ) (true, ⟨i + 1, 1, len + 1, len + 1 - 1, 0, Int.ofNat i, Int.ofNat i, ((i + 1 : Nat) : Int), _, _, _, _, _⟩) ⟨(fun h => by cases h), fun _ => ⟨by simp, by dsimp only; omega, ⟨by dsimp only; omega, .inr ⟨by dsimp only; omega, by dsimp only; omega⟩, by dsimp only; omega⟩, by dsimp only; omega, by dsimp only; omega, rfl, by simp, by simp, ?_⟩⟩ (by dsimp only; omega)
        intro j hj
        dsimp only at hj ⊢
        have hcast : ((len + 1 - 1 : Nat) : Int) = len := by omega
        rw [hcast]
        have d2 : decide (((i + 1 : Nat) : Int) > m) = true := by simp; omega
        rw [d2, Bool.and_true]
        by_cases hj0 : j = 0
        · subst hj0
          have hb1 : Nat.beq (1 + 0) 1 = true := rfl
          simp only [hb1, cond_true]
          by_cases hl1 : 1 < len
          · have hbl : Nat.blt 1 len = true := by simpa using hl1
            obtain ⟨e1, e2, e3⟩ := hE 1 hl1
            dsimp only at e1 e2 e3
            simp only [hbl, cond_true]
            exact ⟨by rw [e1]; omega, by rw [e2]; omega, rfl⟩
          · have hbl : Nat.blt 1 len = false := by
              cases hq : Nat.blt 1 len with
              | true => exact absurd (by simpa using hq) hl1
              | false => rfl
            simp only [hbl, cond_false]
            exact ⟨by omega, by simp; omega, rfl⟩
        · have hb1 : Nat.beq (1 + j) 1 = false := by
            cases hq : Nat.beq (1 + j) 1 with
            | true => have := Nat.eq_of_beq_eq_true hq; omega
            | false => rfl
          have hdj : decide (j = 0) = false := by simpa using hj0
          simp only [hb1, cond_false, Nat.zero_add, hdj]
          by_cases hl1 : 1 + j < len
          · have hbl : Nat.blt (1 + j) len = true := by simpa using hl1
            obtain ⟨e1, e2, e3⟩ := hE (1 + j) hl1
            dsimp only at e1 e2 e3
            simp only [hbl, cond_true]
            refine ⟨by rw [e1]; omega, by rw [e2]; omega, ?_⟩
            rw [e3]
            have : decide (1 + j = 0) = false := by simp
            rw [this]; rfl
          · have hbl : Nat.blt (1 + j) len = false := by
              cases hq : Nat.blt (1 + j) len with
              | true => exact absurd (by simpa using hq) hl1
              | false => rfl
            simp only [hbl, cond_false]
            exact ⟨by omega, by simp; omega, by simp⟩
    · have hik' : (i : Int) = k := by omega
      have c1 : decide (Int.ofNat i < k) = false := by simpa using hik
      simp only [c1, br_f]
      refine Nn.exit (hK true 3 ⟨i, i0, nn, len, c, i - 1, i - 1, i, qs, qk, qi, qf, ql⟩ ⟨?_, hik', h6, h7, by rw [← hik']; exact hE⟩)
      dsimp only
      split <;> omega
theorem lost_round2 {m k : Int} {has : Bool} {lk : Int} {β : Bs} (hβ : β.X.length = 0) (hm : 1 ≤ m ∧ m ≤ 8) (hk : 0 ≤ k ∧ k ≤ 29) (K : Kt) (hK : ∀ has lk p, Post2 has lk p → K (.exit 2) (FL2 m k p) (SL m has lk p)) (p : QP) (hp : I2 m k p) :
    J Try.prog β (loopOf Try.prog 6 2) (FL2 m k p) (SL m has lk p) (Nn β (I2 m k) (fun p => p.len) (FL2 m k) (SL m has lk) p K) := by
  obtain ⟨i, i0, nn, len, c, due, li, seq, qs, qk, qi, qf, ql⟩ := p
  obtain ⟨h1, h2, h3, hE⟩ := hp
  dsimp only at h1 h2 h3 hE
  refine roundJ_ok (E := 0) (lvs := lvL) (un := fun _ => 0) (fuel := 100) (n := 20) (ex := fun _ _ => False) follows toldB_ok hβ (lv := fun _ => [5, 6, 7, 9]) ?_
  rw [vc_lost_2]
  dsimp only
  have hall := row5 len qs qk qi qf ql i0
  generalize hL : (if m < k then m else k) = L at h1
  have hLk : L ≤ k ∧ L ≤ m ∧ 0 ≤ L := by rw [← hL]; split <;> omega
  by_cases hil : (i : Int) < L
  · have c1 : decide (Int.ofNat i < L) = true := by simpa using hil
    have c4 : (Nat.ble 0 i0 && Nat.ble (i0 + len) nn) = true := by simpa using h2
    have c5 : Nat.ble len 1000000 = true := Nat.ble_eq_true_of_le (by omega)
    have hlpos : 0 < len := by omega
    have c6 : (Int.ofNat len == 0) = false := by simp; omega
    have c7 : Nat.blt 0 len = true := by simpa using hlpos
    have c8 : (true && Nat.blt 0 len) = true := by simpa using hlpos
    have c9 : Nat.ble 1 len = true := Nat.ble_eq_true_of_le hlpos
    have hw1 : IntKind.wrap .i64 (k - L) = k - L := w64 (by omega) (by omega)
    have hw2 : IntKind.wrap .i64 (k - L + Int.ofNat i) = k - L + i := w64 (by simp; omega) (by simp; omega)
    have hw3 : IntKind.wrap .i64 (k - L + i + 1) = k - L + i + 1 := w64 (by omega) (by omega)
    have hw4 : IntKind.wrap .i64 (Int.ofNat i + 1) = Int.ofNat (i + 1) := w64 (by simp; omega) (by simp; omega)
    obtain ⟨e1, e2, e3⟩ := hE 0 hlpos
    rw [hw1, hw2, hw3, e1, e2, e3, hw4]
    have d1 : (k - (len : Int) + ((0 : Nat) : Int) + 1 != k - L + i + 1) = false := by simp; omega
    have d2 : (k - (len : Int) + ((0 : Nat) : Int) != k - L + i) = false := by simp; omega
    simp only [c1, c4, c5, c6, c7, c8, c9, hall, d1, d2, br_t, br_f, need_t]
    have next : Nn β (I2 m k) (fun p => p.len) (FL2 m k) (SL m has lk) ⟨i, i0, nn, len, c, due, li, seq, qs, qk, qi, qf, ql⟩ K .normal
        (FL2 m k ⟨i + 1, 1, len, len - 1, (bif Nat.beq len 0 then c else 0), due, li, seq, fun j => qs (i0 + j), fun j => qk (i0 + j), fun j => qi (i0 + j), fun j => qf (i0 + j), fun j => ql (i0 + j)⟩)
        (SL m has lk ⟨i + 1, 1, len, len - 1, (bif Nat.beq len 0 then c else 0), due, li, seq, fun j => qs (i0 + j), fun j => qk (i0 + j), fun j => qi (i0 + j), fun j => qf (i0 + j), fun j => ql (i0 + j)⟩) := by
      refine Nn.next _ ⟨by dsimp only; rw [hL]; omega, by dsimp only; omega, by dsimp only; omega, fun j hj => ?_⟩ (by dsimp only; omega)
      dsimp only at hj ⊢
      obtain ⟨f1, f2, f3⟩ := hE (1 + j) (by omega)
      refine ⟨by rw [f1]; omega, by rw [f2]; omega, ?_⟩
      rw [f3]
      congr 2
      simp
    refine br_of (fun hi0 => ?_) (fun hi0 => ?_)
    · have hi0 : i = 0 := by simpa using hi0
      have d3 : (!(decide (i + 0 = 0) && decide (k > m)) == decide (k > m)) = false := by subst hi0; simp
      rw [d3]
      exact next
    · have hi0 : i ≠ 0 := by simpa using hi0
      have d3 : (!(decide (i + 0 = 0) && decide (k > m)) == false) = false := by
        have : decide (i + 0 = 0) = false := by simpa using hi0
        rw [this]; rfl
      rw [d3]
      exact next
  · have c1 : decide (Int.ofNat i < L) = false := by simpa using hil
    simp only [c1, br_f]
    exact Nn.exit (hK has lk ⟨i, i0, nn, len, c, due, li, seq, qs, qk, qi, qf, ql⟩ ⟨by dsimp only; omega, by dsimp only; omega⟩)
theorem lost_law (n most : Int) (hn : 0 ≤ n ∧ n ≤ 255) (hm : 0 ≤ most ∧ most ≤ 255) (w : World) :
    Calls Try.prog 6 #[.int .u8 n, .int .u8 most] w fun e w' => e = .returned (.bool true) ∧ Below w.heap.size w w' := by
  have hM : IntKind.wrap .i64 (1 + IntKind.wrap .i64 (Int.tmod most 8)) = 1 + most % 8 := by
    rw [Int.tmod_eq_emod_of_nonneg hm.1, w64 (x := most % 8) (by omega) (by omega), w64 (by omega) (by omega)]
  have hN : IntKind.wrap .i64 (Int.tmod n 30) = n % 30 := by
    rw [Int.tmod_eq_emod_of_nonneg hn.1, w64 (by omega) (by omega)]
  refine law_scal (args := [.int .u8 n, .int .u8 most]) (fuel := 100) (n := 20) (un := fun _ => 0) (lvs := lvL) (ex := exL (1 + most % 8) (n % 30) (Post1 (1 + most % 8) (n % 30)) Post2) follows toldB_ok rfl w fun β hβ => ?_
  have hβ0 : β.X.length = 0 := by rw [hβ]; rfl
  rw [vc_lost, hM, hN]
  generalize hm' : 1 + most % 8 = m
  generalize hk' : n % 30 = k
  have hm2 : 1 ≤ m ∧ m ≤ 8 := by omega
  have hk2 : 0 ≤ k ∧ k ≤ 29 := by omega
  refine ⟨?_, fun has lk p hp => ?_⟩
  · refine LoopJ.seen (Seen.void (i := 0) (j := 14) 5 (fun i => [.int .i64 0, .int .i64 0, .int .i64 0, .float .f64 0, .bool false]) rfl rfl) ?_
    exact loop_rule (IQ m k) (fun a => FL1 m k a.2) (SQ m) (fun a => (k - a.2.i).toNat) (fun a ha K hK => lost_round1 hβ0 hm2 hk2 K hK a ha)
      (false, ⟨0, 0, 0, 0, 1, 0, 0, 0, fun _ => 0, fun _ => 0, fun _ => 0, fun _ => 0, fun _ => false⟩) ⟨fun _ => ⟨rfl, rfl, rfl, rfl, rfl, rfl⟩, fun h => by cases h⟩
  · obtain ⟨g1, g2, g3, g4, g5⟩ := hp
    have d1 : (Int.ofNat p.len != if m < k then m else k) = false := by rw [← g1]; simp
    have d2 : (p.seq != k) = false := by rw [g2]; simp
    rw [d1, d2]
    simp only [br_f]
    refine ⟨?_, fun has lk q hq => ?_⟩
    · exact loop_rule (I2 m k) (FL2 m k) (SL m has lk) (fun p => p.len) (fun p hp K hK => lost_round2 hβ0 hm2 hk2 K hK p hp) { p with i := 0 } ⟨by dsimp only; rw [← g1]; simp, g3, g4, fun j hj => by
        obtain ⟨f1, f2, f3⟩ := g5 j hj
        refine ⟨f1, f2, ?_⟩
        dsimp only at f3 ⊢
        rw [f3, Nat.zero_add]⟩
    · obtain ⟨q1, q2⟩ := hq
      have hall := row5 q.len q.qs q.qk q.qi q.qf q.ql q.i0
      have c1 : (Nat.ble 0 q.i0 && Nat.ble (q.i0 + q.len) q.nn) = true := by rw [q1]; simpa using q2
      have c2 : Nat.ble q.len 1000000 = true := by rw [q1]; rfl
      have c3 : (Int.ofNat q.len == 0) = true := by rw [q1]; rfl
      simp only [c1, c2, c3, hall, need_t, br_t]
end Go.Proofs.Ytlbccgoheiaheaa.Ev
