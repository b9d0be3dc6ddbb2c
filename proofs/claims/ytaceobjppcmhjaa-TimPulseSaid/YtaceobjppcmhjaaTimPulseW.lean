/-
  TimPulse: what has to hold holds.
-/
import Derived.Test.YtaceobjppcmhjaaTimPulseV
set_option linter.unusedVariables false
set_option linter.unusedSimpArgs false
namespace Go.Proofs.Ytaceobjppcmhjaa.Ev
open Go Go.Proofs Go.RowKit

structure TP where
  k : Nat
  q : Int
  et : Int
  on : Int
  at_ : Int
  since : Int
  runs : Bool
def FT (n : Nat) (d : Int) (p : TP) : AFr := mkF 78 [(0, .slice (some ⟨0, 0, some 0⟩) n n), (5, .int .i64 d), (6, .slice (some ⟨1, 0, none⟩) 4 4), (7, .int .i64 p.since), (8, .bool p.runs), (9, .int .i64 (Int.ofNat p.k))]
def ST (r : AObj) (p : TP) : ASt := mkS [some r, some (.cells (cell4 p.q p.et p.on p.at_) true 0)]
def Ipu (n : Nat) (p : TP) : Prop := p.k ≤ n ∧ ((p.runs = false ∧ p.on = 0) ∨ (p.runs = true ∧ p.on = 1 ∧ p.at_ = p.since ∧ 0 ≤ p.since ∧ p.since < p.k))
theorem pt_mod {pt : Int} (h : 0 ≤ pt ∧ pt ≤ 255) : IntKind.wrap .i64 (Int.tmod pt 10) = pt % 10 := by
  rw [Int.tmod_eq_emod_of_nonneg h.1]
  exact w64 (by omega) (by omega)
/-- what is owed of a round -/
def Nn (β : Bs) {α : Type} (I : α → Prop) (m : α → Nat) (F : α → AFr) (S : α → ASt) (p : α) (K : Kt) : Kt := fun x f st =>
  (x = .normal ∧ ∃ p', I p' ∧ m p' < m p ∧ Seen β f st (F p') (S p')) ∨ (x ≠ .normal ∧ (∀ v, x ≠ .panic v) ∧ ∃ f1 st1, Seen β f st f1 st1 ∧ K x f1 st1)
theorem le_min_cases (a b : Int) : (b < a ∧ (if b < a then b else a) = b) ∨ (¬ b < a ∧ (if b < a then b else a) = a) := by
  by_cases h : b < a
  · exact .inl ⟨h, if_pos h⟩
  · exact .inr ⟨h, if_neg h⟩
theorem br_t (A B : Prop) : br true A B = A := rfl
theorem br_f (A B : Prop) : br false A B = B := rfl
theorem need_t (A : Prop) : need true A = A := rfl
theorem pulse_round {x : Value} {l : List Bool} {w : World} {s : Spot} {c : Nat} (hb : BoolsAt w x l s c) (hn : l.length ≤ 40) {pt : Int} (hpt : 0 ≤ pt ∧ pt ≤ 255) (K : Kt)
    (hK : K (.exit 0) (mkF 78 []) (mkS [some (boolRow l.length fun i => l.getD i false)])) (p : TP) (hp : Ipu l.length p) :
    J Try.prog ⟨w.heap.size, w, [s]⟩ (loopOf Try.prog 5 0) (FT l.length (pt % 10) p) (ST (boolRow l.length fun i => l.getD i false) p)
      (Nn ⟨w.heap.size, w, [s]⟩ (Ipu l.length) (fun p => l.length - p.k) (FT l.length (pt % 10)) (ST (boolRow l.length fun i => l.getD i false)) p K) := by
  obtain ⟨k, q, et, on, at_, since, runs⟩ := p
  obtain ⟨hk, hp⟩ := hp
  simp only at hk hp
  have hfull := ext_bools hb 0 l.length (Nat.le_refl _) (fun i => [.bool (l.getD i false)]) (fun i _ _ => rfl)
  have hd0 : 0 ≤ pt % 10 ∧ pt % 10 < 10 := by omega
  have hback : ∀ (f : AFr) (lo hi : Nat) (b : Bool) (o : AObj), Seen ⟨w.heap.size, w, [s]⟩ f (mkS [some (oneB lo hi b), some o]) f (mkS [some (boolRow l.length fun i => l.getD i false), some o]) := fun f lo hi b o =>
    Seen.row (l := [some (oneB lo hi b), some o]) (i := 0) rfl hfull rfl rfl
  have hback1 : ∀ (f : AFr) (lo hi : Nat) (b : Bool), Seen ⟨w.heap.size, w, [s]⟩ f (mkS [some (oneB lo hi b)]) f (mkS [some (boolRow l.length fun i => l.getD i false)]) := fun f lo hi b =>
    Seen.row (l := [some (oneB lo hi b)]) (i := 0) rfl hfull rfl rfl
  have hexit : ∀ (lo hi : Nat) (b : Bool), Nn ⟨w.heap.size, w, [s]⟩ (Ipu l.length) (fun p => l.length - p.k) (FT l.length (pt % 10)) (ST (boolRow l.length fun i => l.getD i false)) ⟨k, q, et, on, at_, since, runs⟩ K (.exit 0) (mkF 78 []) (mkS [some (AObj.row 1 lo hi fun i => [Value.bool b])]) := fun lo hi b =>
    .inr ⟨by simp, by simp, _, _, hback1 _ lo hi b, hK⟩
  have hw1 : IntKind.wrap .i64 ((k : Int) + 1) = ((k + 1 : Nat) : Int) := w64 (by omega) (by omega)
  -- the end of a round
  have hnorm : ∀ (lo hi : Nat) (b : Bool) (q' et' on' at' since' : Int) (runs' : Bool), k < l.length → Ipu l.length ⟨k + 1, q', et', on', at', since', runs'⟩ →
      Nn ⟨w.heap.size, w, [s]⟩ (Ipu l.length) (fun p => l.length - p.k) (FT l.length (pt % 10)) (ST (boolRow l.length fun i => l.getD i false)) ⟨k, q, et, on, at_, since, runs⟩ K .normal
        (mkF 78 [(0, .slice (some ⟨0, 0, some 0⟩) l.length l.length), (5, .int .i64 (pt % 10)), (6, .slice (some ⟨1, 0, none⟩) 4 4), (7, .int .i64 since'), (8, .bool runs'), (9, .int .i64 ((k + 1 : Nat) : Int))])
        (mkS [some (AObj.row 1 lo hi fun i => [Value.bool b]), some (.cells (cell4 q' et' on' at') true 0)]) := fun lo hi b q' et' on' at' since' runs' hkl hI =>
    .inl ⟨rfl, ⟨k + 1, q', et', on', at', since', runs'⟩, hI, by simp only; omega, hback _ lo hi b _⟩
  have hwk : IntKind.wrap .u64 (k : Int) = k := wu64 (by omega) (by omega)
  have hwd : IntKind.wrap .u64 (pt % 10) = pt % 10 := wu64 (by omega) (by omega)
  have hif : (if 0 > pt % 10 then 0 else pt % 10) = pt % 10 := if_neg (by omega)
  have hon0 : ((0 : Int) != 0) = false := rfl
  have hon1 : ((1 : Int) != 0) = true := rfl
  have hw0 : IntKind.wrap .i64 0 = 0 := rfl
  by_cases hkl : k < l.length
  · have hone : ExtOk ⟨w.heap.size, w, [s]⟩ s (oneB k (k + 1) (l.getD k false)) := by
      refine ext_bools hb k (k + 1) (by omega) _ fun i h1 h2 => ?_
      have : i = k := by omega
      subst this; rfl
    refine J.seen (Seen.row (l := [some (boolRow l.length fun i => l.getD i false), some (.cells (cell4 q et on at_) true 0)]) (i := 0) rfl hone rfl rfl) ?_
    have hlt : decide ((k : Int) < (l.length : Int)) = true := by simp; omega
    have hb1 : Nat.blt (Int.toNat (k : Int)) l.length = true := by simpa using hkl
    have hb2 : (Nat.ble k (0 + Int.toNat (k : Int)) && Nat.blt (0 + Int.toNat (k : Int)) (k + 1)) = true := by simp
    have hz2 : (k : Int) - (k : Int) = 0 := by omega
    have hgk : decide ((k : Int) > (k : Int)) = false := by simp
    rcases hp with ⟨rfl, rfl⟩ | ⟨rfl, rfl, rfl, h0, h1⟩
    · cases hbv : l.getD k false with
      | true =>
        refine roundJ_ok (E := 1) (lvs := fun _ => []) (un := fun _ => 20) (fuel := 100) (n := 20) (ex := fun _ _ => False) follows toldB_ok rfl (lv := lvOf [0, 5, 6, 7, 8, 9]) ?_
        simp only [List.set]
        show roundJ _ _ _ _ _ _ _ _ _ _ _ _ (mkF 78 [(0, .slice (some ⟨0, 0, some 0⟩) l.length l.length), (5, .int .i64 (pt % 10)), (6, .slice (some ⟨1, 0, none⟩) 4 4), (7, .int .i64 since), (8, .bool false), (9, .int .i64 (Int.ofNat k))]) _ _
        rw [vc_pu_ft]
        simp only [Int.ofNat_eq_natCast]
        simp only [hlt, hb1, hb2, br_t, br_f, need_t, hw1, hif, hwd, hwk, hz2, hgk, hon0, hon1, hw0, Bool.not_true, Bool.not_false, decide_false, decide_true]
        cases hq : ((0 : Int) == pt % 10) with
        | true =>
          have hd : pt % 10 = 0 := by simp at hq; omega
          simp only [hq, Bool.not_true, Bool.not_false, br_t, br_f, need_t, hon0, hon1]
          refine br_of (fun e1 => ?_) (fun e1 => ?_)
          · exfalso; simp at e1 <;> omega
          · refine br_of (fun e2 => ?_) (fun e2 => ?_) <;> exact hnorm _ _ _ _ _ 1 k k true hkl ⟨by simp only; omega, .inr ⟨rfl, rfl, rfl, by simp, by simp only; omega⟩⟩
        | false =>
          have hd : 0 < pt % 10 := by simp at hq; omega
          simp only [hq, Bool.not_true, Bool.not_false, br_t, br_f, need_t, hon0, hon1]
          refine br_of (fun e1 => ?_) (fun e1 => ?_)
          · exfalso; simp at e1 <;> omega
          · refine br_of (fun e2 => ?_) (fun e2 => ?_) <;> exact hnorm _ _ _ _ _ 1 k k true hkl ⟨by simp only; omega, .inr ⟨rfl, rfl, rfl, by simp, by simp only; omega⟩⟩
      | false =>
        refine roundJ_ok (E := 1) (lvs := fun _ => []) (un := fun _ => 20) (fuel := 100) (n := 20) (ex := fun _ _ => False) follows toldB_ok rfl (lv := lvOf [0, 5, 6, 7, 8, 9]) ?_
        simp only [List.set]
        show roundJ _ _ _ _ _ _ _ _ _ _ _ _ (mkF 78 [(0, .slice (some ⟨0, 0, some 0⟩) l.length l.length), (5, .int .i64 (pt % 10)), (6, .slice (some ⟨1, 0, none⟩) 4 4), (7, .int .i64 since), (8, .bool false), (9, .int .i64 (Int.ofNat k))]) _ _
        rw [vc_pu_ff]
        simp only [Int.ofNat_eq_natCast]
        simp only [hlt, hb1, hb2, br_t, br_f, need_t, hw1, hif, hwd, hwk, hz2, hgk, hon0, hon1, hw0, Bool.not_true, Bool.not_false, decide_false, decide_true]
        exact hnorm _ _ _ 0 0 0 0 since false hkl ⟨by simp only; omega, .inl ⟨rfl, rfl⟩⟩
    · have hgt : decide ((k : Int) > at_) = true := by simp; omega
      have hws : IntKind.wrap .u64 at_ = at_ := wu64 (by omega) (by omega)
      have hwks : IntKind.wrap .u64 ((k : Int) - at_) = k - at_ := wu64 (by omega) (by omega)
      have hwks2 : IntKind.wrap .i64 ((k : Int) - at_) = k - at_ := w64 (by omega) (by omega)
      have hmin := le_min_cases (k - at_) (pt % 10)
      cases hbv : l.getD k false with
      | true =>
        refine roundJ_ok (E := 1) (lvs := fun _ => []) (un := fun _ => 20) (fuel := 100) (n := 20) (ex := fun _ _ => False) follows toldB_ok rfl (lv := lvOf [0, 5, 6, 7, 8, 9]) ?_
        simp only [List.set]
        show roundJ _ _ _ _ _ _ _ _ _ _ _ _ (mkF 78 [(0, .slice (some ⟨0, 0, some 0⟩) l.length l.length), (5, .int .i64 (pt % 10)), (6, .slice (some ⟨1, 0, none⟩) 4 4), (7, .int .i64 at_), (8, .bool true), (9, .int .i64 (Int.ofNat k))]) _ _
        rw [vc_pu_tt]
        simp only [Int.ofNat_eq_natCast]
        simp only [hlt, hb1, hb2, br_t, br_f, need_t, hw1, hif, hwd, hwk, hws, hwks, hwks2, hgt, hon0, hon1, Bool.not_true, Bool.not_false, decide_false, decide_true]
        generalize (if pt % 10 < (k : Int) - at_ then pt % 10 else (k : Int) - at_) = e at hmin ⊢
        have hwe : IntKind.wrap .i64 e = e := w64 (by omega) (by omega)
        simp only [hwe]
        cases hq : (e == pt % 10) with
        | true =>
          have hd : pt % 10 = e := by simp at hq; omega
          simp only [hq, Bool.not_true, Bool.not_false, br_t, br_f, need_t, hon0, hon1]
          refine br_of (fun e1 => ?_) (fun e1 => ?_)
          · exfalso; simp at e1 <;> omega
          · refine br_of (fun e2 => ?_) (fun e2 => ?_) <;> exact hnorm _ _ _ _ _ 1 at_ at_ true hkl ⟨by simp only; omega, .inr ⟨rfl, rfl, rfl, h0, by simp only; omega⟩⟩
        | false =>
          have hd : e ≠ pt % 10 := by simpa using hq
          simp only [hq, Bool.not_true, Bool.not_false, br_t, br_f, need_t, hon0, hon1]
          refine br_of (fun e1 => ?_) (fun e1 => ?_)
          · exfalso; simp at e1 <;> omega
          · refine br_of (fun e2 => ?_) (fun e2 => ?_) <;> exact hnorm _ _ _ _ _ 1 at_ at_ true hkl ⟨by simp only; omega, .inr ⟨rfl, rfl, rfl, h0, by simp only; omega⟩⟩
      | false =>
        refine roundJ_ok (E := 1) (lvs := fun _ => []) (un := fun _ => 20) (fuel := 100) (n := 20) (ex := fun _ _ => False) follows toldB_ok rfl (lv := lvOf [0, 5, 6, 7, 8, 9]) ?_
        simp only [List.set]
        show roundJ _ _ _ _ _ _ _ _ _ _ _ _ (mkF 78 [(0, .slice (some ⟨0, 0, some 0⟩) l.length l.length), (5, .int .i64 (pt % 10)), (6, .slice (some ⟨1, 0, none⟩) 4 4), (7, .int .i64 at_), (8, .bool true), (9, .int .i64 (Int.ofNat k))]) _ _
        rw [vc_pu_tf]
        simp only [Int.ofNat_eq_natCast]
        simp only [hlt, hb1, hb2, br_t, br_f, need_t, hw1, hif, hwd, hwk, hws, hwks, hwks2, hgt, hon0, hon1, Bool.not_true, Bool.not_false, decide_false, decide_true]
        generalize (if pt % 10 < (k : Int) - at_ then pt % 10 else (k : Int) - at_) = e at hmin ⊢
        have hwe : IntKind.wrap .i64 e = e := w64 (by omega) (by omega)
        simp only [hwe]
        cases hq : (e == pt % 10) with
        | true =>
          have hd : pt % 10 = e := by simp at hq; omega
          simp only [hq, Bool.not_true, Bool.not_false, br_t, br_f, need_t, hon0, hon1]
          refine br_of (fun e1 => ?_) (fun e1 => br_of (fun e2 => ?_) (fun e2 => ?_))
          · exfalso; simp at e1 <;> omega
          · exact hnorm _ _ _ _ _ 0 0 at_ false hkl ⟨by simp only; omega, .inl ⟨rfl, rfl⟩⟩
          · exfalso; simp at e1 e2 <;> omega
        | false =>
          have hd : e ≠ pt % 10 := by simpa using hq
          simp only [hq, Bool.not_true, Bool.not_false, br_t, br_f, need_t, hon0, hon1]
          refine br_of (fun e1 => ?_) (fun e1 => br_of (fun e2 => ?_) (fun e2 => ?_))
          · exfalso; simp at e1 <;> omega
          · exfalso; simp at e1 e2 <;> omega
          · exact hnorm _ _ _ _ _ 1 at_ at_ true hkl ⟨by simp only; omega, .inr ⟨rfl, rfl, rfl, h0, by simp only; omega⟩⟩
  · have hkn : k = l.length := by omega
    have hone : ExtOk ⟨w.heap.size, w, [s]⟩ s (oneB k k true) := ext_bools hb k k (by omega) _ (fun i h1 h2 => by omega)
    refine J.seen (Seen.row (l := [some (boolRow l.length fun i => l.getD i false), some (.cells (cell4 q et on at_) true 0)]) (i := 0) rfl hone rfl rfl) ?_
    have hlt : decide ((k : Int) < (l.length : Int)) = false := by simp; omega
    rcases hp with ⟨rfl, rfl⟩ | ⟨rfl, rfl, rfl, h0, h1⟩
    rotate_left
    · skip
      refine roundJ_ok (E := 1) (lvs := fun _ => []) (un := fun _ => 20) (fuel := 100) (n := 20) (ex := fun _ _ => False) follows toldB_ok rfl (lv := lvOf [0, 5, 6, 7, 8, 9]) ?_
      simp only [List.set]
      show roundJ _ _ _ _ _ _ _ _ _ _ _ _ (mkF 78 [(0, .slice (some ⟨0, 0, some 0⟩) l.length l.length), (5, .int .i64 (pt % 10)), (6, .slice (some ⟨1, 0, none⟩) 4 4), (7, .int .i64 at_), (8, .bool true), (9, .int .i64 (Int.ofNat k))]) _ _
      rw [vc_pu_tt]
      simp only [Int.ofNat_eq_natCast]
      simp only [hlt, br_f]
      exact hexit _ _ _
    · skip
      refine roundJ_ok (E := 1) (lvs := fun _ => []) (un := fun _ => 20) (fuel := 100) (n := 20) (ex := fun _ _ => False) follows toldB_ok rfl (lv := lvOf [0, 5, 6, 7, 8, 9]) ?_
      simp only [List.set]
      show roundJ _ _ _ _ _ _ _ _ _ _ _ _ (mkF 78 [(0, .slice (some ⟨0, 0, some 0⟩) l.length l.length), (5, .int .i64 (pt % 10)), (6, .slice (some ⟨1, 0, none⟩) 4 4), (7, .int .i64 since), (8, .bool false), (9, .int .i64 (Int.ofNat k))]) _ _
      rw [vc_pu_ft]
      simp only [Int.ofNat_eq_natCast]
      simp only [hlt, br_f]
      exact hexit _ _ _

theorem pulse_law (x : Value) (l : List Bool) (pt : Int) (hpt : 0 ≤ pt ∧ pt ≤ 255) (w : World) (hx : Bools w x l) : Calls Try.prog 5 #[x, .int .u8 pt] w fun e w' => e = .returned (.bool true) ∧ Below w.heap.size w w' := by
  have none : x = .slice none 0 0 ∨ (∃ a c, x = .slice (some a) 0 c) → Calls Try.prog 5 #[x, .int .u8 pt] w fun e w' => e = .returned (.bool true) ∧ Below w.heap.size w w' := fun h =>
    law_none (args := [.int .u8 pt]) (fuel := 100) (n := 20) (un := fun _ => 3) (lvs := fun _ => []) (ex := fun _ _ => False) follows toldB_ok rfl w h (fun β hβ => by rw [vc_pu_nil]; trivial) (fun β hβ => by rw [vc_pu_emp]; trivial)
  rcases Bools.cases hx with ⟨_, h⟩ | ⟨_, h⟩ | ⟨s, c, hb⟩
  · exact none (.inl h)
  · exact none (.inr h)
  · refine law_bools (args := [.int .u8 pt]) (fuel := 100) (n := 20) (un := fun _ => 0) (lvs := fun _ => [0, 5, 6, 7, 8, 9]) (ex := exEnd 78 [some (boolRow l.length fun i => l.getD i false)]) follows toldB_ok rfl w hb ?_
    rw [vc_pu]
    simp only [pt_mod hpt]
    refine br_of (fun _ => trivial) (fun h => ⟨?_, trivial⟩)
    have hn : l.length ≤ 40 := by simp at h; omega
    exact loop_rule (Ipu l.length) (FT l.length (pt % 10)) (ST (boolRow l.length fun i => l.getD i false)) (fun p => l.length - p.k)
      (fun p hp K hK => pulse_round hb hn hpt K hK p hp) ⟨0, 0, 0, 0, 0, 0, false⟩ ⟨Nat.zero_le _, .inl ⟨rfl, rfl⟩⟩
end Go.Proofs.Ytaceobjppcmhjaa.Ev
