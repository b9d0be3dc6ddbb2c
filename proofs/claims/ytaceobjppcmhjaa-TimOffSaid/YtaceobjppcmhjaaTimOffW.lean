/-
  TimOff: what has to hold holds.
-/
import Derived.Test.YtaceobjppcmhjaaTimOffV
set_option linter.unusedVariables false
set_option linter.unusedSimpArgs false
namespace Go.Proofs.Ytaceobjppcmhjaa.Ev
open Go Go.Proofs Go.RowKit

structure TP where
  k : Nat
  q : Int
  et : Int
  on : Int
  at_ : Int
  since : Int
def FT (n : Nat) (pt : Int) (p : TP) : AFr := mkF 62 [(0, .slice (some ⟨0, 0, some 0⟩) n n), (1, .int .u8 pt), (5, .slice (some ⟨1, 0, none⟩) 4 4), (6, .int .i64 p.since), (7, .int .i64 (Int.ofNat p.k))]
def ST (r : AObj) (p : TP) : ASt := mkS [some r, some (.cells (cell4 p.q p.et p.on p.at_) true 0)]
def Ioff (n : Nat) (d : Int) (p : TP) : Prop := p.k ≤ n ∧ ((0 ≤ p.since ∧ p.since + 1 = p.k ∧ p.q = 1 ∧ p.et = 0 ∧ p.on = 0 ∧ p.at_ = 0) ∨
  (0 ≤ p.since ∧ p.since + 1 < p.k ∧ p.on = 1 ∧ p.at_ = p.since + 1 ∧ (p.k - 1 - p.at_ < d ∧ p.q = 1 ∨ d ≤ p.k - 1 - p.at_ ∧ p.q = 0)) ∨
  (p.since = -1000 ∧ p.q = 0 ∧ p.et = 0 ∧ p.on = 0 ∧ p.at_ = 0))
theorem pt_mod {pt : Int} (h : 0 ≤ pt ∧ pt ≤ 255) : IntKind.wrap .i64 (Int.tmod pt 10) = pt % 10 := by
  rw [Int.tmod_eq_emod_of_nonneg h.1]
  exact w64 (by omega) (by omega)
/-- what is owed of a round -/
def Nn (β : Bs) {α : Type} (I : α → Prop) (m : α → Nat) (F : α → AFr) (S : α → ASt) (p : α) (K : Kt) : Kt := fun x f st =>
  (x = .normal ∧ ∃ p', I p' ∧ m p' < m p ∧ Seen β f st (F p') (S p')) ∨ (x ≠ .normal ∧ (∀ v, x ≠ .panic v) ∧ ∃ f1 st1, Seen β f st f1 st1 ∧ K x f1 st1)
theorem le_min_cases (a b : Int) : (b < a ∧ (if b < a then b else a) = b) ∨ (¬ b < a ∧ (if b < a then b else a) = a) := by
  by_cases h : b < a
  · exact .inl ⟨h, if_pos h⟩
  · exact .inr ⟨h, if_neg h⟩
theorem br_t (A B : Prop) : br true A B = A := rfl
theorem br_f (A B : Prop) : br false A B = B := rfl
theorem need_t (A : Prop) : need true A = A := rfl
theorem off_round {x : Value} {l : List Bool} {w : World} {s : Spot} {c : Nat} (hb : BoolsAt w x l s c) (hn : l.length ≤ 40) {pt : Int} (hpt : 0 ≤ pt ∧ pt ≤ 255) (K : Kt)
    (hK : K (.exit 0) (mkF 62 []) (mkS [some (boolRow l.length fun i => l.getD i false)])) (p : TP) (hp : Ioff l.length (pt % 10) p) :
    J Try.prog ⟨w.heap.size, w, [s]⟩ (loopOf Try.prog 4 0) (FT l.length pt p) (ST (boolRow l.length fun i => l.getD i false) p)
      (Nn ⟨w.heap.size, w, [s]⟩ (Ioff l.length (pt % 10)) (fun p => l.length - p.k) (FT l.length pt) (ST (boolRow l.length fun i => l.getD i false)) p K) := by
  obtain ⟨k, q, et, on, at_, since⟩ := p
  obtain ⟨hk, hp⟩ := hp
  simp only at hk hp
  have hfull := ext_bools hb 0 l.length (Nat.le_refl _) (fun i => [.bool (l.getD i false)]) (fun i _ _ => rfl)
  have hd0 : 0 ≤ pt % 10 ∧ pt % 10 < 10 := by omega
  have hback : ∀ (f : AFr) (lo hi : Nat) (b : Bool) (o : AObj), Seen ⟨w.heap.size, w, [s]⟩ f (mkS [some (oneB lo hi b), some o]) f (mkS [some (boolRow l.length fun i => l.getD i false), some o]) := fun f lo hi b o =>
    Seen.row (l := [some (oneB lo hi b), some o]) (i := 0) rfl hfull rfl rfl
  have hback1 : ∀ (f : AFr) (lo hi : Nat) (b : Bool), Seen ⟨w.heap.size, w, [s]⟩ f (mkS [some (oneB lo hi b)]) f (mkS [some (boolRow l.length fun i => l.getD i false)]) := fun f lo hi b =>
    Seen.row (l := [some (oneB lo hi b)]) (i := 0) rfl hfull rfl rfl
  have hexit : ∀ (lo hi : Nat) (b : Bool), Nn ⟨w.heap.size, w, [s]⟩ (Ioff l.length (pt % 10)) (fun p => l.length - p.k) (FT l.length pt) (ST (boolRow l.length fun i => l.getD i false)) ⟨k, q, et, on, at_, since⟩ K (.exit 0) (mkF 62 []) (mkS [some (AObj.row 1 lo hi fun i => [Value.bool b])]) := fun lo hi b =>
    .inr ⟨by simp, by simp, _, _, hback1 _ lo hi b, hK⟩
  have hw1 : IntKind.wrap .i64 ((k : Int) + 1) = ((k + 1 : Nat) : Int) := w64 (by omega) (by omega)
  -- the end of a round
  have hnorm : ∀ (lo hi : Nat) (b : Bool) (q' et' on' at' since' : Int), k < l.length → Ioff l.length (pt % 10) ⟨k + 1, q', et', on', at', since'⟩ →
      Nn ⟨w.heap.size, w, [s]⟩ (Ioff l.length (pt % 10)) (fun p => l.length - p.k) (FT l.length pt) (ST (boolRow l.length fun i => l.getD i false)) ⟨k, q, et, on, at_, since⟩ K .normal
        (mkF 62 [(0, .slice (some ⟨0, 0, some 0⟩) l.length l.length), (1, .int .u8 pt), (5, .slice (some ⟨1, 0, none⟩) 4 4), (6, .int .i64 since'), (7, .int .i64 ((k + 1 : Nat) : Int))])
        (mkS [some (AObj.row 1 lo hi fun i => [Value.bool b]), some (.cells (cell4 q' et' on' at') true 0)]) := fun lo hi b q' et' on' at' since' hkl hI =>
    .inl ⟨rfl, ⟨k + 1, q', et', on', at', since'⟩, hI, by simp only; omega, hback _ lo hi b _⟩
  have hwk : IntKind.wrap .u64 (k : Int) = k := wu64 (by omega) (by omega)
  have hwd : IntKind.wrap .u64 (pt % 10) = pt % 10 := wu64 (by omega) (by omega)
  have hif : (if 0 > pt % 10 then 0 else pt % 10) = pt % 10 := if_neg (by omega)
  have hon0 : ((0 : Int) != 0) = false := rfl
  have hon1 : ((1 : Int) != 0) = true := rfl
  have hw0 : IntKind.wrap .i64 0 = 0 := rfl
  by_cases hkl : k < l.length
  · have hone : ExtOk ⟨w.heap.size, w, [s]⟩ s (oneB k (k + 1) (l.getD k false)) := by
      refine ext_bools hb k (k + 1) (by omega) _ fun i h1 h2 => ?_
      have : i = k := by omega
      subst this; rfl
    refine J.seen (Seen.row (l := [some (boolRow l.length fun i => l.getD i false), some (.cells (cell4 q et on at_) true 0)]) (i := 0) rfl hone rfl rfl) ?_
    have hlt : decide ((k : Int) < (l.length : Int)) = true := by simp; omega
    have hb1 : Nat.blt (Int.toNat (k : Int)) l.length = true := by simpa using hkl
    have hb2 : (Nat.ble k (0 + Int.toNat (k : Int)) && Nat.blt (0 + Int.toNat (k : Int)) (k + 1)) = true := by simp
    cases hbv : l.getD k false with
    | true =>
      refine roundJ_ok (E := 1) (lvs := fun _ => []) (un := fun _ => 20) (fuel := 100) (n := 20) (ex := fun _ _ => False) follows toldB_ok rfl (lv := lvOf [0, 1, 5, 6, 7]) ?_
      simp only [List.set]
      show roundJ _ _ _ _ _ _ _ _ _ _ _ _ (mkF 62 [(0, .slice (some ⟨0, 0, some 0⟩) l.length l.length), (1, .int .u8 pt), (5, .slice (some ⟨1, 0, none⟩) 4 4), (6, .int .i64 since), (7, .int .i64 (Int.ofNat k))]) _ _
      rw [vc_off_t]
      simp only [Int.ofNat_eq_natCast, hlt, hb1, hb2, br_t, br_f, need_t, hw1]
      exact hnorm _ _ _ 1 0 0 0 k hkl ⟨by simp only; omega, .inl ⟨by simp, by simp, rfl, rfl, rfl, rfl⟩⟩
    | false =>
      refine roundJ_ok (E := 1) (lvs := fun _ => []) (un := fun _ => 20) (fuel := 100) (n := 20) (ex := fun _ _ => False) follows toldB_ok rfl (lv := lvOf [0, 1, 5, 6, 7]) ?_
      simp only [List.set]
      show roundJ _ _ _ _ _ _ _ _ _ _ _ _ (mkF 62 [(0, .slice (some ⟨0, 0, some 0⟩) l.length l.length), (1, .int .u8 pt), (5, .slice (some ⟨1, 0, none⟩) 4 4), (6, .int .i64 since), (7, .int .i64 (Int.ofNat k))]) _ _
      rw [vc_off_f]
      simp only [Int.ofNat_eq_natCast]
      rcases hp with ⟨h0, h1, rfl, rfl, rfl, rfl⟩ | ⟨h0, h1, rfl, rfl, ⟨h2, rfl⟩ | ⟨h2, rfl⟩⟩ | ⟨rfl, rfl, rfl, rfl, rfl⟩
      · have hz2 : (k : Int) - (k : Int) = 0 := by omega
        have hgt : decide ((k : Int) > (k : Int)) = false := by simp
        have hws : IntKind.wrap .i64 (since + 1) = k := by rw [h1]; exact w64 (by omega) (by omega)
        simp only [hlt, hb1, hb2, br_t, br_f, need_t, pt_mod hpt, hw1, hif, hwd, hwk, hz2, hgt, hon0, hon1, hw0, hws, Bool.not_true, Bool.not_false, decide_false, decide_true]
        refine br_of (fun e1 => br_of (fun e2 => ?_) fun e2 => ?_) (fun e1 => br_of (fun e2 => ?_) fun e2 => ?_)
        · exfalso; simp at e1 e2 <;> omega
        · simp at e1; exact hnorm _ _ _ 1 0 1 k since hkl ⟨by simp only; omega, .inr (.inl ⟨by simp only; omega, by simp only; omega, rfl, by simp only; omega, .inl ⟨by simp only; omega, rfl⟩⟩)⟩
        · exfalso; simp at e1 e2 <;> omega
        · simp at e1; exact hnorm _ _ _ 0 0 1 k since hkl ⟨by simp only; omega, .inr (.inl ⟨by simp only; omega, by simp only; omega, rfl, by simp only; omega, .inr ⟨by simp only; omega, rfl⟩⟩)⟩
      · have hgt : decide ((k : Int) > since + 1) = true := by simp; omega
        have hws : IntKind.wrap .u64 (since + 1) = since + 1 := wu64 (by omega) (by omega)
        have hwi : IntKind.wrap .i64 (since + 1) = since + 1 := w64 (by omega) (by omega)
        have hwks : IntKind.wrap .u64 ((k : Int) - (since + 1)) = k - (since + 1) := wu64 (by omega) (by omega)
        have hwks2 : IntKind.wrap .i64 ((k : Int) - (since + 1)) = k - (since + 1) := w64 (by omega) (by omega)
        simp only [hlt, hb1, hb2, br_t, br_f, need_t, pt_mod hpt, hw1, hif, hwd, hwk, hws, hwi, hwks, hwks2, hgt, hon0, hon1, Bool.not_true, Bool.not_false, decide_false, decide_true]
        have hmin := le_min_cases (k - (since + 1)) (pt % 10)
        generalize (if pt % 10 < (k : Int) - (since + 1) then pt % 10 else (k : Int) - (since + 1)) = e at hmin ⊢
        have hwe : IntKind.wrap .i64 e = e := w64 (by omega) (by omega)
        simp only [hwe]
        refine br_of (fun e1 => br_of (fun e2 => ?_) fun e2 => ?_) (fun e1 => br_of (fun e2 => ?_) fun e2 => ?_)
        · exfalso; simp at e1 e2 <;> omega
        · simp at e1; exact hnorm _ _ _ 1 e 1 (since + 1) since hkl ⟨by simp only; omega, .inr (.inl ⟨by simp only; omega, by simp only; omega, rfl, rfl, .inl ⟨by simp only; omega, rfl⟩⟩)⟩
        · exfalso; simp at e1 e2 <;> omega
        · simp at e1; exact hnorm _ _ _ 0 e 1 (since + 1) since hkl ⟨by simp only; omega, .inr (.inl ⟨by simp only; omega, by simp only; omega, rfl, rfl, .inr ⟨by simp only; omega, rfl⟩⟩)⟩
      · have hwi : IntKind.wrap .i64 (since + 1) = since + 1 := w64 (by omega) (by omega)
        have hwks2 : IntKind.wrap .i64 ((k : Int) - (since + 1)) = k - (since + 1) := w64 (by omega) (by omega)
        simp only [hlt, hb1, hb2, br_t, br_f, need_t, pt_mod hpt, hw1, hwi, hwks2, hon0, hon1, Bool.not_true, Bool.not_false, decide_false, decide_true]
        refine br_of (fun e1 => ?_) (fun e1 => ?_)
        · exfalso; simp at e1 <;> omega
        · exact hnorm _ _ _ 0 et 1 (since + 1) since hkl ⟨by simp only; omega, .inr (.inl ⟨by simp only; omega, by simp only; omega, rfl, rfl, .inr ⟨by simp only; omega, rfl⟩⟩)⟩
      · have hwi : IntKind.wrap .i64 (-1000 + 1) = -999 := by decide
        have hwks2 : IntKind.wrap .i64 ((k : Int) - -999) = k + 999 := by rw [w64] <;> omega
        simp only [hlt, hb1, hb2, br_t, br_f, need_t, pt_mod hpt, hw1, hwi, hwks2, hon0, hon1, Bool.not_true, Bool.not_false, decide_false, decide_true]
        refine br_of (fun e1 => ?_) (fun e1 => ?_)
        · exfalso; simp at e1 <;> omega
        · exact hnorm _ _ _ 0 0 0 0 (-1000) hkl ⟨by simp only; omega, .inr (.inr ⟨rfl, rfl, rfl, rfl, rfl⟩)⟩
  · have hkn : k = l.length := by omega
    have hone : ExtOk ⟨w.heap.size, w, [s]⟩ s (oneB k k true) := ext_bools hb k k (by omega) _ (fun i h1 h2 => by omega)
    refine J.seen (Seen.row (l := [some (boolRow l.length fun i => l.getD i false), some (.cells (cell4 q et on at_) true 0)]) (i := 0) rfl hone rfl rfl) ?_
    have hlt : decide ((k : Int) < (l.length : Int)) = false := by simp; omega
    refine roundJ_ok (E := 1) (lvs := fun _ => []) (un := fun _ => 20) (fuel := 100) (n := 20) (ex := fun _ _ => False) follows toldB_ok rfl (lv := lvOf [0, 1, 5, 6, 7]) ?_
    simp only [List.set]
    show roundJ _ _ _ _ _ _ _ _ _ _ _ _ (mkF 62 [(0, .slice (some ⟨0, 0, some 0⟩) l.length l.length), (1, .int .u8 pt), (5, .slice (some ⟨1, 0, none⟩) 4 4), (6, .int .i64 since), (7, .int .i64 (Int.ofNat k))]) _ _
    rw [vc_off_t]
    simp only [Int.ofNat_eq_natCast, hlt, br_f]
    exact hexit _ _ _

theorem off_law (x : Value) (l : List Bool) (pt : Int) (hpt : 0 ≤ pt ∧ pt ≤ 255) (w : World) (hx : Bools w x l) : Calls Try.prog 4 #[x, .int .u8 pt] w fun e w' => e = .returned (.bool true) ∧ Below w.heap.size w w' := by
  have none : x = .slice none 0 0 ∨ (∃ a c, x = .slice (some a) 0 c) → Calls Try.prog 4 #[x, .int .u8 pt] w fun e w' => e = .returned (.bool true) ∧ Below w.heap.size w w' := fun h =>
    law_none (args := [.int .u8 pt]) (fuel := 100) (n := 20) (un := fun _ => 3) (lvs := fun _ => []) (ex := fun _ _ => False) follows toldB_ok rfl w h (fun β hβ => by rw [vc_off_nil]; trivial) (fun β hβ => by rw [vc_off_emp]; trivial)
  rcases Bools.cases hx with ⟨_, h⟩ | ⟨_, h⟩ | ⟨s, c, hb⟩
  · exact none (.inl h)
  · exact none (.inr h)
  · refine law_bools (args := [.int .u8 pt]) (fuel := 100) (n := 20) (un := fun _ => 0) (lvs := fun _ => [0, 1, 5, 6, 7]) (ex := exEnd 62 [some (boolRow l.length fun i => l.getD i false)]) follows toldB_ok rfl w hb ?_
    rw [vc_off]
    refine br_of (fun _ => trivial) (fun h => ⟨?_, trivial⟩)
    have hn : l.length ≤ 40 := by simp at h; omega
    exact loop_rule (Ioff l.length (pt % 10)) (FT l.length pt) (ST (boolRow l.length fun i => l.getD i false)) (fun p => l.length - p.k)
      (fun p hp K hK => off_round hb hn hpt K hK p hp) ⟨0, 0, 0, 0, 0, -1000⟩ ⟨Nat.zero_le _, .inr (.inr ⟨rfl, rfl, rfl, rfl, rfl⟩)⟩
end Go.Proofs.Ytaceobjppcmhjaa.Ev
