/-
  Ways through instructions: how they are gone, and what comes of it, in plain words.
-/
import Derived.Test.YtbkbimmelmoohaaQ19
import Derived.Test.YtbkbimmelmoohaaQ17
set_option linter.unusedVariables false
set_option linter.unusedSimpArgs false
section
namespace Go.Proofs.Ytbkbimmelmoohaa.Ev
open Go Go.RowKit
structure Wy where
 p : Int
 h : Int
def wyE (x : Wy) (j : Nat) : Td := match j with
 | 0 => .sc (.int .i64 x.p)
 | _ => .sc (.int .i64 x.h)
instance encWy : Enc Wy where
 es := 2
 enc := wyE
 dec c := ⟨intD (c 0), intD (c 1)⟩
 ok c := intOk (c 0) && intOk (c 1)
 dflt := ⟨0, 0⟩
 good c := intOk (c 0) = true ∧ intOk (c 1) = true
 okgood c h := by simpa using h
 law c h w F j y hj ht := by
  obtain ⟨h0, h1⟩ := h
  match j, hj with
  | 0, _ => rw [intOk_inv h0] at ht; exact ht
  | 1, _ => rw [intOk_inv h1] at ht; exact ht
 back a := rfl
 mrg a b w F j y hj := match j, hj with
  | 0, _ => ⟨fun h => h, fun h => h⟩
  | 1, _ => ⟨fun h => h, fun h => h⟩
def eqW (a b : Wy) : Bool := a.p == b.p && a.h == b.h
theorem eqW_iff (a b : Wy) : eqW a b = true ↔ a = b := by
 obtain ⟨p, h⟩ := a
 obtain ⟨q, k⟩ := b
 unfold eqW
 simp
def keyW (w : Wy) : Value := .agg ⟨[.int .i64 w.p, .int .i64 w.h]⟩
abbrev Ez := List (Value × Value)
def encS (S : List Wy) : Ez := S.map fun w => (keyW w, .bool true)
theorem keyB_w (a b : Wy) : keyB (keyW a) (keyW b) = eqW a b := by
 show (a.p == b.p && (a.h == b.h && true)) = _
 rw [Bool.and_true]; rfl
def inS (S : List Wy) (w : Wy) : Bool := S.any (eqW w)
theorem inS_iff (S : List Wy) (w : Wy) : inS S w = true ↔ w ∈ S := by
 unfold inS
 rw [List.any_eq_true]
 constructor
 ·rintro ⟨x, hx, h⟩; rw [(eqW_iff w x).1 h]; exact hx
 ·intro h; exact ⟨w, h, (eqW_iff w w).2 rfl⟩
theorem get_encS (w : Wy) : ∀ S : List Wy, boolV (getK (keyW w) (.bool false) (encS S)) = inS S w
 | [] => rfl
 | x :: S => by
  show boolV (cond (keyB (keyW w) (keyW x)) (.bool true) (getK (keyW w) (.bool false) (encS S))) = (eqW w x || inS S w)
  rw [keyB_w, ← get_encS w S]
  cases eqW w x <;> rfl
theorem put_encS (w : Wy) : ∀ S : List Wy, inS S w = false → putK (keyW w) (.bool true) (encS S) = encS (S ++ [w])
 | [], _ => rfl
 | x :: S, h => by
  have h : (eqW w x || inS S w) = false := h
  rw [Bool.or_eq_false_iff] at h
  show cond (keyB (keyW w) (keyW x)) _ _ = _
  rw [keyB_w, h.1, cond_false]
  show _ :: putK (keyW w) (.bool true) (encS S) = _
  rw [put_encS w S h.2]; rfl
def effT (op n : Int) : Int × Int := cond (op == 1 || op == 2) (0, 1) (cond (op == 3 || op == 17 || op == 15 || op == 16) (1, 1) (cond (op == 18 || op == 21) (1, 0) (cond (op == 19) (2, 0) (cond (op == 22) (n, 0) (cond (op == 20 || op == 23) (0, 0) (2, 1))))))
def tkI (x : In) : Int := (effT x.op x.n).1
def lvI (x : In) : Int := (effT x.op x.n).2
def nhW (x : In) (h : Int) : Int := IntKind.wrap .i64 (IntKind.wrap .i64 (h - tkI x) + lvI x)
def sucI (x : In) (p h : Int) : List Wy := cond (x.op == 23) [] (cond (x.op == 20) [⟨x.a, h⟩] (cond (x.op == 21) [⟨x.a, h⟩, ⟨IntKind.wrap .i64 (p + 1), h⟩] [⟨IntKind.wrap .i64 (p + 1), h⟩]))
structure VS where
 T : List Wy
 S : List Wy
 hs : Ez
 fu : Bool
 un : Bool
def hsN (w : Wy) (hs : Ez) : Ez := putK (.int .i64 w.p) (.int .i64 (IntKind.wrap .i64 (intV (getK (.int .i64 w.p) (.int .i64 0) hs) + 1))) hs
def unN (w : Wy) (hs : Ez) (un : Bool) : Bool := un || decide (intV (getK (.int .i64 w.p) (.int .i64 0) (hsN w hs)) > 1)
def vrS (l : List In) (s : VS) : VS := cond (Nat.beq s.T.length 0) s
 (let w := s.T.getD (s.T.length - 1) Enc.dflt
  let T' := s.T.take (s.T.length - 1)
  cond (inS s.S w) ⟨T', s.S, s.hs, s.fu, s.un⟩
   (let x := l.getD w.p.toNat Enc.dflt
    cond (decide (w.h < tkI x) || decide (nhW x w.h > 16)) ⟨T', s.S ++ [w], hsN w s.hs, true, unN w s.hs s.un⟩
     ⟨T' ++ sucI x w.p (nhW x w.h), s.S ++ [w], hsN w s.hs, s.fu, unN w s.hs s.un⟩))
def vr0 : VS := ⟨[⟨0, 0⟩], [], [], false, false⟩
def vrK (l : List In) : Nat → VS
 | 0 => vr0
 | k + 1 => vrS l (vrK l k)
def vrN (l : List In) : Nat := 51 * l.length + 1
def vrF (l : List In) : VS := vrK l (vrN l)
def jmpB (l : List In) (x : In) : Bool := (x.op == 20 || x.op == 21) && decide (x.a ≥ Int.ofNat l.length)
noncomputable def okV (l : List In) : Bool := !(Nat.beq l.length 0) && Nat.ble l.length 400 && l.all mayB && l.all (fun x => !jmpB l x) && (l.getD (l.length - 1) Enc.dflt).op == 23
structure OkV (l : List In) : Prop where
 ne : 0 < l.length
 le : l.length ≤ 400
 may : ∀ x ∈ l, mayP x
 jmp : ∀ x ∈ l, (x.op = 20 ∨ x.op = 21) → x.a < (l.length : Int)
 last : (l.getD (l.length - 1) Enc.dflt).op = 23
theorem okV_iff {l : List In} : okV l = true ↔ OkV l := by
 unfold okV
 simp only [Bool.and_eq_true, List.all_eq_true, Bool.not_eq_true', beq_iff_eq]
 constructor
 ·rintro ⟨⟨⟨⟨h1, h2⟩, h3⟩, h4⟩, h5⟩
  refine ⟨?_, Nat.le_of_ble_eq_true h2, fun x hx => of_decide_eq_true (h3 x hx), fun x hx ho => ?_, h5⟩
  ·rcases Nat.eq_zero_or_pos l.length with h | h
   ·rw [h] at h1; cases h1
   ·exact h
  ·have := h4 x hx
   unfold jmpB at this
   rw [Bool.and_eq_false_iff] at this
   rcases this with h | h
   ·rw [Bool.or_eq_false_iff] at h
    rcases ho with ho | ho
    ·rw [ho] at h; exact absurd h.1 (by decide)
    ·rw [ho] at h; exact absurd h.2 (by decide)
   ·have := of_decide_eq_false h
    simp only [Int.ofNat_eq_natCast] at this
    omega
 ·rintro ⟨h1, h2, h3, h4, h5⟩
  refine ⟨⟨⟨⟨?_, Nat.ble_eq_true_of_le h2⟩, fun x hx => decide_eq_true (h3 x hx)⟩, fun x hx => ?_⟩, h5⟩
  ·exact beq_false (by omega)
  ·unfold jmpB
   rw [Bool.and_eq_false_iff]
   by_cases ho : x.op = 20 ∨ x.op = 21
   ·right
    have := h4 x hx ho
    exact decide_eq_false (by simp only [Int.ofNat_eq_natCast]; omega)
   ·left
    rw [Bool.or_eq_false_iff]
    exact ⟨beq_eq_false_iff_ne.2 fun h => ho (.inl h), beq_eq_false_iff_ne.2 fun h => ho (.inr h)⟩
def InB (l : List In) (w : Wy) : Prop := 0 ≤ w.p ∧ w.p < (l.length : Int) ∧ 0 ≤ w.h ∧ w.h ≤ 16
theorem eff_rng {x : In} (hm : mayP x) : 0 ≤ tkI x ∧ tkI x ≤ 2 ∧ 0 ≤ lvI x ∧ lvI x ≤ 1 := by
 have hn : x.op = 22 → 1 ≤ x.n ∧ x.n ≤ 2 := fun h => by
  unfold mayP at hm
  omega
 unfold tkI lvI effT
 cases h1 : x.op == 1 || x.op == 2 with
 | true => simp
 | false =>
  rw [cond_false]
  cases h2 : x.op == 3 || x.op == 17 || x.op == 15 || x.op == 16 with
  | true => simp
  | false =>
   rw [cond_false]
   cases h3 : x.op == 18 || x.op == 21 with
   | true => simp
   | false =>
    rw [cond_false]
    cases h4 : x.op == 19 with
    | true => simp
    | false =>
     rw [cond_false]
     cases h5 : x.op == 22 with
     | true =>
      have := hn (by simpa using h5)
      simp only [cond_true]
      omega
     | false =>
      rw [cond_false]
      cases x.op == 20 || x.op == 23 <;> simp
theorem nhW_eq {x : In} (hm : mayP x) {h : Int} (h0 : 0 ≤ h) (h1 : h ≤ 16) : nhW x h = h - tkI x + lvI x := by
 obtain ⟨a, b, c, d⟩ := eff_rng hm
 unfold nhW
 have e1 : IntKind.wrap .i64 (h - tkI x) = h - tkI x := w64 (by omega) (by omega)
 rw [e1, w64 (by omega) (by omega)]
theorem InB.x {l : List In} (hl : OkV l) {w : Wy} (h : InB l w) : l.getD w.p.toNat Enc.dflt ∈ l := by
 obtain ⟨a, b, _⟩ := h
 have : w.p.toNat < l.length := by omega
 simp [List.getD, this]
theorem suc_in {l : List In} (hl : OkV l) {w : Wy} (h : InB l w) {h' : Int} (h0 : 0 ≤ h') (h1 : h' ≤ 16) : ∀ w' ∈ sucI (l.getD w.p.toNat Enc.dflt) w.p h', InB l w' := by
 have hx := h.x hl
 have hm := hl.may _ hx
 obtain ⟨a, b, _⟩ := h
 have hlast : (l.getD w.p.toNat Enc.dflt).op ≠ 23 → w.p + 1 < (l.length : Int) := fun hne => by
  rcases Nat.lt_or_ge (w.p.toNat + 1) l.length with h | h
  ·omega
  ·exfalso
   have : w.p.toNat = l.length - 1 := by omega
   rw [this] at hne
   exact hne hl.last
 have hw : IntKind.wrap .i64 (w.p + 1) = w.p + 1 := w64 (by omega) (by have := hl.le; omega)
 have hj := hl.jmp _ hx
 generalize l.getD w.p.toNat Enc.dflt = x at *
 have ha : x.op = 20 ∨ x.op = 21 → 0 ≤ x.a := fun h => by
  unfold mayP at hm
  omega
 intro w' hw'
 unfold sucI at hw'
 cases h1 : x.op == 23 with
 | true => rw [h1] at hw'; cases hw'
 | false =>
  have n23 : x.op ≠ 23 := by simpa using h1
  rw [h1, cond_false] at hw'
  have nx := hlast n23
  cases h2 : x.op == 20 with
  | true =>
   have e : x.op = 20 := by simpa using h2
   rw [h2, cond_true, List.mem_singleton] at hw'
   subst hw'
   exact ⟨ha (.inl e), hj (.inl e), h0, by assumption⟩
  | false =>
   rw [h2, cond_false] at hw'
   cases h3 : x.op == 21 with
   | true =>
    have e : x.op = 21 := by simpa using h3
    rw [h3, cond_true] at hw'
    rcases List.mem_cons.1 hw' with h4 | h4
    ·subst h4
     exact ⟨ha (.inr e), hj (.inr e), h0, by assumption⟩
    ·rw [List.mem_singleton] at h4
     subst h4
     rw [hw]
     exact ⟨by show 0 ≤ w.p + 1; omega, nx, h0, by assumption⟩
   | false =>
    rw [h3, cond_false, List.mem_singleton] at hw'
    subst hw'
    rw [hw]
    exact ⟨by show 0 ≤ w.p + 1; omega, nx, h0, by assumption⟩
theorem suc_len (x : In) (p h : Int) : (sucI x p h).length ≤ 2 := by
 unfold sucI
 cases x.op == 23 with
 | true => simp
 | false =>
  cases x.op == 20 with
  | true => simp
  | false => cases x.op == 21 <;> simp
def cell (c : Nat) : Wy := ⟨((c / 17 : Nat) : Int), ((c % 17 : Nat) : Int)⟩
def left (n : Nat) (S : List Wy) : Nat := (List.range (17 * n)).countP fun c => !inS S (cell c)
theorem countP_lt {α : Type} {p q : α → Bool} : ∀ {l : List α}, (∀ x ∈ l, p x = true → q x = true) → (∃ x ∈ l, q x = true ∧ p x = false) → l.countP p < l.countP q
 | [], _, ⟨x, hx, _⟩ => by cases hx
 | a :: l, h, ⟨x, hx, h1, h2⟩ => by
  have hm : l.countP p ≤ l.countP q := List.countP_mono_left fun y hy => h y (List.mem_cons_of_mem _ hy)
  rcases List.mem_cons.1 hx with h3 | h3
  ·subst h3
   rw [List.countP_cons_of_neg (by rw [h2]; decide), List.countP_cons_of_pos h1]
   omega
  ·have ih := countP_lt (fun y hy => h y (List.mem_cons_of_mem _ hy)) ⟨x, h3, h1, h2⟩
   cases hp : p a with
   | true =>
    rw [List.countP_cons_of_pos hp, List.countP_cons_of_pos (h a (List.mem_cons_self ..) hp)]
    omega
   | false =>
    rw [List.countP_cons_of_neg (by rw [hp]; decide)]
    cases hq : q a with
    | true => rw [List.countP_cons_of_pos hq]; omega
    | false => rw [List.countP_cons_of_neg (by rw [hq]; decide)]; exact ih
theorem left_lt {l : List In} {S : List Wy} {w : Wy} (hw : InB l w) (hn : inS S w = false) : left l.length (S ++ [w]) < left l.length S := by
 obtain ⟨a, b, c, d⟩ := hw
 have hc : cell (17 * w.p.toNat + w.h.toNat) = w := by
  obtain ⟨p, h⟩ := w
  simp only at a b c d
  unfold cell
  have e1 : (17 * p.toNat + h.toNat) / 17 = p.toNat := by omega
  have e2 : (17 * p.toNat + h.toNat) % 17 = h.toNat := by omega
  rw [e1, e2, Int.toNat_of_nonneg a, Int.toNat_of_nonneg c]
 unfold left
 refine countP_lt (fun x _ h => ?_) ⟨17 * w.p.toNat + w.h.toNat, List.mem_range.2 (by omega), ?_, ?_⟩
 ·rw [Bool.not_eq_true'] at h ⊢
  unfold inS at h ⊢
  rw [List.any_append, Bool.or_eq_false_iff] at h
  exact h.1
 ·rw [hc, hn]; rfl
 ·rw [hc]
  have : inS (S ++ [w]) w = true := (inS_iff _ _).2 (by simp)
  rw [this]; rfl
theorem left_le (n : Nat) (S : List Wy) : left n S ≤ 17 * n := by
 unfold left
 have := List.countP_le_length (p := fun c => !inS S (cell c)) (l := List.range (17 * n))
 rw [List.length_range] at this
 exact this
def gdW (l : List In) (w : Wy) : Prop := tkI (l.getD w.p.toNat Enc.dflt) ≤ w.h ∧ nhW (l.getD w.p.toNat Enc.dflt) w.h ≤ 16
def sucW (l : List In) (w : Wy) : List Wy := sucI (l.getD w.p.toNat Enc.dflt) w.p (nhW (l.getD w.p.toNat Enc.dflt) w.h)
structure VI (l : List In) (s : VS) : Prop where
 bT : ∀ w ∈ s.T, InB l w
 bS : ∀ w ∈ s.S, InB l w
 clo : s.fu = false → ∀ w ∈ s.S, gdW l w ∧ ∀ w' ∈ sucW l w, w' ∈ s.S ∨ w' ∈ s.T
 st : (⟨0, 0⟩ : Wy) ∈ s.S ∨ (⟨0, 0⟩ : Wy) ∈ s.T
 small : s.T.length ≤ 2 * s.S.length + 1
def meas (l : List In) (s : VS) : Nat := 3 * left l.length s.S + s.T.length
theorem vi_0 {l : List In} (hl : OkV l) : VI l vr0 := by
 refine ⟨fun w hw => ?_, (fun w hw => by cases hw), (fun _ w hw => by cases hw), .inr (List.mem_singleton.2 rfl), Nat.le_refl _⟩
 have : w = ⟨0, 0⟩ := List.mem_singleton.1 hw
 subst this
 have := hl.ne
 exact ⟨Int.le_refl _, by show (0 : Int) < _; omega, Int.le_refl _, by decide⟩
theorem last_split {α : Type} (T : List α) (d : α) (h : T.length ≠ 0) : T = T.take (T.length - 1) ++ [T.getD (T.length - 1) d] := by
 have hlt : T.length - 1 < T.length := by omega
 have : T.take (T.length - 1 + 1) = T.take (T.length - 1) ++ [T.getD (T.length - 1) d] := by
  rw [List.take_add_one, List.getElem?_eq_getElem hlt]
  simp [List.getD, hlt]
 rw [show T.length - 1 + 1 = T.length by omega, List.take_length] at this
 exact this
theorem vi_step {l : List In} (hl : OkV l) {s : VS} (hI : VI l s) (hT : s.T.length ≠ 0) : VI l (vrS l s) ∧ meas l (vrS l s) < meas l s := by
 obtain ⟨bT, bS, clo, st, small⟩ := hI
 have hsp := last_split s.T Enc.dflt hT
 unfold vrS
 rw [beq_false hT, cond_false]
 have hw : s.T.getD (s.T.length - 1) Enc.dflt ∈ s.T := by
  have hlt : s.T.length - 1 < s.T.length := by omega
  simp [List.getD, hlt]
 have hle : (s.T.take (s.T.length - 1)).length = s.T.length - 1 := by rw [List.length_take]; omega
 have hmem : ∀ v, v ∈ s.T → v ∈ s.T.take (s.T.length - 1) ∨ v = s.T.getD (s.T.length - 1) Enc.dflt := fun v hv => by
  rw [hsp] at hv
  rcases List.mem_append.1 hv with h | h
  ·left
   have e : (s.T.take (s.T.length - 1) ++ [s.T.getD (s.T.length - 1) Enc.dflt]).length = s.T.length := by rw [← hsp]
   exact h
  ·exact .inr (List.mem_singleton.1 h)
 have hsub : ∀ v, v ∈ s.T.take (s.T.length - 1) → v ∈ s.T := fun v hv => List.mem_of_mem_take hv
 show VI l (cond (inS s.S (s.T.getD (s.T.length - 1) Enc.dflt)) _ _) ∧ meas l (cond (inS s.S (s.T.getD (s.T.length - 1) Enc.dflt)) _ _) < _
 generalize s.T.getD (s.T.length - 1) Enc.dflt = w at *
 generalize s.T.take (s.T.length - 1) = T' at *
 have hB := bT w hw
 cases hin : inS s.S w with
 | true =>
  have hS := (inS_iff _ _).1 hin
  rw [cond_true]
  refine ⟨⟨fun v hv => bT v (hsub v hv), bS, fun hf v hv => ⟨(clo hf v hv).1, fun w' hw' => ?_⟩, ?_, by show T'.length ≤ 2 * s.S.length + 1; omega⟩, ?_⟩
  ·rcases (clo hf v hv).2 w' hw' with h | h
   ·exact .inl h
   ·rcases hmem w' h with h | h
    ·exact .inr h
    ·subst h; exact .inl hS
  ·rcases st with h | h
   ·exact .inl h
   ·rcases hmem _ h with h | h
    ·exact .inr h
    ·left; rw [h]; exact hS
  ·show 3 * left l.length s.S + T'.length < 3 * left l.length s.S + s.T.length
   omega
 | false =>
  rw [cond_false]
  have hlt := left_lt hB hin
  have hx := hB.x hl
  have hm := hl.may _ hx
  have hnh := nhW_eq hm hB.2.2.1 hB.2.2.2
  obtain ⟨e1, e2, e3, e4⟩ := eff_rng hm
  have bS' : ∀ v ∈ s.S ++ [w], InB l v := fun v hv => by
   rcases List.mem_append.1 hv with h | h
   ·exact bS v h
   ·rw [List.mem_singleton] at h; rw [h]; exact hB
  have hlen : (s.S ++ [w]).length = s.S.length + 1 := by rw [List.length_append]; rfl
  have st' : (⟨0, 0⟩ : Wy) ∈ s.S ++ [w] ∨ (⟨0, 0⟩ : Wy) ∈ T' := by
   rcases st with h | h
   ·exact .inl (List.mem_append_left _ h)
   ·rcases hmem _ h with h | h
    ·exact .inr h
    ·left; rw [h]; simp
  show VI l (cond (decide (w.h < tkI (l.getD w.p.toNat Enc.dflt)) || decide (nhW (l.getD w.p.toNat Enc.dflt) w.h > 16)) _ _) ∧ meas l (cond (decide (w.h < tkI (l.getD w.p.toNat Enc.dflt)) || decide (nhW (l.getD w.p.toNat Enc.dflt) w.h > 16)) _ _) < _
  cases hf : decide (w.h < tkI (l.getD w.p.toNat Enc.dflt)) || decide (nhW (l.getD w.p.toNat Enc.dflt) w.h > 16) with
  | true =>
   rw [cond_true]
   refine ⟨⟨fun v hv => bT v (hsub v hv), bS', (fun h => by cases h), st', by show T'.length ≤ 2 * (s.S ++ [w]).length + 1; omega⟩, ?_⟩
   show 3 * left l.length (s.S ++ [w]) + T'.length < 3 * left l.length s.S + s.T.length
   omega
  | false =>
   rw [cond_false]
   rw [Bool.or_eq_false_iff, decide_eq_false_iff_not, decide_eq_false_iff_not] at hf
   have hg : gdW l w := ⟨by omega, by omega⟩
   have hsl := suc_len (l.getD w.p.toNat Enc.dflt) w.p (nhW (l.getD w.p.toNat Enc.dflt) w.h)
   have hsuc := suc_in hl hB (h' := nhW (l.getD w.p.toNat Enc.dflt) w.h) (by omega) (by omega)
   refine ⟨⟨fun v hv => ?_, bS', fun hf v hv => ?_, ?_, ?_⟩, ?_⟩
   ·rcases List.mem_append.1 hv with h | h
    ·exact bT v (hsub v h)
    ·exact hsuc v h
   ·rcases List.mem_append.1 hv with h | h
    ·refine ⟨(clo hf v h).1, fun w' hw' => ?_⟩
     rcases (clo hf v h).2 w' hw' with h | h
     ·exact .inl (List.mem_append_left _ h)
     ·rcases hmem w' h with h | h
      ·exact .inr (List.mem_append_left _ h)
      ·left; rw [h]; simp
    ·rw [List.mem_singleton] at h
     subst h
     exact ⟨hg, fun w' hw' => .inr (List.mem_append_right _ hw')⟩
   ·rcases st' with h | h
    ·exact .inl h
    ·exact .inr (List.mem_append_left _ h)
   ·show (T' ++ _).length ≤ 2 * (s.S ++ [w]).length + 1
    rw [List.length_append]
    omega
   ·show 3 * left l.length (s.S ++ [w]) + (T' ++ _).length < 3 * left l.length s.S + s.T.length
    rw [List.length_append]
    omega
theorem vr_stop {l : List In} {s : VS} (h : s.T.length = 0) : vrS l s = s := by
 unfold vrS
 rw [h]; rfl
theorem vi_all {l : List In} (hl : OkV l) : ∀ k, VI l (vrK l k) ∧ ((vrK l k).T.length = 0 ∨ k + meas l (vrK l k) ≤ vrN l)
 | 0 => ⟨vi_0 hl, .inr (by
   show 0 + (3 * left l.length [] + 1) ≤ 51 * l.length + 1
   have := left_le l.length []
   omega)⟩
 | k + 1 => by
  obtain ⟨h1, h2⟩ := vi_all hl k
  show VI l (vrS l (vrK l k)) ∧ ((vrS l (vrK l k)).T.length = 0 ∨ k + 1 + meas l (vrS l (vrK l k)) ≤ vrN l)
  by_cases h0 : (vrK l k).T.length = 0
  ·rw [vr_stop h0]; exact ⟨h1, .inl h0⟩
  ·obtain ⟨a, b⟩ := vi_step hl h1 h0
   exact ⟨a, .inr (by omega)⟩
theorem vr_end {l : List In} (hl : OkV l) : (vrF l).T.length = 0 := by
 obtain ⟨_, h⟩ := vi_all hl (vrN l)
 rcases h with h | h
 ·exact h
 ·unfold meas at h
  show (vrK l (vrN l)).T.length = 0
  omega
theorem vrK_stop {l : List In} {k : Nat} (h : (vrK l k).T.length = 0) : ∀ d, vrK l (k + d) = vrK l k
 | 0 => rfl
 | d + 1 => by
  show vrS l (vrK l (k + d)) = _
  rw [vrK_stop h d, vr_stop h]
theorem vr_done {l : List In} (hl : OkV l) {k : Nat} (h : (vrK l k).T.length = 0) : vrF l = vrK l k := by
 unfold vrF
 rcases Nat.le_total k (vrN l) with h1 | h1
 ·have := vrK_stop h (vrN l - k)
  rw [show k + (vrN l - k) = vrN l by omega] at this
  exact this
 ·have := vrK_stop (vr_end hl) (k - vrN l)
  rw [show vrN l + (k - vrN l) = k by omega] at this
  exact this.symm
inductive Rch (l : List In) : Wy → Prop
 | base : Rch l ⟨0, 0⟩
 | step {w w' : Wy} : Rch l w → w' ∈ sucW l w → Rch l w'
theorem rch_good {l : List In} (hl : OkV l) (hf : (vrF l).fu = false) {w : Wy} (h : Rch l w) : InB l w ∧ gdW l w := by
 obtain ⟨hI, _⟩ := vi_all hl (vrN l)
 have hT : (vrF l).T = [] := List.length_eq_zero_iff.1 (vr_end hl)
 have hI : VI l (vrF l) := hI
 have key : w ∈ (vrF l).S := by
  induction h with
  | base =>
   rcases hI.st with h | h
   ·exact h
   ·rw [hT] at h; cases h
  | step _ hs ih =>
   rcases (hI.clo hf _ ih).2 _ hs with h | h
   ·exact h
   ·rw [hT] at h; cases h
 exact ⟨hI.bS _ key, (hI.clo hf _ key).1⟩
end Go.Proofs.Ytbkbimmelmoohaa.Ev
end
section
namespace Go.Proofs.Ytbkbimmelmoohaa.Ev
open Go Go.RowKit
def top1 (t : Td) (k : Nat) : Value × List AObj := match t with
 | .sc x => (x, [])
 | .fr es n c e => (.slice (some ⟨k, 0, some 0⟩) n c, [.row .still es 0 n e])
def tops : List Td → Nat → List Value × List AObj
 | [], _ => ([], [])
 | t :: l, k => ((top1 t k).1 :: (tops l (k + (top1 t k).2.length)).1, (top1 t k).2 ++ (tops l (k + (top1 t k).2.length)).2)
theorem top1_rel {w : World} {F : Nat → Prop} (hF : ∀ b, F b → b < w.heap.size) {t : Td} {y : Value} (h : TR w F t y) : ∃ S, (∀ k, LayR w F (top1 t k).2 S) ∧ ∀ X k, At X S k → VR (fun i => X[i]?) (top1 t k).1 y := by
 cases t with
 | sc x => exact ⟨[], fun k => LayR.nil w F, fun X k _ => VR.mono (noRho_sub _) h⟩
 | fr es n c e =>
  obtain ⟨s, h1, h2, h3, h4⟩ := arg_spot h hF
  refine ⟨[s], fun k => ⟨rfl, fun i s' o hs ho => ?_⟩, fun X k hX => h3 _ k s (hX 0 s rfl) (SameSpot.refl s)⟩
  cases i with
  | zero => cases hs; cases ho; exact ⟨h4, h2, h1⟩
  | succ i => cases hs
theorem tops_rel {w : World} {F : Nat → Prop} (hF : ∀ b, F b → b < w.heap.size) : ∀ {ts : List Td} {ys : List Value}, PW (TR w F) ts ys → ∃ S, (∀ k, LayR w F (tops ts k).2 S) ∧ ∀ X k, At X S k → VRL (fun i => X[i]?) (tops ts k).1 ys := by
 intro ts
 induction ts with
 | nil => intro ys h; have := h.nil_inv; subst this; exact ⟨[], fun k => LayR.nil w F, fun X k _ => VRL.nil _⟩
 | cons t ts ih =>
  intro ys h
  obtain ⟨y, m, rfl, hy, hm⟩ := h.uncons
  obtain ⟨S1, a1, a2⟩ := top1_rel hF hy
  obtain ⟨S2, b1, b2⟩ := ih hm
  refine ⟨S1 ++ S2, fun k => (a1 k).app (b1 _), fun X k hX => ?_⟩
  obtain ⟨h1, h2⟩ := hX.app
  rw [(a1 k).len] at h2
  exact VRL.cons (a2 X k h1) (b2 X _ h2)
theorem law_top {P : Program} {C : Told} {fuel n : Nat} {un : Nat → Nat} {lvs : Nat → List Nat} {ex : Nat → Kt → Prop} {g : FuncId} {ts : List Td} (hm : P.follows .mixedOrders = true) (hC : ToldS P C)
  (h : ∀ β : Bs, β.X.length = (tops ts 0).2.length → lawE P C fuel n β un (cnOf (tops ts 0).2.length lvs) ex g (tops ts 0).1 (mkS ((tops ts 0).2.map some)) trueE) (w : World) (args' : Array Value) (ha : PW (TR w (There w)) ts args'.toList) :
  Calls P g args' w fun e w' => e = .returned (.bool true) ∧ Below w.heap.size w w' := by
 obtain ⟨S, s1, s2⟩ := tops_rel (F := There w) (fun b hb => hb) ha
 have hlen := (s1 0).len
 have hv := s2 S 0 (fun i s hs => by rw [Nat.zero_add]; exact hs)
 have hl' := h ⟨w.heap.size, w, S, There w, noW⟩ hlen
 rw [← hlen] at hl'
 refine (law_args (F := There w) hm hC w hlen (fun k s o h1 h2 => ((s1 0).ok k s o h1 h2).1 _ _) (fun s hs hvd => ?_) (fun s hs b hb => ?_) (fun b hb => hb) hv hl').mono fun e w' he => he.true (fun _ h => h)
 ·obtain ⟨i, hi⟩ := List.getElem?_of_mem hs
  have hil := (List.getElem?_eq_some_iff.1 hi).1
  exact ((s1 0).ok i s _ hi (List.getElem?_eq_getElem (by omega))).2.1 hvd
 ·obtain ⟨i, hi⟩ := List.getElem?_of_mem hs
  have hil := (List.getElem?_eq_some_iff.1 hi).1
  have := ((s1 0).ok i s _ hi (List.getElem?_eq_getElem (by omega))).2.2
  rw [this] at hb; exact hb
theorem typed_arg {H : Type} {enc : TypeId × Value → H} {P : Program} {w : World} {t : TypeId} {v : Value} {d : DataW H} {ps : List MemPlace} {b0 : Nat} {α : Type} [Enc α] {sh : Nat → Sh} {e : TypeId} (hs : ∀ c : Nat → Td, (∀ j, j < Enc.es α → ShOk (sh j) (c j)) → Enc.good α c) (ht : P.underlying t = some (.slice e)) (hl : flatB P 9 t [.sl (Enc.es α) sh] = true)
  (hv : Value.okWide P w .any b0 t v) (h : DataW.Trod enc P w 0 (fun _ => true) true t v d ps) : ∃ u : Td, goodT α u ∧ TR w (There w) (tdL (listT α u) (nilT u)) v := by
 obtain ⟨n, cc, el, h1, h2⟩ := row_of_trod ht hl hv h
 have hg := goodT_of hs h2
 exact ⟨_, hg, goodT_TR hg h1⟩
end Go.Proofs.Ytbkbimmelmoohaa.Ev
end
section
namespace Go.Proofs.Ytbkbimmelmoohaa.Ev
open Go Go.RowKit
def memL (st : ASt) : List (Option AObj) := (upto 0 st.next).map st.h.get
def outK (K : AE → List (Option AObj) → Prop) (r : AE) (st : ASt) : Prop := K r (memL st)
theorem memL_get {st : ASt} {k : Nat} {o : AObj} (h : (mkS (memL st)).h.get k = some o) : st.h.get k = some o := by
 rw [mkS_get] at h
 unfold memL at h
 rw [List.getElem?_map] at h
 rcases Nat.lt_or_ge k st.next with hk | hk
 ·rw [upto_get _ _ _ hk, Nat.zero_add] at h
  exact h
 ·rw [List.getElem?_eq_none (by rw [upto_len]; exact hk)] at h
  cases h
theorem PostE.mono {β : Bs} {K K' : AE → ASt → Prop} {e : Ending} {w' : World} (hK : ∀ r st, K r st → K' r st) (h : PostE β K e w') : PostE β K' e w' := by
 obtain ⟨⟨r, st', ρ', h1, h2, h3⟩, h4⟩ := h
 exact ⟨⟨r, st', ρ', h1, hK _ _ h2, h3⟩, h4⟩
def objsR (l l2 : List (Option AObj)) : Prop := l2.length = l.length ∧ ∀ (i : Nat) o2, l2[i]? = some (some o2) → ∃ o1, l[i]? = some (some o1) ∧ o1.isOwn = o2.isOwn ∧ ∀ ρ s w, ObjR ρ o1 s w → ObjR ρ o2 s w
theorem objsR.refl (l : List (Option AObj)) : objsR l l := ⟨rfl, fun i o h => ⟨o, h, rfl, fun _ _ _ h => h⟩⟩
def outR (K : AE → ASt → Prop) : AE → ASt → Prop := outK fun r l => ∃ l2, objsR l l2 ∧ K r (mkS l2)
theorem PostE.objs {β : Bs} {K : AE → ASt → Prop} {e : Ending} {w' : World} (h : PostE β (outR K) e w') : PostE β K e w' := by
 obtain ⟨⟨r, st', ρ', h1, ⟨l2, ⟨hlen, hobj⟩, hK⟩, hw, hwf, hfr, how, hfz⟩, hb⟩ := h
 have hn : (mkS l2).next = st'.next := by
  show l2.length = _
  rw [hlen]; simp [memL, upto_len]
 have hget : ∀ k o, (mkS l2).h.get k = some o → ∃ o1, st'.h.get k = some o1 ∧ o1.isOwn = o.isOwn ∧ ∀ ρ s w, ObjR ρ o1 s w → ObjR ρ o s w := by
  intro k o e
  rw [mkS_get] at e
  have e' : l2[k]? = some (some o) := by
   cases hq : l2[k]? with
   | none => rw [hq] at e; cases e
   | some u => rw [hq] at e; cases u with
    | none => cases e
    | some v => cases e; rfl
  obtain ⟨o1, h1, h2, h3⟩ := hobj k o e'
  exact ⟨o1, memL_get (by rw [mkS_get, h1]; rfl), h2, h3⟩
 have hown : ∀ b, Own (mkS l2).h.get ρ' b → Own st'.h.get ρ' b := fun b hb => by
  obtain ⟨k, o, t, e, e0, e2, e3⟩ := hb
  obtain ⟨o1, h1, h2, _⟩ := hget k o e
  exact ⟨k, o1, t, h1, by rw [h2]; exact e0, e2, e3⟩
 refine ⟨⟨r, mkS l2, ρ', h1, hK, ⟨hw.blk, fun k o e => ?_, fun x y oa ob sa sb ea eb eo ra rb va vb heq => ?_, fun b hb => ⟨(hw.fz b hb).1, fun hb2 => (hw.fz b hb).2 (hown b hb2)⟩⟩, fun k o e => ?_, by rw [hn]; exact hfr, fun b hb => how b (hown b hb), hfz⟩, hb⟩
 ·obtain ⟨o1, h1, _, h3⟩ := hget k o e
  obtain ⟨s, e1, e2⟩ := hw.obj k o1 h1
  exact ⟨s, e1, h3 _ _ _ e2⟩
 ·obtain ⟨oa', ea', qa, _⟩ := hget x oa ea
  obtain ⟨ob', eb', qb, _⟩ := hget y ob eb
  exact hw.inj x y oa' ob' sa sb ea' eb' (by rw [qa, qb]; exact eo) ra rb va vb heq
 ·rw [hn]
  obtain ⟨o1, h1, _⟩ := hget k o e
  exact hwf k o1 h1
theorem toldW_out {P : Program} {g : FuncId} {ts : List Ta} {a : Ans} (hm : P.follows .mixedOrders = true)
  (h : ∃ (C : Told) (fuel n : Nat) (un : Nat → Nat) (lvs : Nat → List Nat) (ex : Nat → Kt → Prop), ToldS P C ∧ ∀ β : Bs, β.X.length = (layA ts 0).2.length → lawE P C fuel n β un (cnOf (layA ts 0).2.length lvs) ex g (layA ts 0).1 (mkS ((layA ts 0).2.map some)) (outR (ansE a)))
  (w : World) (args' : Array Value) (F : Nat → Prop) (hF : ∀ b, F b → b < w.heap.size) (ha : PW (TaR w F) ts args'.toList) : Calls P g args' w fun e w' => AnsR w F a e w' := by
 obtain ⟨C, fuel, n, un, lvs, ex, hC, hl⟩ := h
 obtain ⟨S, s1, s2⟩ := layA_rel hF ha
 have hlen := (s1 0).len
 have hv := s2 S 0 (fun i s hs => by rw [Nat.zero_add]; exact hs)
 have hl' := hl ⟨w.heap.size, w, S, F, noW⟩ hlen
 rw [← hlen] at hl'
 refine (law_args (F := F) hm hC w hlen (fun k s o h1 h2 => ((s1 0).ok k s o h1 h2).1 _ _) (fun s hs hvd => ?_) (fun s hs b hb => ?_) hF hv hl').mono fun e w' he => he.objs.ans
 ·obtain ⟨i, hi⟩ := List.getElem?_of_mem hs
  have hil := (List.getElem?_eq_some_iff.1 hi).1
  exact ((s1 0).ok i s _ hi (List.getElem?_eq_getElem (by omega))).2.1 hvd
 ·obtain ⟨i, hi⟩ := List.getElem?_of_mem hs
  have hil := (List.getElem?_eq_some_iff.1 hi).1
  have := ((s1 0).ok i s _ hi (List.getElem?_eq_getElem (by omega))).2.2
  rw [this] at hb; exact hb
def atL (n k : Nat) (o : AObj) : List (Option AObj) := (List.replicate n none).set k (some o)
theorem atL_get {n k : Nat} {o : AObj} (h : k < n) : (mkS (atL n k o)).h.get k = some o := by
 rw [mkS_get]; simp [atL, h]
theorem outAt {l : List (Option AObj)} {k : Nat} {o1 o2 : AObj} (h : l[k]? = some (some o1)) (ho : o1.isOwn = o2.isOwn) (hr : ∀ ρ s w, ObjR ρ o1 s w → ObjR ρ o2 s w) : objsR l (atL l.length k o2) := by
 refine ⟨by simp [atL], fun i o e => ?_⟩
 unfold atL at e
 rw [List.getElem?_set] at e
 by_cases hk : k = i
 ·subst hk
  have hl := (List.getElem?_eq_some_iff.1 h).1
  simp [hl] at e
  subst e
  exact ⟨o1, h, ho, hr⟩
 ·rw [if_neg hk, List.getElem?_replicate] at e
  split at e <;> cases e
theorem own_at {α : Type} [Enc α] {L : List α} {N k n c c0 : Nat} (hk : k < N) (hn : n = L.length) (hc : n = 0 → c0 = c) : raE (mkS (atL N k (rowO .mine L))) (ownL L c) (.slice (some ⟨k, 0, some 0⟩) n c0) [k] := by
 subst hn
 exact .inr (.inl ⟨k, 0, 0, L.length, encL L, c0, rfl, rfl, hc, atL_get hk, Nat.le_refl _, by omega, fun i hi j hj => by rw [Nat.zero_add]⟩)
end Go.Proofs.Ytbkbimmelmoohaa.Ev
end
section
namespace Go.Proofs.Ytbkbimmelmoohaa.Ev
open Go Go.RowKit
def NnP (β : Bs) {α : Type} (I : α → Prop) (m : α → Nat) (F : α → AFr) (S : α → ASt) (p : α) (K : Kt) : Kt := fun x f st =>
 Nn β I m F S p K x f st ∨ ∃ v, x = .panic v ∧ ground 3 v = true ∧ ∃ f1 st1, Seen β f st f1 st1 ∧ K (.panic v) f1 st1
theorem loop_ruleP {P : Program} {β : Bs} {ex : Nat → Kt → Prop} {b : Nat} {c : Code} {α : Type} (I : α → Prop) (F : α → AFr) (S : α → ASt) (m : α → Nat)
  (h : ∀ p, I p → ∀ K, ex b K → J P β c (F p) (S p) (NnP β I m F S p K)) : ∀ p, I p → LoopJ P β ex b c (F p) (S p) := by
 intro p hp
 refine ⟨fun K hK Q ρ a w hr hpost => ?_⟩
 have fin : ∀ {x : AX} {f' : AFr} {st' : ASt} {ρ' : Rho} {e' : Exit} {a' : Act} {w' : World}, XR ρ' x e' → Rl β ρ' f' st' a' w' →
   ((x ≠ .normal ∧ (∀ v, x ≠ .panic v) ∧ ∃ f1 st1, Seen β f' st' f1 st1 ∧ K x f1 st1) ∨ ∃ v, x = .panic v ∧ ground 3 v = true ∧ ∃ f1 st1, Seen β f' st' f1 st1 ∧ K (.panic v) f1 st1) → x ≠ .normal ∧ Q e' a' w' := by
  intro x f' st' ρ' e' a' w' hxr hr' hx
  rcases hx with ⟨hne, hnp, f1, st1, hsn, hx⟩ | ⟨v, rfl, hg, f1, st1, hsn, hx⟩
  ·obtain ⟨ρ2, hr2⟩ := hsn ρ' a' w' hr'
   have hxr2 : XR ρ2 x e' := by cases x with | normal => exact hxr | exit i => exact hxr | ret => exact hxr | panic v => exact absurd rfl (hnp v)
   exact ⟨hne, hpost x f1 st1 ρ2 e' a' w' hx hxr2 hr2⟩
  ·obtain ⟨ρ2, hr2⟩ := hsn ρ' a' w' hr'
   refine ⟨by simp, hpost (.panic v) f1 st1 ρ2 e' a' w' hx ?_ hr2⟩
   obtain ⟨v', he', hv'⟩ := hxr
   have := VR.ground 3 hg hv'
   subst this
   exact ⟨v', he', VR.refl 3 hg⟩
 have key : ∀ (k : Nat) (p : α), m p ≤ k → I p → ∀ ρ a w, Rl β ρ (F p) (S p) a w → Code.rounds P c Q (k + 1) a w := by
  intro k
  induction k with
  | zero =>
   intro p hk hp ρ a w hr
   rw [rounds_succ]
   refine h p hp K hK _ ρ a w hr fun x f' st' ρ' e' a' w' hx hxr hr' => ?_
   rcases hx with (⟨rfl, p', _, h2, _⟩ | hx) | hx
   ·omega
   ·have := fin hxr hr' (.inl hx)
    cases x with
    | normal => exact absurd rfl this.1
    | exit i => cases hxr; exact this.2
    | ret => cases hxr; exact this.2
    | panic v => obtain ⟨v', rfl, _⟩ := hxr; exact this.2
   ·have := fin hxr hr' (.inr hx)
    cases x with
    | normal => exact absurd rfl this.1
    | exit i => cases hxr; exact this.2
    | ret => cases hxr; exact this.2
    | panic v => obtain ⟨v', rfl, _⟩ := hxr; exact this.2
  | succ k ih =>
   intro p hk hp ρ a w hr
   rw [rounds_succ]
   refine h p hp K hK _ ρ a w hr fun x f' st' ρ' e' a' w' hx hxr hr' => ?_
   rcases hx with (⟨rfl, p', h1, h2, h3⟩ | hx) | hx
   ·cases hxr; obtain ⟨ρ2, hr2⟩ := h3 ρ' a' w' hr'; exact ih p' (by omega) h1 ρ2 a' w' hr2
   ·have := fin hxr hr' (.inl hx)
    cases x with
    | normal => exact absurd rfl this.1
    | exit i => cases hxr; exact this.2
    | ret => cases hxr; exact this.2
    | panic v => obtain ⟨v', rfl, _⟩ := hxr; exact this.2
   ·have := fin hxr hr' (.inr hx)
    cases x with
    | normal => exact absurd rfl this.1
    | exit i => cases hxr; exact this.2
    | ret => cases hxr; exact this.2
    | panic v => obtain ⟨v', rfl, _⟩ := hxr; exact this.2
 exact wp_loop_rounds _ (key (m p) p (Nat.le_refl _) hp ρ a w hr)
theorem Seen.void {β : Bs} {f : AFr} {l : List (Option AObj)} (es : Nat) (e : Nat → Nat → Td) : Seen β f (mkS l) f (mkS (l ++ [some (.row .mine es 0 0 e)])) := by
 intro ρ a w hr
 have hfn : ρ l.length = none := hr.fresh _ (Nat.le_refl _)
 have m := Mv.rowVoid (w' := w) (es := es) (f := e) hr.wr hfn rfl rfl rfl rfl
 have hg : (mkS (l ++ [some (.row .mine es 0 0 e)])).h.get = upd (mkS l).h.get l.length (some (.row .mine es 0 0 e)) := by
  funext k
  rw [mkS_get]
  by_cases hk : k = l.length
  ·subst hk; rw [upd_same, List.getElem?_append_right (Nat.le_refl _)]; simp
  ·rw [upd_ne _ _ hk, mkS_get]
   rcases Nat.lt_or_ge k l.length with h1 | h1
   ·rw [List.getElem?_append_left h1]
   ·rw [List.getElem?_eq_none (by simp; omega), List.getElem?_eq_none h1]
 have hlo : LoS (mkS l) (mkS (l ++ [some (.row .mine es 0 0 e)])) := by
  refine ⟨by simp [mkS], Nat.le_refl _, fun x h1 _ => ?_, fun x o' e' => ?_⟩
  ·rw [hg]; exact upd_ne _ _ (by have : x < l.length := h1; omega)
  ·rw [hg] at e'
   by_cases hx : x = l.length
   ·exact .inr (by subst hx; simp [mkS])
   ·rw [upd_ne _ _ hx] at e'; exact .inl ⟨o', e'⟩
 have hnx : (mkS (l ++ [some (.row .mine es 0 0 e)])).next = (mkS l).next + 1 := by simp [mkS]
 exact ⟨_, hr.step hlo ⟨hr.fr.size, fun t v ht => by obtain ⟨v', h2, h3⟩ := hr.fr.tmp t v ht; exact ⟨v', h2, h3.mono m.ext⟩, hr.fr.defs.mono m.ext⟩ (by rw [hg, hnx]; exact m)⟩
theorem ObjR.nilCell {ρ : Rho} {s : Spot} {w : World} {cs : List Value} {ex : Bool} {es j k : Nat} (hj : cs[j]? = some (.slice none 0 0)) (h : ObjR ρ (.cells cs ex es) s w) : ObjR ρ (.cells (cs.set j (nilRow k)) ex es) s w := by
 obtain ⟨h0, h1, h2, C, t, fr, h3, h4, h5, h6, h7⟩ := h
 refine ⟨h0, h1, h2, C, t, fr, h3, h4, h5, by rw [List.length_set]; exact h6, fun i x hx => ?_⟩
 rw [List.getElem?_set] at hx
 by_cases hij : j = i
 ·subst hij
  have hl := (List.getElem?_eq_some_iff.1 hj).1
  simp [hl] at hx
  subst hx
  obtain ⟨y, hy, hv⟩ := h7 j _ hj
  cases hv
  exact ⟨_, hy, .sliceN _ _⟩
 ·rw [if_neg hij] at hx
  exact h7 i x hx
def roundP (P : Program) (C : Told) (fuel n : Nat) (β : Bs) (un : Nat → Nat) (cn : Nat → (AFr → ASt → Prop) → AFr → ASt → Prop) (ex : Nat → Kt → Prop) (g : FuncId) (b : Nat) (E : Nat) (lv : AX → List Nat) (f : AFr) (st : ASt) (N : Kt) : Prop :=
 codeJ P (funK P C fuel n) β un cn ex b (loopOf P g b) f st fun x f st => match x with
  | .panic v => cond (ground 3 v) (canonK E (lv (.panic v)) (N (.panic v)) f st) False
  | x => canonK E (lv x) (N x) f st
theorem roundP_ok {P : Program} {C : Told} {fuel n : Nat} (hm : P.follows .mixedOrders = true) (hC : ToldS P C) {β : Bs} {E : Nat} (hE : β.X.length = E) {un : Nat → Nat} {lvs : Nat → List Nat} {ex : Nat → Kt → Prop} {g : FuncId} {b : Nat} {lv : AX → List Nat} {f : AFr} {st : ASt} {N : Kt}
  (h : roundP P C fuel n β un (cnOf E lvs) ex g b E lv f st N) : J P β (loopOf P g b) f st fun x f st => N x f st := by
 have h1 := codeJ_ok (funK_ok P C fuel n) (evFunC_sound hm hC fuel n) hm (cnOf_ok β hE lvs) h
 intro Q ρ a w hr hp
 refine h1 Q ρ a w hr fun x f' st' ρ' e' a' w' hk hx hr' => ?_
 cases x with
 | panic v =>
  cases hg : ground 3 v with
  | false => simp only [hg] at hk; exact hk.elim
  | true =>
   simp only [hg, cond_true] at hk
   obtain ⟨ρ2, f2, st2, k1, k2⟩ := canonK_ok hk hE hr'
   refine hp _ f2 st2 ρ2 e' a' w' k1 ?_ k2
   obtain ⟨v', he, hv⟩ := hx
   have := VR.ground 3 hg hv
   subst this
   exact ⟨v', he, VR.refl 3 hg⟩
 | normal => obtain ⟨ρ2, f2, st2, k1, k2⟩ := canonK_ok hk hE hr'; exact hp _ f2 st2 ρ2 e' a' w' k1 hx k2
 | exit i => obtain ⟨ρ2, f2, st2, k1, k2⟩ := canonK_ok hk hE hr'; exact hp _ f2 st2 ρ2 e' a' w' k1 hx k2
 | ret => obtain ⟨ρ2, f2, st2, k1, k2⟩ := canonK_ok hk hE hr'; exact hp _ f2 st2 ρ2 e' a' w' k1 hx k2
end Go.Proofs.Ytbkbimmelmoohaa.Ev
end
