/-
  The search answers as the relation that it searches.
-/
import Derived.Test.YtjibiphgbhlhkaaQ22
import Derived.Test.YtjibiphgbhlhkaaQ23
import Derived.Test.YtjibiphgbhlhkaaQ26
set_option linter.unusedVariables false
set_option linter.unusedSimpArgs false
section
namespace Go.Proofs.Ytjibiphgbhlhkaa.Ev
open Go Go.Proofs Go.RowKit
theorem ba_eq (a b : ByteArray) : (a == b) = true ↔ a = b := by
 obtain ⟨x⟩ := a
 obtain ⟨y⟩ := b
 constructor
 ·intro h
  have : (x == y) = true := h
  rw [eq_of_beq this]
 ·intro h
  cases h
  show (x == x) = true
  simp
theorem keyB_s (a b : ByteArray) : keyB (.string a) (.string b) = (a == b) := rfl
theorem keyB_inv {k : ByteArray} {v : Value} (h : keyB (.string k) v = true) : v = .string k := by
 cases v with
 | string q =>
  have : (k == q) = true := h
  rw [(ba_eq _ _).1 this]
 | _ => cases h
theorem get_put (k k' : ByteArray) (z v : Value) : ∀ es : Es, getK (.string k) z (putK (.string k') v es) = cond (k == k') v (getK (.string k) z es)
 | [] => by
  show cond (keyB (.string k) (.string k')) v z = _
  rw [keyB_s]; rfl
 | p :: l => by
  have ih := get_put k k' z v l
  show getK _ _ (cond (keyB (.string k') p.1) ((.string k', v) :: l) (p :: putK (.string k') v l)) = cond _ v (cond (keyB (.string k) p.1) p.2 (getK (.string k) z l))
  cases h : keyB (.string k') p.1 with
  | true =>
   show cond (keyB (.string k) (.string k')) v (getK (.string k) z l) = _
   rw [keyB_inv h, keyB_s]
   cases k == k' <;> rfl
  | false =>
   show cond (keyB (.string k) p.1) p.2 (getK (.string k) z (putK (.string k') v l)) = _
   rw [ih]
   cases h2 : keyB (.string k) p.1 with
   | false => rfl
   | true =>
    have hp := keyB_inv h2
    rw [hp, keyB_s] at h
    have : (k == k') = false := by
     cases h3 : k == k' with
     | false => rfl
     | true => rw [(ba_eq _ _).1 h3, (ba_eq k' k').2 rfl] at h; cases h
    rw [this]; rfl
theorem seen_add (k k' : ByteArray) (es : Es) : seenB k (addS k' es) = ((k == k') || seenB k es) := by
 unfold seenB addS
 rw [get_put]
 cases k == k' <;> rfl
def gdV (v : Vl) : Prop := v.k = 2 ∧ v.f = 0 ∧ 0 ≤ v.i ∧ v.i < 256
theorem gdV_ext {v w : Vl} (hv : gdV v) (hw : gdV w) (h : v.i = w.i) : v = w := by
 obtain ⟨k, i, f⟩ := v
 obtain ⟨k', i', f'⟩ := w
 obtain ⟨a1, a2, a3, a4⟩ := hv
 obtain ⟨b1, b2, b3, b4⟩ := hw
 simp only at a1 a2 b1 b2 h
 subst a1 a2 b1 b2 h; rfl
theorem wrap_u8 {x : Int} (h0 : 0 ≤ x) (h1 : x < 256) : IntKind.wrap .u8 x = x := by
 obtain ⟨n, rfl⟩ := Int.eq_ofNat_of_zero_le h0
 have := wrap8 n
 rw [this, Nat.mod_eq_of_lt (by omega)]
theorem kyV_1 (v : Vl) : (kyV v)[1]? = some ⟨IntKind.wrap .u8 (Int.fdiv v.i 1)⟩ := rfl
theorem ky_len (a d : Int) (m : List Vl) : ∀ k, (kyL a d m k).length = 3 + 24 * k
 | 0 => rfl
 | k + 1 => by show (kyL a d m k ++ kyV _).length = _; rw [List.length_append, ky_len a d m k, kyV_len]; omega
theorem ky_inj {a d a' d' : Int} {m m' : List Vl} (ha : 0 ≤ a ∧ a < 256) (ha' : 0 ≤ a' ∧ a' < 256) (hd : 0 ≤ d ∧ d < 256) (hd' : 0 ≤ d' ∧ d' < 256) (hm : ∀ j, gdV (m.getD j ⟨2, 0, 0⟩)) (hm' : ∀ j, gdV (m'.getD j ⟨2, 0, 0⟩)) : ∀ k, k ≤ m.length → k ≤ m'.length → kyL a d m k = kyL a' d' m' k → a = a' ∧ d = d' ∧ ∀ j, j < k → m[j]? = m'[j]?
 | 0, _, _, h => by
  have h : ky0 a d = ky0 a' d' := h
  unfold ky0 at h
  simp only [List.cons.injEq, U8.mk.injEq, and_true] at h
  rw [wrap_u8 ha.1 ha.2, wrap_u8 ha'.1 ha'.2, wrap_u8 hd.1 hd.2, wrap_u8 hd'.1 hd'.2] at h
  exact ⟨h.1, h.2.1, fun j hj => absurd hj (Nat.not_lt_zero _)⟩
 | k + 1, h1, h2, h => by
  have h : kyL a d m k ++ kyV (m.getD k Enc.dflt) = kyL a' d' m' k ++ kyV (m'.getD k Enc.dflt) := h
  obtain ⟨e1, e2⟩ := List.append_inj h (by rw [ky_len, ky_len])
  obtain ⟨i1, i2, i3⟩ := ky_inj ha ha' hd hd' hm hm' k (by omega) (by omega) e1
  refine ⟨i1, i2, fun j hj => ?_⟩
  by_cases hjk : j = k
  ·subst hjk
   have e3 := congrArg (fun l : List U8 => l[1]?) e2
   simp only [kyV_1, Option.some.injEq, U8.mk.injEq, Int.fdiv_one] at e3
   have g1 := hm j
   have g2 := hm' j
   have hj1 : j < m.length := h1
   have hj2 : j < m'.length := h2
   have q1 : m.getD j Enc.dflt = m[j] := by simp [List.getD, hj1]
   have q2 : m'.getD j Enc.dflt = m'[j] := by simp [List.getD, hj2]
   have q3 : m.getD j ⟨2, 0, 0⟩ = m[j] := by simp [List.getD, hj1]
   have q4 : m'.getD j ⟨2, 0, 0⟩ = m'[j] := by simp [List.getD, hj2]
   rw [q1, q2] at e3
   rw [q3] at g1
   rw [q4] at g2
   rw [wrap_u8 g1.2.2.1 g1.2.2.2, wrap_u8 g2.2.2.1 g2.2.2.2] at e3
   rw [List.getElem?_eq_getElem h1, List.getElem?_eq_getElem h2, gdV_ext g1 g2 e3]
  ·exact i3 j (by omega)
theorem kyL_all (a d : Int) (m : List Vl) : ∀ k, (kyL a d m k).all (okA U8) = true := by
 have hk : ∀ x : Int, okA U8 ⟨IntKind.wrap .u8 x⟩ = true := fun x => by
  rw [okU_iff]
  have h : IntKind.wrap .u8 x = x % 256 := by
   simp [IntKind.wrap, IntKind.signed, IntKind.bits]
  show 0 ≤ IntKind.wrap .u8 x ∧ IntKind.wrap .u8 x < 256
  rw [h]; omega
 have h3 : ∀ (v : Vl) (d : Int), (ky3 v d).all (okA U8) = true := fun v d => by
  unfold ky3; simp only [List.all_cons, List.all_nil, hk, Bool.and_self]
 intro k
 induction k with
 | zero => show (ky0 a d).all _ = true; unfold ky0; simp only [List.all_cons, List.all_nil, hk, Bool.and_self]
 | succ k ih =>
  show (kyL a d m k ++ kyV _).all _ = true
  rw [List.all_append, ih]
  unfold kyV
  simp only [List.all_append, h3, Bool.and_self]
theorem keyS_inj {a d a' d' : Int} {m m' : List Vl} (ha : 0 ≤ a ∧ a < 256) (ha' : 0 ≤ a' ∧ a' < 256) (hd : 0 ≤ d ∧ d < 256) (hd' : 0 ≤ d' ∧ d' < 256) (hm : ∀ v ∈ m, gdV v) (hm' : ∀ v ∈ m', gdV v) (h : keyS a d m = keyS a' d' m') : a = a' ∧ d = d' ∧ m = m' := by
 unfold keyS at h
 have h := (strU_inj (kyL_all _ _ _ _) (kyL_all _ _ _ _)).1 h
 have hl := congrArg List.length h
 rw [ky_len, ky_len] at hl
 have hl : m.length = m'.length := by omega
 have gd : ∀ (n : List Vl), (∀ v ∈ n, gdV v) → ∀ j, gdV (n.getD j ⟨2, 0, 0⟩) := fun n hn j => by
  by_cases hj : j < n.length
  ·have : n.getD j ⟨2, 0, 0⟩ = n[j] := by simp [List.getD, hj]
   rw [this]; exact hn _ (List.getElem_mem _)
  ·simp only [List.getD, List.getElem?_eq_none (Nat.le_of_not_lt hj)]; exact ⟨rfl, rfl, by decide, by decide⟩
 rw [← hl] at h
 obtain ⟨h1, h2, h3⟩ := ky_inj ha ha' hd hd' (gd m hm) (gd m' hm') m.length (Nat.le_refl _) (by omega) h
 refine ⟨h1, h2, List.ext_getElem? fun j => ?_⟩
 by_cases hj : j < m.length
 ·exact h3 j hj
 ·rw [List.getElem?_eq_none (by omega), List.getElem?_eq_none (by omega)]
inductive Al (l : List Evt) (A : List Ask) : Int → Int → Bool → List Vl → Prop
 | fin {a d b m} : a = Int.ofNat l.length → Al l A a d b m
 | bnd {a d b m} : a < Int.ofNat l.length → (l.getD a.toNat Enc.dflt).k = 3 → Al l A (a + 1) d true (l.getD a.toNat Enc.dflt).m → Al l A a d b m
 | nxt {a d b m} : a < Int.ofNat l.length → (l.getD a.toNat Enc.dflt).k ≠ 3 → ((l.getD a.toNat Enc.dflt).k = 2 → Ev.blocked A a d A.length = false) → Al l A (a + 1) d b m → Al l A a d b m
 | plw {a d b m} (i : Nat) : i < A.length → elig A a d b i = true → (A.getD i Enc.dflt).ev.w = true → Al l A a (setB d i) b (Ev.nxt m (A.getD i Enc.dflt)) → Al l A a d b m
 | plr {a d b m} (i : Nat) : i < A.length → elig A a d b i = true → (A.getD i Enc.dflt).ev.w = false → samK m (A.getD i Enc.dflt) (A.getD i Enc.dflt).ev.a.length = true → Al l A a (setB d i) b m → Al l A a d b m
theorem orE_t {r : Bool × Es} {g : Es → Bool × Es} (h : (orE r g).1 = true) : r.1 = true ∨ (g r.2).1 = true := by
 unfold orE at h
 cases hr : r.1 with
 | true => exact .inl rfl
 | false => rw [hr] at h; exact .inr h
theorem orE_f {r : Bool × Es} {g : Es → Bool × Es} (h : (orE r g).1 = false) : r.1 = false ∧ (g r.2).1 = false ∧ (orE r g).2 = (g r.2).2 := by
 unfold orE at h ⊢
 cases hr : r.1 with
 | true => rw [hr] at h; cases h
 | false => rw [hr] at h; exact ⟨rfl, h, rfl⟩
theorem go_sound {l : List Evt} {A : List Ask} (f : Nat) : ∀ {a d : Int} {b : Bool} {m : List Vl} {es : Es}, 0 ≤ a → a ≤ Int.ofNat l.length → (goL l A f a d b m es).1 = true → Al l A a d b m := by
 induction f with
 | zero => intro a d b m es _ _ h; cases h
 | succ f ih =>
  intro a d b m es h0 h1 h
  have hF : goL l A (f + 1) a d b m es = cond (seenB (keyS a d m) es) (false, es) (orE (psL (goL l A f) l A a d b m (addS (keyS a d m) es)) (plL (goL l A f) A a d b m A.length 0)) := rfl
  rw [hF] at h
  cases hs : seenB (keyS a d m) es with
  | true => rw [hs] at h; cases h
  | false =>
   rw [hs, cond_false] at h
   rcases orE_t h with h | h
   ·unfold psL at h
    cases hend : a == Int.ofNat l.length with
    | true => exact .fin (by simpa using hend)
    | false =>
     rw [hend, cond_false] at h
     have hlt : a < Int.ofNat l.length := by
      have : a ≠ Int.ofNat l.length := by simpa using hend
      omega
     cases h3 : (l.getD a.toNat Enc.dflt).k == 3 with
     | true =>
      rw [h3, cond_true] at h
      exact .bnd hlt (by simpa using h3) (ih (by omega) (by omega) h)
     | false =>
      rw [h3, cond_false] at h
      cases h2 : (l.getD a.toNat Enc.dflt).k == 2 && Ev.blocked A a d A.length with
      | true => rw [h2, cond_true] at h; cases h
      | false =>
       rw [h2, cond_false] at h
       refine .nxt hlt (by simpa using h3) (fun hk => ?_) (ih (by omega) (by omega) h)
       rw [hk] at h2
       simpa using h2
   ·have key : ∀ (r i : Nat) (es : Es), i + r = A.length → (plL (goL l A f) A a d b m r i es).1 = true → Al l A a d b m := by
     intro r
     induction r with
     | zero => intro i es _ h; cases h
     | succ r ihr =>
      intro i es hi h
      unfold plL at h
      cases he : elig A a d b i with
      | false => rw [he, cond_false] at h; exact ihr (i + 1) es (by omega) h
      | true =>
       rw [he, cond_true] at h
       cases hw : (A.getD i Enc.dflt).ev.w with
       | true =>
        rw [hw, cond_true] at h
        rcases orE_t h with h | h
        ·exact .plw i (by omega) he hw (ih h0 h1 h)
        ·exact ihr (i + 1) _ (by omega) h
       | false =>
        rw [hw, cond_false] at h
        cases hsm : samK m (A.getD i Enc.dflt) (A.getD i Enc.dflt).ev.a.length with
        | true =>
         rw [hsm, cond_true] at h
         rcases orE_t h with h | h
         ·exact .plr i (by omega) he hw hsm (ih h0 h1 h)
         ·exact ihr (i + 1) _ (by omega) h
        | false => rw [hsm, cond_false] at h; exact ihr (i + 1) es (by omega) h
    exact key A.length 0 _ (by omega) h
structure GdH (l : List Evt) (A : List Ask) : Prop where
 hl : l.length ≤ 40
 hA : A.length ≤ 8
 first : 0 < l.length → (l.getD 0 Enc.dflt).k = 3
 mems : ∀ e ∈ l, ∀ v ∈ e.m, gdV v
 vals : ∀ x ∈ A, ∀ v ∈ x.vs, gdV v
structure GdS (l : List Evt) (a d : Int) (b : Bool) (m : List Vl) : Prop where
 a0 : 0 ≤ a
 a1 : a ≤ Int.ofNat l.length
 d0 : 0 ≤ d
 d1 : d < 256
 hb : b = decide (0 < a)
 hm : ∀ v ∈ m, gdV v
theorem GdS.bnd {l : List Evt} {A : List Ask} (hH : GdH l A) {a d : Int} {b : Bool} {m : List Vl} (h : GdS l a d b m) (hlt : a < Int.ofNat l.length) : GdS l (a + 1) d true (l.getD a.toNat Enc.dflt).m := by
 have h0 := h.a0
 refine ⟨by omega, by omega, h.d0, h.d1, ?_, hH.mems _ (getD_mem _ ?_)⟩
 ·rw [decide_eq_true (show (0 : Int) < a + 1 by omega)]
 ·have : a < (l.length : Int) := hlt
  omega
theorem GdS.nxt {l : List Evt} {A : List Ask} (hH : GdH l A) {a d : Int} {b : Bool} {m : List Vl} (h : GdS l a d b m) (hlt : a < Int.ofNat l.length) (h3 : (l.getD a.toNat Enc.dflt).k ≠ 3) : GdS l (a + 1) d b m := by
 have h0 := h.a0
 have hlt' : a < (l.length : Int) := hlt
 refine ⟨by omega, by omega, h.d0, h.d1, ?_, h.hm⟩
 have ha : 0 < a := by
  rcases Int.lt_or_eq_of_le h0 with h1 | h1
  ·exact h1
  ·subst h1
   exact absurd (hH.first (by omega)) h3
 rw [h.hb, decide_eq_true ha, decide_eq_true (show (0 : Int) < a + 1 by omega)]
theorem GdS.place {l : List Evt} {A : List Ask} (hH : GdH l A) {a d : Int} {b : Bool} {m m' : List Vl} (h : GdS l a d b m) {i : Nat} (hi : i < A.length) (hm : ∀ v ∈ m', gdV v) : GdS l a (setB d i) b m' := by
 have hA := hH.hA
 have hd := h.d1
 obtain ⟨e1, e2⟩ := setB_eq (i := i) h.d0 (by omega) (by omega)
 obtain ⟨D, hD⟩ := Int.eq_ofNat_of_zero_le h.d0
 subst hD
 rw [e1]
 refine ⟨h.a0, h.a1, Int.natCast_nonneg _, ?_, h.hb, hm⟩
 have h2 : 2 ^ i < 2 ^ 8 := Nat.pow_lt_pow_right (by omega) (by omega)
 have h3 : D ||| 2 ^ i < 2 ^ 8 := Nat.or_lt_two_pow (by omega) h2
 rw [Int.toNat_natCast]
 omega
theorem mu_pass {l : List Evt} {A : List Ask} {a d : Int} (h0 : 0 ≤ a) (hlt : a < Int.ofNat l.length) : muS l A (a + 1) d < muS l A a d := by
 have hlt' : a < (l.length : Int) := hlt
 have hc := cntU_le d A.length
 unfold muS
 have e : (l.length - a.toNat) * (A.length + 1) = (l.length - (a + 1).toNat) * (A.length + 1) + (A.length + 1) := by
  have : l.length - a.toNat = (l.length - (a + 1).toNat) + 1 := by omega
  rw [this, Nat.add_mul, Nat.one_mul]
 omega
theorem mu_place {l : List Evt} {A : List Ask} {a d : Int} {i : Nat} (h0 : 0 ≤ d) (h1 : d < 256) (hA : A.length ≤ 8) (hi : i < A.length) (hb : bitB d i = false) : muS l A a (setB d i) < muS l A a d := by
 have := cntU_set (n := A.length) h0 (by omega) (by omega) hi hb
 unfold muS
 omega
def InvE (l : List Evt) (A : List Ask) (es : Es) (μ : Nat) : Prop := ∀ a d b m, GdS l a d b m → seenB (keyS a d m) es = true → ¬ Al l A a d b m ∨ μ < muS l A a d
def ExtE (l : List Evt) (A : List Ask) (es es' : Es) : Prop := ∀ a d b m, GdS l a d b m → seenB (keyS a d m) es' = true → seenB (keyS a d m) es = true ∨ ¬ Al l A a d b m
theorem ExtE.refl (l : List Evt) (A : List Ask) (es : Es) : ExtE l A es es := fun a d b m _ h => .inl h
theorem ExtE.trans {l : List Evt} {A : List Ask} {e1 e2 e3 : Es} (h : ExtE l A e1 e2) (k : ExtE l A e2 e3) : ExtE l A e1 e3 := fun a d b m hg hs => by
 rcases k a d b m hg hs with h1 | h1
 ·exact h a d b m hg h1
 ·exact .inr h1
theorem InvE.ext {l : List Evt} {A : List Ask} {e1 e2 : Es} {μ : Nat} (h : InvE l A e1 μ) (k : ExtE l A e1 e2) : InvE l A e2 μ := fun a d b m hg hs => by
 rcases k a d b m hg hs with h1 | h1
 ·exact h a d b m hg h1
 ·exact .inl h1
theorem GdS.eq {l : List Evt} {a d a' d' : Int} {b b' : Bool} {m m' : List Vl} (hl : l.length ≤ 40) (h : GdS l a d b m) (h' : GdS l a' d' b' m') (hk : keyS a d m = keyS a' d' m') : a = a' ∧ d = d' ∧ b = b' ∧ m = m' := by
 have q1 : a ≤ (l.length : Int) := h.a1
 have q2 : a' ≤ (l.length : Int) := h'.a1
 obtain ⟨h1, h2, h3⟩ := keyS_inj ⟨h.a0, by omega⟩ ⟨h'.a0, by omega⟩ ⟨h.d0, h.d1⟩ ⟨h'.d0, h'.d1⟩ h.hm h'.hm hk
 refine ⟨h1, h2, ?_, h3⟩
 rw [h.hb, h'.hb, h1]
theorem elig_bit {A : List Ask} {a d : Int} {b : Bool} {i : Nat} (h : elig A a d b i = true) : bitB d i = false := by
 unfold elig at h
 simp only [Bool.and_eq_true, Bool.not_eq_true'] at h
 exact h.2.1
theorem dr1_gd {w : Wr} (hx : ∀ u ∈ w.v, gdV u) {m : List Vl} (hm : ∀ u ∈ m, gdV u) (k : Nat) : ∀ u ∈ dr1 w m k, gdV u := by
 intro u hu
 unfold dr1 at hu
 split at hu
 ·rename_i h
  rcases List.mem_or_eq_of_mem_set hu with h1 | h1
  ·exact hm u h1
  ·rw [h1]; exact hx _ (getD_mem _ h.2.2)
 ·exact hm u hu
theorem drW_gd {w : Wr} (hx : ∀ u ∈ w.v, gdV u) {m : List Vl} (hm : ∀ u ∈ m, gdV u) : ∀ k : Nat, ∀ u ∈ drW w m k, gdV u
 | 0 => hm
 | k + 1 => dr1_gd hx (drW_gd hx hm k) k
theorem nxt_gd {x : Ask} (hx : ∀ u ∈ x.vs, gdV u) {m : List Vl} (hm : ∀ u ∈ m, gdV u) : ∀ u ∈ Ev.nxt m x, gdV u := drW_gd (w := wrO x) hx hm _
theorem go_compl {l : List Evt} {A : List Ask} (hH : GdH l A) (f : Nat) : ∀ {a d : Int} {b : Bool} {m : List Vl} {es : Es}, GdS l a d b m → muS l A a d < f → InvE l A es (muS l A a d) → (goL l A f a d b m es).1 = false → ¬ Al l A a d b m ∧ ExtE l A es (goL l A f a d b m es).2 := by
 induction f with
 | zero => intro a d b m es _ h; exact absurd h (Nat.not_lt_zero _)
 | succ f ih =>
  intro a d b m es hg hmu hI h
  have hF : goL l A (f + 1) a d b m es = cond (seenB (keyS a d m) es) (false, es) (orE (psL (goL l A f) l A a d b m (addS (keyS a d m) es)) (plL (goL l A f) A a d b m A.length 0)) := rfl
  rw [hF] at h ⊢
  cases hs : seenB (keyS a d m) es with
  | true =>
   refine ⟨?_, ExtE.refl _ _ _⟩
   rcases hI a d b m hg hs with h1 | h1
   ·exact h1
   ·exact absurd h1 (Nat.lt_irrefl _)
  | false =>
   rw [hs, cond_false] at h
   rw [cond_false]
   obtain ⟨f1, f2, f3⟩ := orE_f h
   have hI1 : ∀ μ, μ < muS l A a d → InvE l A (addS (keyS a d m) es) μ := fun μ hμ a' d' b' m' hg' hs' => by
    rw [seen_add, Bool.or_eq_true] at hs'
    rcases hs' with h1 | h1
    ·have := (ba_eq _ _).1 h1
     obtain ⟨e1, e2, e3, e4⟩ := GdS.eq hH.hl hg' hg this
     subst e1 e2 e3 e4
     exact .inr hμ
    ·rcases hI a' d' b' m' hg' h1 with h2 | h2
     ·exact .inl h2
     ·exact .inr (by omega)
   generalize hes1 : addS (keyS a d m) es = es1 at hI1 f1 f2 f3 ⊢
   have ha1 := hg.a1
   have hps : (a ≠ Int.ofNat l.length ∧ ((l.getD a.toNat Enc.dflt).k = 3 → ¬ Al l A (a + 1) d true (l.getD a.toNat Enc.dflt).m) ∧ ((l.getD a.toNat Enc.dflt).k ≠ 3 → ((l.getD a.toNat Enc.dflt).k = 2 → Ev.blocked A a d A.length = false) → ¬ Al l A (a + 1) d b m)) ∧ ExtE l A es1 (psL (goL l A f) l A a d b m es1).2 := by
    revert f1
    unfold psL
    cases hend : a == Int.ofNat l.length with
    | true => intro f1; cases f1
    | false =>
     have hne : a ≠ Int.ofNat l.length := by simpa using hend
     have hlt : a < Int.ofNat l.length := by omega
     have hμ := mu_pass (A := A) (d := d) hg.a0 hlt
     rw [cond_false]
     cases h3 : (l.getD a.toNat Enc.dflt).k == 3 with
     | true =>
      have h3' : (l.getD a.toNat Enc.dflt).k = 3 := by simpa using h3
      intro f1
      obtain ⟨r1, r2⟩ := ih (hg.bnd hH hlt) (by omega) (hI1 _ hμ) f1
      exact ⟨⟨hne, fun _ => r1, fun hk => absurd h3' hk⟩, r2⟩
     | false =>
      have h3' : (l.getD a.toNat Enc.dflt).k ≠ 3 := by simpa using h3
      rw [cond_false]
      cases h2 : (l.getD a.toNat Enc.dflt).k == 2 && Ev.blocked A a d A.length with
      | true =>
       intro _
       rw [Bool.and_eq_true] at h2
       refine ⟨⟨hne, fun hk => absurd hk h3', fun _ hb => ?_⟩, ExtE.refl _ _ _⟩
       rw [hb (by simpa using h2.1)] at h2
       cases h2.2
      | false =>
       intro f1
       obtain ⟨r1, r2⟩ := ih (hg.nxt hH hlt h3') (by omega) (hI1 _ hμ) f1
       exact ⟨⟨hne, fun hk => absurd hk h3', fun _ _ => r1⟩, r2⟩
   obtain ⟨⟨p1, p2, p3⟩, p4⟩ := hps
   have hpl : ∀ (r i : Nat) (e2 : Es), i + r = A.length → (∀ μ, μ < muS l A a d → InvE l A e2 μ) → (plL (goL l A f) A a d b m r i e2).1 = false →
     (∀ j, i ≤ j → j < A.length → elig A a d b j = true → ((A.getD j Enc.dflt).ev.w = true → ¬ Al l A a (setB d j) b (Ev.nxt m (A.getD j Enc.dflt))) ∧ ((A.getD j Enc.dflt).ev.w = false → samK m (A.getD j Enc.dflt) (A.getD j Enc.dflt).ev.a.length = true → ¬ Al l A a (setB d j) b m)) ∧ ExtE l A e2 (plL (goL l A f) A a d b m r i e2).2 := by
    intro r
    induction r with
    | zero => intro i e2 hi _ _; exact ⟨fun j h1 h2 => by omega, ExtE.refl _ _ _⟩
    | succ r ihr =>
     intro i e2 hi hI2
     have hiA : i < A.length := by omega
     unfold plL
     have split : ∀ j, i ≤ j → j = i ∨ i + 1 ≤ j := fun j hj => by omega
     cases he : elig A a d b i with
     | false =>
      rw [cond_false]
      intro h
      obtain ⟨r1, r2⟩ := ihr (i + 1) e2 (by omega) hI2 h
      refine ⟨fun j h1 h2 h3 => ?_, r2⟩
      rcases split j h1 with rfl | h4
      ·rw [he] at h3; cases h3
      ·exact r1 j h4 h2 h3
     | true =>
      rw [cond_true]
      have hbit := elig_bit he
      have hμ := mu_place (l := l) (a := a) hg.d0 hg.d1 hH.hA hiA hbit
      cases hw : (A.getD i Enc.dflt).ev.w with
      | true =>
       rw [cond_true]
       intro h
       obtain ⟨g1, g2, g3⟩ := orE_f h
       rw [g3]
       obtain ⟨s1, s2⟩ := ih (hg.place hH hiA (nxt_gd (hH.vals _ (getD_mem _ hiA)) hg.hm)) (by omega) (hI2 _ hμ) g1
       obtain ⟨r1, r2⟩ := ihr (i + 1) _ (by omega) (fun μ hμ => (hI2 μ hμ).ext s2) g2
       refine ⟨fun j h1 h2 h3 => ?_, s2.trans r2⟩
       rcases split j h1 with rfl | h4
       ·exact ⟨fun _ => s1, fun hw' => absurd (hw.symm.trans hw') (by decide)⟩
       ·exact r1 j h4 h2 h3
      | false =>
       rw [cond_false]
       cases hsm : samK m (A.getD i Enc.dflt) (A.getD i Enc.dflt).ev.a.length with
       | true =>
        rw [cond_true]
        intro h
        obtain ⟨g1, g2, g3⟩ := orE_f h
        rw [g3]
        obtain ⟨s1, s2⟩ := ih (hg.place hH hiA hg.hm) (by omega) (hI2 _ hμ) g1
        obtain ⟨r1, r2⟩ := ihr (i + 1) _ (by omega) (fun μ hμ => (hI2 μ hμ).ext s2) g2
        refine ⟨fun j h1 h2 h3 => ?_, s2.trans r2⟩
        rcases split j h1 with rfl | h4
        ·exact ⟨fun hw' => absurd (hw.symm.trans hw') (by decide), fun _ _ => s1⟩
        ·exact r1 j h4 h2 h3
       | false =>
        rw [cond_false]
        intro h
        obtain ⟨r1, r2⟩ := ihr (i + 1) e2 (by omega) hI2 h
        refine ⟨fun j h1 h2 h3 => ?_, r2⟩
        rcases split j h1 with rfl | h4
        ·exact ⟨fun hw' => absurd (hw.symm.trans hw') (by decide), fun _ hs' => absurd (hsm.symm.trans hs') (by decide)⟩
        ·exact r1 j h4 h2 h3
   obtain ⟨t1, t2⟩ := hpl A.length 0 _ (by omega) (fun μ hμ => (hI1 μ hμ).ext p4) f2
   have hdead : ¬ Al l A a d b m := by
    intro hAl
    cases hAl with
    | fin he => exact p1 he
    | bnd hlt h3 hn => exact p2 h3 hn
    | nxt hlt h3 hb hn => exact p3 h3 hb hn
    | plw i hi he hw hn => exact (t1 i (Nat.zero_le _) hi he).1 hw hn
    | plr i hi he hw hsm hn => exact (t1 i (Nat.zero_le _) hi he).2 hw hsm hn
   refine ⟨hdead, ?_⟩
   rw [f3]
   intro a' d' b' m' hg' hs'
   rcases (p4.trans t2) a' d' b' m' hg' hs' with h1 | h1
   ·rw [← hes1, seen_add, Bool.or_eq_true] at h1
    rcases h1 with h2 | h2
    ·obtain ⟨e1, e2, e3, e4⟩ := GdS.eq hH.hl hg' hg ((ba_eq _ _).1 h2)
     subst e1 e2 e3 e4
     exact .inr hdead
    ·exact .inl h2
   ·exact .inr h1
theorem go_iff {l : List Evt} {A : List Ask} (hH : GdH l A) {f : Nat} (hf : muS l A 0 0 < f) : (goL l A f 0 0 false [] []).1 = true ↔ Al l A 0 0 false [] := by
 have hg : GdS l 0 0 false [] := ⟨Int.le_refl _, by simp, Int.le_refl _, by decide, rfl, fun v hv => by cases hv⟩
 constructor
 ·exact go_sound f (Int.le_refl _) (by simp)
 ·intro h
  cases hq : (goL l A f 0 0 false [] []).1 with
  | true => rfl
  | false => exact absurd h (go_compl hH f hg hf (fun a d b m _ hs => by cases hs) hq).1
end Go.Proofs.Ytjibiphgbhlhkaa.Ev
end
section
namespace Go.Proofs.Ytjibiphgbhlhkaa.Ev
open Go Go.Proofs Go.RowKit
def kEq (y x : Evt) : Bool := y.s == x.s && y.i == x.i
theorem kEq_iff (y x : Evt) : kEq y x = true ↔ y.s = x.s ∧ y.i = x.i := by
 unfold kEq; simp
theorem kEq_symm {y x : Evt} (h : kEq y x = true) : kEq x y = true := by
 rw [kEq_iff] at h ⊢; exact ⟨h.1.symm, h.2.symm⟩
theorem kEq_trans {x y z : Evt} (h : kEq x y = true) (k : kEq y z = true) : kEq x z = true := by
 rw [kEq_iff] at h k ⊢; exact ⟨h.1.trans k.1, h.2.trans k.2⟩
theorem keyB_e (y x : Evt) : keyB (keyE y) (keyE x) = kEq y x := by
 show (y.s == x.s && (y.i == x.i && true)) = _
 rw [Bool.and_true]; rfl
def esF : Nat → List Evt → Es
 | _, [] => []
 | o, x :: L => (keyE x, .int .i64 (Int.ofNat o)) :: esF (o + 1) L
theorem has_esF (y : Evt) : ∀ (L : List Evt) (o : Nat), hasE y (esF o L) = L.any (kEq y)
 | [], o => rfl
 | x :: L, o => by
  show (keyB (keyE y) (keyE x) || hasK (keyE y) (esF (o + 1) L)) = (kEq y x || L.any (kEq y))
  rw [keyB_e]
  have := has_esF y L (o + 1)
  unfold hasE at this
  rw [this]
theorem get_esF (y : Evt) : ∀ (L : List Evt) (o idx : Nat) (x : Evt), L[idx]? = some x → kEq y x = true → (∀ j x', j < idx → L[j]? = some x' → kEq y x' = false) → intE y (esF o L) = Int.ofNat (o + idx)
 | [], o, idx, x, h, _, _ => by simp at h
 | x0 :: L, o, 0, x, h, hk, _ => by
  simp only [List.getElem?_cons_zero, Option.some.injEq] at h
  subst h
  show intV (cond (keyB (keyE y) (keyE x0)) (.int .i64 (Int.ofNat o)) _) = _
  rw [keyB_e, hk]; rfl
 | x0 :: L, o, idx + 1, x, h, hk, hn => by
  have h0 := hn 0 x0 (by omega) rfl
  show intV (cond (keyB (keyE y) (keyE x0)) (.int .i64 (Int.ofNat o)) (getK (keyE y) (.int .i64 0) (esF (o + 1) L))) = _
  rw [keyB_e, h0]
  have := get_esF y L (o + 1) idx x (by simpa using h) hk (fun j x' hj hx => hn (j + 1) x' (by omega) (by simpa using hx))
  unfold intE at this
  rw [show o + (idx + 1) = o + 1 + idx by omega]
  exact this
theorem esF_app (y : Evt) : ∀ (L : List Evt) (o : Nat), esF o (L ++ [y]) = esF o L ++ [(keyE y, .int .i64 (Int.ofNat (o + L.length)))]
 | [], o => rfl
 | x :: L, o => by
  show _ :: esF (o + 1) (L ++ [y]) = _ :: (esF (o + 1) L ++ _)
  rw [esF_app y L (o + 1), List.length_cons, show o + 1 + L.length = o + (L.length + 1) by omega]
theorem put_esF (y : Evt) (v : Value) : ∀ (L : List Evt) (o : Nat), L.any (kEq y) = false → putK (keyE y) v (esF o L) = esF o L ++ [(keyE y, v)]
 | [], o, _ => rfl
 | x :: L, o, h => by
  rw [List.any_cons, Bool.or_eq_false_iff] at h
  show cond (keyB (keyE y) (keyE x)) _ _ = _
  rw [keyB_e, h.1, cond_false, put_esF y v L (o + 1) h.2]
  rfl
def ev (H : List Evt) (q : Nat) : Evt := H.getD q Enc.dflt
def nA (H : List Evt) (j : Nat) : List Nat := (List.range j).filter fun q => (ev H q).k == 1
def ansT (H : List Evt) (j q : Nat) : Option Nat := (List.range j).find? fun t => (ev H t).k == 2 && kEq (ev H t) (ev H q)
def askT (H : List Evt) (n : Nat) (q : Nat) (t : Option Nat) : Ask := match t with
 | some t => tldE (askE (ev H q) q n) (ev H t) t
 | none => askE (ev H q) q n
structure WfH (H : List Evt) : Prop where
 len : H.length ≤ 40
 kind : ∀ q, q < H.length → (ev H q).k = 1 ∨ (ev H q).k = 2 ∨ (ev H q).k = 3
 n8 : (nA H H.length).length ≤ 8
 uniq : ∀ q q', q < q' → q' < H.length → (ev H q).k = 1 → (ev H q').k = 1 → kEq (ev H q') (ev H q) = false
 ans : ∀ t, t < H.length → (ev H t).k = 2 → ∃ q, q < t ∧ (ev H q).k = 1 ∧ kEq (ev H t) (ev H q) = true
 once : ∀ t t', t < t' → t' < H.length → (ev H t).k = 2 → (ev H t').k = 2 → kEq (ev H t') (ev H t) = false
 cells : ∀ q q', q < H.length → q' < H.length → (ev H q).k = 3 → (ev H q').k = 3 → (ev H q).m.length = (ev H q').m.length
theorem nA_mem {H : List Evt} {j q : Nat} : q ∈ nA H j ↔ q < j ∧ (ev H q).k = 1 := by
 unfold nA
 rw [List.mem_filter, List.mem_range]; simp
theorem nA_succ (H : List Evt) (j : Nat) : nA H (j + 1) = nA H j ++ (cond ((ev H j).k == 1) [j] []) := by
 unfold nA
 rw [List.range_succ, List.filter_append]
 cases h : (ev H j).k == 1 with
 | true => simp [h]
 | false => simp [h]
theorem ansT_succ (H : List Evt) (j q : Nat) : ansT H (j + 1) q = match ansT H j q with
  | some t => some t
  | none => cond ((ev H j).k == 2 && kEq (ev H j) (ev H q)) (some j) none := by
 unfold ansT
 rw [List.range_succ, List.find?_append]
 cases (List.range j).find? fun t => (ev H t).k == 2 && kEq (ev H t) (ev H q) with
 | some t => rfl
 | none =>
  rw [Option.none_or, List.find?_cons]
  cases (ev H j).k == 2 && kEq (ev H j) (ev H q) <;> rfl
theorem nA_get_lt {H : List Evt} {j i : Nat} {q : Nat} (h : (nA H j)[i]? = some q) : q < j ∧ (ev H q).k = 1 := nA_mem.1 (List.mem_of_getElem? h)
theorem nA_sorted (H : List Evt) : ∀ j i i' q q' : Nat, i < i' → (nA H j)[i]? = some q → (nA H j)[i']? = some q' → q < q'
 | 0, i, i', q, q', _, h, _ => by simp [nA] at h
 | j + 1, i, i', q, q', hi, h, h' => by
  rw [nA_succ] at h h'
  cases hk : (ev H j).k == 1 with
  | false =>
   rw [hk, cond_false, List.append_nil] at h h'
   exact nA_sorted H j i i' q q' hi h h'
  | true =>
   rw [hk, cond_true] at h h'
   have hi' : i' < (nA H j ++ [j]).length := (List.getElem?_eq_some_iff.1 h').1
   rw [List.length_append, List.length_singleton] at hi'
   rcases Nat.lt_or_ge i' (nA H j).length with h1 | h1
   ·rw [List.getElem?_append_left h1] at h'
    rw [List.getElem?_append_left (by omega)] at h
    exact nA_sorted H j i i' q q' hi h h'
   ·have e : i' = (nA H j).length := by omega
    subst e
    rw [List.getElem?_append_right (Nat.le_refl _), Nat.sub_self] at h'
    rw [List.getElem?_append_left hi] at h
    have : j = q' := by simpa using h'
    subst this
    exact (nA_get_lt h).1
theorem nA_len (H : List Evt) (j : Nat) : ∀ d, (nA H j).length ≤ (nA H (j + d)).length
 | 0 => Nat.le_refl _
 | d + 1 => by
  have := nA_len H j d
  rw [show j + (d + 1) = (j + d) + 1 by omega, nA_succ, List.length_append]
  omega
theorem ansT_lt {H : List Evt} {j q t : Nat} (h : ansT H j q = some t) : t < j ∧ (ev H t).k = 2 ∧ kEq (ev H t) (ev H q) = true := by
 unfold ansT at h
 have h1 := List.find?_some h
 have h2 := List.mem_of_find?_eq_some h
 rw [Bool.and_eq_true] at h1
 exact ⟨List.mem_range.1 h2, by simpa using h1.1, h1.2⟩
theorem key_uniq {H : List Evt} (hW : WfH H) {q q' : Nat} (hq : q < H.length) (hq' : q' < H.length) (h : (ev H q).k = 1) (h' : (ev H q').k = 1) (hk : kEq (ev H q) (ev H q') = true) : q = q' := by
 rcases Nat.lt_trichotomy q q' with h1 | h1 | h1
 ·have := hW.uniq q q' h1 hq' h h'
  rw [kEq_symm hk] at this; cases this
 ·exact h1
 ·have := hW.uniq q' q h1 hq h' h
  rw [hk] at this; cases this
structure RdI (H : List Evt) (j : Nat) : Prop where
 A : (rdK H j).1 = (nA H j).map fun q => askT H H.length q (ansT H j q)
 es : (rdK H j).2.1 = esF 0 ((nA H j).map (ev H))
 N : (rdK H j).2.2 = -1 ∨ ∃ q, q < H.length ∧ (ev H q).k = 3 ∧ (rdK H j).2.2 = Int.ofNat (ev H q).m.length
theorem rd_step {H : List Evt} (hW : WfH H) {j : Nat} (hj : j < H.length) (hI : RdI H j) : rdG H (rdK H j) j = true ∧ RdI H (j + 1) := by
 obtain ⟨hA, hes, hN⟩ := hI
 have hst : rdK H (j + 1) = rdS H (rdK H j) j := rfl
 have hx : H.getD j Enc.dflt = ev H j := rfl
 have hlen := nA_len H (j + 1) (H.length - (j + 1))
 rw [show j + 1 + (H.length - (j + 1)) = H.length by omega] at hlen
 have h8 := hW.n8
 rcases hW.kind j hj with hk | hk | hk
 ·-- one that asks
  have b3 : ((ev H j).k == 3) = false := by rw [hk]; rfl
  have b2 : ((ev H j).k == 2) = false := by rw [hk]; rfl
  have b1 : ((ev H j).k == 1) = true := by rw [hk]; rfl
  have hno : ((nA H j).map (ev H)).any (kEq (ev H j)) = false := by
   rw [List.any_map, List.any_eq_false]
   intro q hq
   obtain ⟨q1, q2⟩ := nA_mem.1 hq
   have := hW.uniq q j q1 hj q2 hk
   show ¬ kEq (ev H j) (ev H q) = true
   rw [this]; decide
  have hnone : ansT H (j + 1) j = none := by
   cases h : ansT H (j + 1) j with
   | none => rfl
   | some t =>
    obtain ⟨t1, t2, t3⟩ := ansT_lt h
    have htj : t < j := by
     rcases Nat.lt_or_ge t j with h1 | h1
     ·exact h1
     ·have : t = j := by omega
      subst this; rw [hk] at t2; cases t2
    obtain ⟨q, q1, q2, q3⟩ := hW.ans t (by omega) t2
    have := key_uniq hW (by omega) hj q2 hk (kEq_trans (kEq_symm q3) t3)
    omega
  have hsame : ∀ q, ansT H (j + 1) q = ansT H j q := fun q => by
   rw [ansT_succ, b2]
   cases ansT H j q <;> rfl
  have hnA : nA H (j + 1) = nA H j ++ [j] := by rw [nA_succ, b1]; rfl
  rw [hnA, List.length_append, List.length_singleton] at hlen
  refine ⟨?_, ?_, ?_, ?_⟩
  ·unfold rdG
   rw [hx, b3, cond_false, b1, cond_true, hes, has_esF, hno, hA, List.length_map]
   have : Nat.blt (nA H j).length 8 = true := by simp; omega
   rw [this]; rfl
  ·rw [hst]; unfold rdS
   rw [hx, b3, cond_false, b1, cond_true, hnA, List.map_append]
   show (rdK H j).1 ++ [askE (ev H j) (j : Int) (H.length : Int)] = _
   rw [hA]
   congr 1
   ·exact List.map_congr_left fun q _ => by rw [hsame]
   ·show _ = [askT H H.length j (ansT H (j + 1) j)]
    rw [hnone]; rfl
  ·rw [hst]; unfold rdS
   rw [hx, b3, cond_false, b1, cond_true, hnA, List.map_append]
   show putK (keyE (ev H j)) (.int .i64 (Int.ofNat (rdK H j).1.length)) (rdK H j).2.1 = _
   rw [hes, put_esF _ _ _ _ hno]
   have := esF_app (ev H j) ((nA H j).map (ev H)) 0
   show _ = esF 0 ((nA H j).map (ev H) ++ [ev H j])
   rw [this, hA, List.length_map, List.length_map, Nat.zero_add]
  ·rw [hst]; unfold rdS
   rw [hx, b3, cond_false, b1, cond_true]
   exact hN
 ·-- an answer
  have b3 : ((ev H j).k == 3) = false := by rw [hk]; rfl
  have b2 : ((ev H j).k == 2) = true := by rw [hk]; rfl
  have b1 : ((ev H j).k == 1) = false := by rw [hk]; rfl
  obtain ⟨q, q1, q2, q3⟩ := hW.ans j hj hk
  have hmem : q ∈ nA H j := nA_mem.2 ⟨q1, q2⟩
  obtain ⟨i, hi, hiq⟩ := List.getElem_of_mem hmem
  have hiq' : (nA H j)[i]? = some q := by rw [List.getElem?_eq_getElem hi, hiq]
  have hint : intE (ev H j) (rdK H j).2.1 = Int.ofNat i := by
   rw [hes]
   have := get_esF (ev H j) ((nA H j).map (ev H)) 0 i (ev H q) (by rw [List.getElem?_map, hiq']; rfl) q3 (fun i' x' hi' hx' => by
    rw [List.getElem?_map] at hx'
    cases hq' : (nA H j)[i']? with
    | none => rw [hq'] at hx'; cases hx'
    | some q' =>
     rw [hq'] at hx'
     cases hx'
     obtain ⟨r1, r2⟩ := nA_get_lt hq'
     cases hkk : kEq (ev H j) (ev H q') with
     | false => rfl
     | true =>
      have hqq := nA_sorted H j i' i q' q hi' hq' hiq'
      have := key_uniq hW (by omega) (by omega) r2 q2 (kEq_trans (kEq_symm hkk) q3)
      omega)
   rw [Nat.zero_add] at this
   exact this
  have hnone : ansT H j q = none := by
   cases h : ansT H j q with
   | none => rfl
   | some t =>
    obtain ⟨t1, t2, t3⟩ := ansT_lt h
    have := hW.once t j t1 hj t2 hk
    rw [kEq_trans q3 (kEq_symm t3)] at this
    cases this
  have hnA : nA H (j + 1) = nA H j := by rw [nA_succ, b1]; exact List.append_nil _
  have hat : (rdK H j).1.getD i Enc.dflt = askE (ev H q) (q : Int) (H.length : Int) := by
   rw [hA]
   simp only [List.getD, List.getElem?_map, hiq', Option.map_some, Option.getD_some, hnone]
   rfl
  have hil : i < (rdK H j).1.length := by rw [hA, List.length_map]; exact hi
  have hhas : hasE (ev H j) (rdK H j).2.1 = true := by
   rw [hes, has_esF, List.any_map, List.any_eq_true]
   exact ⟨q, hmem, q3⟩
  refine ⟨?_, ?_, ?_, ?_⟩
  ·unfold rdG
   rw [hx, b3, cond_false, b1, cond_false, b2, hhas, hint]
   have e1 : decide (0 ≤ Int.ofNat i) = true := by simp
   have e2 : (Int.ofNat i).toNat = i := rfl
   have e3 : Nat.blt i (rdK H j).1.length = true := by simpa using hil
   rw [e1, e2, e3, hat]
   show (!decide ((H.length : Int) < Int.ofNat H.length)) = true
   simp
  ·rw [hst]; unfold rdS
   rw [hx, b3, cond_false, b1, cond_false, hnA]
   show (rdK H j).1.set (intE (ev H j) (rdK H j).2.1).toNat (tldE ((rdK H j).1.getD (intE (ev H j) (rdK H j).2.1).toNat Enc.dflt) (ev H j) j) = _
   rw [hint]
   show (rdK H j).1.set i (tldE ((rdK H j).1.getD i Enc.dflt) (ev H j) j) = _
   rw [hat, hA]
   apply List.ext_getElem?
   intro i'
   rw [List.getElem?_set, List.getElem?_map, List.getElem?_map, List.length_map]
   by_cases hii : i = i'
   ·subst hii
    rw [if_pos rfl, if_pos hi, hiq', Option.map_some, ansT_succ, hnone]
    show some _ = some (askT H H.length q (cond ((ev H j).k == 2 && kEq (ev H j) (ev H q)) (some j) none))
    rw [b2, q3]; rfl
   ·rw [if_neg hii]
    cases hq' : (nA H j)[i']? with
    | none => rfl
    | some q' =>
     obtain ⟨r1, r2⟩ := nA_get_lt hq'
     rw [Option.map_some, Option.map_some, ansT_succ]
     have hne : kEq (ev H j) (ev H q') = false := by
      cases hkk : kEq (ev H j) (ev H q') with
      | false => rfl
      | true =>
       have hqq := key_uniq hW (by omega) (by omega) r2 q2 (kEq_trans (kEq_symm hkk) q3)
       subst hqq
       rcases Nat.lt_trichotomy i i' with h1 | h1 | h1
       ·have := nA_sorted H j i i' q' q' h1 hiq' hq'; omega
       ·exact absurd h1 hii
       ·have := nA_sorted H j i' i q' q' h1 hq' hiq'; omega
     rw [hne, Bool.and_false]
     cases ansT H j q' <;> rfl
  ·rw [hst]; unfold rdS
   rw [hx, b3, cond_false, b1, cond_false, hnA]
   exact hes
  ·rw [hst]; unfold rdS
   rw [hx, b3, cond_false, b1, cond_false]
   exact hN
 ·-- a boundary
  have b3 : ((ev H j).k == 3) = true := by rw [hk]; rfl
  have b2 : ((ev H j).k == 2) = false := by rw [hk]; rfl
  have b1 : ((ev H j).k == 1) = false := by rw [hk]; rfl
  have hsame : ∀ q, ansT H (j + 1) q = ansT H j q := fun q => by
   rw [ansT_succ, b2]
   cases ansT H j q <;> rfl
  have hnA : nA H (j + 1) = nA H j := by rw [nA_succ, b1]; exact List.append_nil _
  refine ⟨?_, ?_, ?_, ?_⟩
  ·unfold rdG
   rw [hx, b3, cond_true]
   rcases hN with h | ⟨q, g1, g2, g3⟩
   ·rw [h]; rfl
   ·rw [g3, hW.cells q j g1 hj g2 hk]; simp
  ·rw [hst]; unfold rdS
   rw [hx, b3, cond_true, hnA]
   show (rdK H j).1 = _
   rw [hA]
   exact List.map_congr_left fun q _ => by rw [hsame]
  ·rw [hst]; unfold rdS
   rw [hx, b3, cond_true, hnA]
   exact hes
  ·rw [hst]; unfold rdS
   rw [hx, b3, cond_true]
   exact .inr ⟨j, hj, hk, rfl⟩
theorem rd_inv {H : List Evt} (hW : WfH H) : ∀ j, j ≤ H.length → RdI H j
 | 0, _ => ⟨rfl, rfl, .inl rfl⟩
 | j + 1, hj => (rd_step hW hj (rd_inv hW j (by omega))).2
end Go.Proofs.Ytjibiphgbhlhkaa.Ev
end
section
namespace Go.Proofs.Ytjibiphgbhlhkaa.Ev
open Go Go.Proofs Go.RowKit
theorem rd_N {H : List Evt} (hW : WfH H) : ∀ j, j ≤ H.length → ∀ q, q < j → (ev H q).k = 3 → (rdK H j).2.2 = Int.ofNat (ev H q).m.length
 | 0, _, q, hq, _ => absurd hq (Nat.not_lt_zero _)
 | j + 1, hj, q, hq, hk => by
  show (rdS H (rdK H j) j).2.2 = _
  unfold rdS
  have hx : H.getD j Enc.dflt = ev H j := rfl
  rw [hx]
  cases h3 : (ev H j).k == 3 with
  | true =>
   have h3' : (ev H j).k = 3 := by simpa using h3
   show Int.ofNat (ev H j).m.length = _
   rw [hW.cells j q (by omega) (by omega) h3' hk]
  | false =>
   have hne : q ≠ j := fun h => by
    subst h
    rw [hk] at h3; cases h3
   have ih := rd_N hW j (by omega) q (by omega) hk
   cases (ev H j).k == 1 with
   | true => exact ih
   | false => exact ih
theorem wf_rdOk {H : List Evt} (hW : WfH H) : rdOk H = true := by
 unfold rdOk
 rw [Bool.and_eq_true, List.all_eq_true]
 refine ⟨Nat.ble_eq_true_of_le hW.len, fun k hk => ?_⟩
 have hk := List.mem_range.1 hk
 exact (rd_step hW hk (rd_inv hW k (by omega))).1
def plG (N : Int) (x : Ask) : Ask := { x with pl := mayB x N }
theorem plK_get (A : List Ask) (N : Int) : ∀ k, k ≤ A.length → ∀ i, (plK A N k)[i]? = if i < k then (A[i]?).map (plG N) else A[i]?
 | 0, _, i => by rw [if_neg (Nat.not_lt_zero _)]; rfl
 | k + 1, hk, i => by
  have ih := plK_get A N k (by omega)
  have hlen := plK_len (A := A) (N := N) k
  have hg : (plK A N k).getD k Enc.dflt = A.getD k Enc.dflt := by
   simp only [List.getD, ih k, if_neg (Nat.lt_irrefl _)]
  show ((plK A N k).set k (plG N ((plK A N k).getD k Enc.dflt)))[i]? = _
  rw [hg, List.getElem?_set, hlen]
  by_cases hik : k = i
  ·subst hik
   rw [if_pos rfl, if_pos (by omega), if_pos (by omega)]
   have hkl : k < A.length := hk
   simp only [List.getD, List.getElem?_eq_getElem hkl, Option.map_some, Option.getD_some]
  ·rw [if_neg hik, ih i]
   by_cases h1 : i < k
   ·rw [if_pos h1, if_pos (by omega)]
   ·rw [if_neg h1, if_neg (by omega)]
def askH (H : List Evt) (q : Nat) : Ask := plG (rdN H) (askT H H.length q (ansT H H.length q))
theorem asks_eq {H : List Evt} (hW : WfH H) : asks H = (nA H H.length).map (askH H) := by
 have hA : rdA H = (nA H H.length).map fun q => askT H H.length q (ansT H H.length q) := (rd_inv hW _ (Nat.le_refl _)).A
 apply List.ext_getElem?
 intro i
 show (plK (rdA H) (rdN H) (rdA H).length)[i]? = _
 rw [plK_get _ _ _ (Nat.le_refl _)]
 by_cases hi : i < (rdA H).length
 ·rw [if_pos hi, hA, List.getElem?_map, List.getElem?_map, Option.map_map]; rfl
 ·rw [if_neg hi]
  have h1 := hi
  rw [hA, List.length_map] at h1
  rw [List.getElem?_eq_none (Nat.le_of_not_lt hi), List.getElem?_eq_none (by rw [List.length_map]; omega)]
theorem asks_len {H : List Evt} (hW : WfH H) : (asks H).length = (nA H H.length).length := by rw [asks_eq hW, List.length_map]
theorem asks_get {H : List Evt} (hW : WfH H) {i q : Nat} (h : (nA H H.length)[i]? = some q) : (asks H).getD i Enc.dflt = askH H q := by
 rw [asks_eq hW]
 simp only [List.getD, List.getElem?_map, h, Option.map_some, Option.getD_some]
theorem rdN_eq {H : List Evt} (hW : WfH H) {q : Nat} (hq : q < H.length) (hk : (ev H q).k = 3) : rdN H = Int.ofNat (ev H q).m.length := by
 have := rd_N hW _ (Nat.le_refl _) q hq hk
 unfold rdN
 rw [this, if_neg (by simp)]
theorem askH_ev (H : List Evt) (q : Nat) : (askH H q).ev = ev H q := by
 unfold askH plG askT
 cases ansT H H.length q <;> rfl
theorem askH_fr (H : List Evt) (q : Nat) : (askH H q).fr = q := by
 unfold askH plG askT
 cases ansT H H.length q <;> rfl
theorem askH_to (H : List Evt) (q : Nat) : (askH H q).to = match ansT H H.length q with | some t => (t : Int) | none => (H.length : Int) := by
 unfold askH plG askT
 cases ansT H H.length q <;> rfl
theorem askH_mu (H : List Evt) (q : Nat) : (askH H q).mu = match ansT H H.length q with | some t => (ev H t).e == 0 | none => false := by
 unfold askH plG askT
 cases ansT H H.length q <;> rfl
theorem askH_vs (H : List Evt) (q : Nat) : (askH H q).vs = match ansT H H.length q with | some t => cond (ev H q).w (ev H q).v (ev H t).v | none => (ev H q).v := by
 unfold askH plG askT
 cases ansT H H.length q <;> rfl
end Go.Proofs.Ytjibiphgbhlhkaa.Ev
end
