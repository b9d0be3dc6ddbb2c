/-
  What Made makes is a history.
-/
import Derived.Test.YtjibiphgbhlhkaaQ31
import Derived.Test.YtjibiphgbhlhkaaQ30
set_option linter.unusedVariables false
set_option linter.unusedSimpArgs false
section
namespace Go.Proofs.Ytjibiphgbhlhkaa.Ev
open Go Go.Proofs Go.RowKit
theorem ev_lt (H : List Evt) (e : Evt) {q : Nat} (hq : q < H.length) : ev (H ++ [e]) q = ev H q := getD_app_lt H [e] Enc.dflt hq
theorem ev_at (H : List Evt) (e : Evt) : ev (H ++ [e]) H.length = e := by
 show (H ++ [e]).getD H.length Enc.dflt = e
 rw [getD_app_ge _ _ _ (Nat.le_refl _), Nat.sub_self]; rfl
theorem nA_congr {H H' : List Evt} {j : Nat} (h : ∀ q, q < j → ev H q = ev H' q) : nA H j = nA H' j := by
 unfold nA
 exact List.filter_congr fun q hq => by rw [h q (List.mem_range.1 hq)]
theorem nA_app (H : List Evt) (e : Evt) : nA (H ++ [e]) (H.length + 1) = nA H H.length ++ cond (e.k == 1) [H.length] [] := by
 rw [nA_succ, ev_at, nA_congr fun q hq => ev_lt H e hq]
theorem WfH.app {H : List Evt} (hW : WfH H) {e : Evt} (hl : H.length < 40) (hk : e.k = 1 ∨ e.k = 2 ∨ e.k = 3) (h1 : e.k = 1 → (nA H H.length).length < 8 ∧ ∀ q, q < H.length → (ev H q).k = 1 → kEq e (ev H q) = false)
  (h2 : e.k = 2 → (∃ q, q < H.length ∧ (ev H q).k = 1 ∧ kEq e (ev H q) = true) ∧ ∀ t, t < H.length → (ev H t).k = 2 → kEq e (ev H t) = false) (h3 : e.k = 3 → ∀ q, q < H.length → (ev H q).k = 3 → (ev H q).m.length = e.m.length) : WfH (H ++ [e]) := by
 have hlen : (H ++ [e]).length = H.length + 1 := by simp
 have lo : ∀ q, q < H.length + 1 → q < H.length ∧ ev (H ++ [e]) q = ev H q ∨ q = H.length ∧ ev (H ++ [e]) q = e := fun q hq => by
  rcases Nat.lt_or_ge q H.length with h | h
  ·exact .inl ⟨h, ev_lt H e h⟩
  ·have : q = H.length := by omega
   subst this; exact .inr ⟨rfl, ev_at H e⟩
 refine ⟨by omega, fun q hq => ?_, ?_, fun q q' hqq hq' g g' => ?_, fun t ht g => ?_, fun t t' htt ht' g g' => ?_, fun q q' hq hq' g g' => ?_⟩
 ·rw [hlen] at hq
  rcases lo q hq with ⟨a, b⟩ | ⟨a, b⟩
  ·rw [b]; exact hW.kind q a
  ·rw [b]; exact hk
 ·rw [hlen, nA_app]
  cases hb : e.k == 1 with
  | true =>
   have := (h1 (by simpa using hb)).1
   simp; omega
  | false =>
   have := hW.n8
   simp; omega
 ·rw [hlen] at hq'
  have hq : q < H.length := by omega
  rw [ev_lt H e hq] at g ⊢
  rcases lo q' hq' with ⟨a, b⟩ | ⟨a, b⟩
  ·rw [b] at g' ⊢; exact hW.uniq q q' hqq a g g'
  ·rw [b] at g' ⊢; exact (h1 g').2 q hq g
 ·rw [hlen] at ht
  rcases lo t ht with ⟨a, b⟩ | ⟨a, b⟩
  ·rw [b] at g ⊢
   obtain ⟨q, q1, q2, q3⟩ := hW.ans t a g
   exact ⟨q, q1, by rw [ev_lt H e (by omega)]; exact q2, by rw [ev_lt H e (by omega)]; exact q3⟩
  ·rw [b] at g ⊢
   obtain ⟨q, q1, q2, q3⟩ := (h2 g).1
   exact ⟨q, by omega, by rw [ev_lt H e q1]; exact q2, by rw [ev_lt H e q1]; exact q3⟩
 ·rw [hlen] at ht'
  have ht : t < H.length := by omega
  rw [ev_lt H e ht] at g ⊢
  rcases lo t' ht' with ⟨a, b⟩ | ⟨a, b⟩
  ·rw [b] at g' ⊢; exact hW.once t t' htt a g g'
  ·rw [b] at g' ⊢; exact (h2 g').2 t ht g
 ·rw [hlen] at hq hq'
  rcases lo q hq with ⟨a, b⟩ | ⟨a, b⟩ <;> rcases lo q' hq' with ⟨a', b'⟩ | ⟨a', b'⟩ <;> rw [b] at g <;> rw [b'] at g' <;> rw [b, b']
  ·exact hW.cells q q' a a' g g'
  ·exact h3 g' q a g
  ·exact (h3 g q' a' g').symm
structure MdW (p : Md) : Prop where
 wf : WfH p.O
 len : p.O.length ≤ 36
 ne : 0 < p.O.length ∧ (ev p.O 0).k = 3
 bm : ∀ q, q < p.O.length → (ev p.O q).k = 3 → (ev p.O q).m.length = 3
 nP : (nA p.O p.O.length).map (ev p.O) = p.P
 ids : ∀ (i : Nat) e, p.P[i]? = some e → e.i = (i : Int)
 an : ∀ t, t < p.O.length → (ev p.O t).k = 2 → ∃ (i : Nat) (e : Evt), p.P[i]? = some e ∧ kEq (ev p.O t) e = true ∧ (p.R.getD i Enc.dflt).l = [] ∧ p.D.getD i Enc.dflt = true
theorem MdW.asked {p : Md} (h : MdW p) {q : Nat} (hq : q < p.O.length) (hk : (ev p.O q).k = 1) : ∃ i : Nat, (nA p.O p.O.length)[i]? = some q ∧ p.P[i]? = some (ev p.O q) := by
 obtain ⟨i, hi, hiq⟩ := List.getElem_of_mem (nA_mem.2 ⟨hq, hk⟩)
 have e1 : (nA p.O p.O.length)[i]? = some q := by rw [List.getElem?_eq_getElem hi, hiq]
 exact ⟨i, e1, by rw [← h.nP, List.getElem?_map, e1]; rfl⟩
theorem MdW.at {p : Md} (h : MdW p) {i : Nat} {e : Evt} (hi : p.P[i]? = some e) : ∃ q, (nA p.O p.O.length)[i]? = some q ∧ q < p.O.length ∧ (ev p.O q).k = 1 ∧ ev p.O q = e := by
 rw [← h.nP, List.getElem?_map] at hi
 cases hq : (nA p.O p.O.length)[i]? with
 | none => rw [hq] at hi; cases hi
 | some q =>
  rw [hq] at hi
  obtain ⟨a, b⟩ := nA_get_lt hq
  exact ⟨q, rfl, a, b, by simpa using hi⟩
theorem MdW.nlen {p : Md} (h : MdW p) : (nA p.O p.O.length).length = p.P.length := by rw [← h.nP, List.length_map]
theorem mdW_0 : MdW md0 := by
 have e0 : ∀ q, q < 1 → ev md0.O q = boundE [vI 0, vI 0, vI 0] := fun q hq => by
  have : q = 0 := by omega
  subst this; rfl
 refine ⟨⟨by decide, fun q hq => ?_, by decide, fun q q' h1 h2 => ?_, fun t ht hk => ?_, fun t t' h1 h2 => ?_, fun q q' h1 h2 _ _ => ?_⟩, by decide, ⟨by decide, rfl⟩, fun q hq _ => ?_, rfl, fun i e h => by simp [md0] at h, fun t ht hk => ?_⟩
 ·rw [e0 q hq]; exact .inr (.inr rfl)
 ·have h2 : q' < 1 := h2
  omega
 ·rw [e0 t ht] at hk; cases hk
 ·have h2 : t' < 1 := h2
  omega
 ·rw [e0 q h1, e0 q' h2]
 ·rw [e0 q hq]; rfl
 ·rw [e0 t ht] at hk; cases hk
theorem MdW.push {p : Md} (h : MdW p) {e : Evt} (hO : p.O.length < 36) (hwf : WfH (p.O ++ [e])) (he3 : e.k = 3 → e.m.length = 3) (p' : Md) (hp : p'.O = p.O ++ [e]) (hP : p'.P = p.P ++ cond (e.k == 1) [e] []) (hids : ∀ (i : Nat) e', p'.P[i]? = some e' → e'.i = (i : Int))
  (han : ∀ t, t < p.O.length → (ev p.O t).k = 2 → ∃ (i : Nat) (e' : Evt), p'.P[i]? = some e' ∧ kEq (ev p.O t) e' = true ∧ (p'.R.getD i Enc.dflt).l = [] ∧ p'.D.getD i Enc.dflt = true)
  (hane : e.k = 2 → ∃ (i : Nat) (e' : Evt), p'.P[i]? = some e' ∧ kEq e e' = true ∧ (p'.R.getD i Enc.dflt).l = [] ∧ p'.D.getD i Enc.dflt = true) : MdW p' := by
 have hlen : (p.O ++ [e]).length = p.O.length + 1 := by simp
 have lo : ∀ q, q < p.O.length + 1 → q < p.O.length ∧ ev (p.O ++ [e]) q = ev p.O q ∨ q = p.O.length ∧ ev (p.O ++ [e]) q = e := fun q hq => by
  rcases Nat.lt_or_ge q p.O.length with h | h
  ·exact .inl ⟨h, ev_lt p.O e h⟩
  ·have : q = p.O.length := by omega
   subst this; exact .inr ⟨rfl, ev_at p.O e⟩
 refine ⟨by rw [hp]; exact hwf, by rw [hp, hlen]; omega, ⟨by rw [hp, hlen]; omega, by rw [hp, ev_lt _ _ h.ne.1]; exact h.ne.2⟩, fun q hq hk => ?_, ?_, hids, fun t ht hk => ?_⟩
 ·rw [hp, hlen] at hq
  rw [hp] at hk ⊢
  rcases lo q hq with ⟨a, b⟩ | ⟨a, b⟩ <;> rw [b] at hk ⊢
  ·exact h.bm q a hk
  ·exact he3 hk
 ·rw [hp, hlen, nA_app, List.map_append, hP, ← h.nP]
  congr 1
  ·exact List.map_congr_left fun q hq => ev_lt _ _ (nA_mem.1 hq).1
  ·cases e.k == 1 with
   | true => show [ev (p.O ++ [e]) p.O.length] = [e]; rw [ev_at]
   | false => rfl
 ·rw [hp, hlen] at ht
  rw [hp] at hk ⊢
  rcases lo t ht with ⟨a, b⟩ | ⟨a, b⟩ <;> rw [b] at hk ⊢
  ·exact han t a hk
  ·exact hane hk
theorem getD_app_lt' {α : Type} {l : List α} {i : Nat} (d : α) (m : List α) (h : i < l.length) : (l ++ m).getD i d = l.getD i d := getD_app_lt l m d h
theorem some_lt {α : Type} {l : List α} {i : Nat} {a : α} (h : l[i]? = some a) : i < l.length := (List.getElem?_eq_some_iff.1 h).1
theorem mdW_step {l : List U4} {wr : Bool} {p : Md} {k : Nat} (hb : l.all (okA U4) = true) (hk : k < l.length) (hI : InvM p k) (hO : p.O.length < 36) (h : MdW p) : MdW (mdS l wr p k) := by
 obtain ⟨m3, lD, lR, lP, ops, lo1, lo2⟩ := hI
 have nl := h.nlen
 unfold mdS
 generalize l.getD k Enc.dflt = x
 cases t6 x == 0 with
 | true =>
  rw [cond_true]
  have e3 : (boundE (p.m.set (Int.tmod x.b 3).toNat (vI (m64 x.c 4)))).m.length = 3 := by show (List.set _ _ _).length = 3; rw [List.length_set]; exact m3
  exact h.push hO (h.wf.app (by omega) (.inr (.inr rfl)) (fun h => by cases h) (fun h => by cases h) (fun _ q hq hk => (h.bm q hq hk).trans e3.symm)) (fun _ => e3) _ rfl (List.append_nil _).symm h.ids h.an (fun h => by cases h)
 | false =>
  rw [cond_false]
  cases t6 x == 1 || t6 x == 2 with
  | true =>
   rw [cond_true]
   cases hc : decide (Int.ofNat p.P.length ≥ 8) || (t6 x == 1 && decide (p.late ≥ 3)) with
   | true => exact h
   | false =>
    have h8 : p.P.length < 8 := by
     rw [Bool.or_eq_false_iff] at hc
     have := of_decide_eq_false hc.1
     simp only [Int.ofNat_eq_natCast] at this
     omega
    rw [cond_false]
    generalize hw : (t6 x == 1) = w
    refine h.push hO (h.wf.app (e := opE x p.P.length w) (by omega) (.inl rfl) (fun _ => ⟨by omega, fun q hq hk => ?_⟩) (fun h => by cases h) (fun h => by cases h)) (fun h => by cases h) _ rfl rfl (fun i e' he => ?_) (fun t ht hk => ?_) (fun h => by cases h)
    ·obtain ⟨i, i1, i2⟩ := h.asked hq hk
     have hi := h.ids i _ i2
     have := some_lt i2
     cases hkk : kEq (opE x p.P.length w) (ev p.O q) with
     | false => rfl
     | true =>
      have := (kEq_iff _ _).1 hkk
      have h2 : (p.P.length : Int) = (ev p.O q).i := this.2
      omega
    ·rcases Nat.lt_or_ge i p.P.length with h1 | h1
     ·exact h.ids i e' (by rw [← he]; exact (List.getElem?_append_left h1).symm)
     ·have he : (p.P ++ [opE x p.P.length w])[i]? = some e' := he
      have hil := some_lt he
      rw [List.length_append, List.length_singleton] at hil
      have : i = p.P.length := by omega
      subst this
      rw [List.getElem?_append_right (Nat.le_refl _), Nat.sub_self] at he
      cases he; rfl
    ·obtain ⟨i, e', a1, a2, a3, a4⟩ := h.an t ht hk
     have hi := some_lt a1
     refine ⟨i, e', ?_, a2, ?_, ?_⟩
     ·show (p.P ++ _)[i]? = _
      rw [List.getElem?_append_left hi]; exact a1
     ·show ((p.R ++ _).getD i Enc.dflt).l = []
      rw [getD_app_lt' _ _ (by omega)]; exact a3
     ·show (p.D ++ _).getD i Enc.dflt = true
      rw [getD_app_lt' _ _ (by omega)]; exact a4
  | false =>
   rw [cond_false]
   cases hP0 : p.P.length == 0 with
   | true => exact h
   | false =>
    rw [cond_false]
    have hpos : 0 < p.P.length := by
     have : p.P.length ≠ 0 := by simpa using hP0
     omega
    cases t6 x == 3 || t6 x == 4 with
    | true =>
     rw [cond_true]
     cases hD : p.D.getD (kxN x p.P.length) Enc.dflt with
     | true => exact h
     | false =>
      rw [cond_false]
      refine ⟨h.wf, h.len, h.ne, h.bm, h.nP, h.ids, fun t ht hk => ?_⟩
      obtain ⟨i, e', a1, a2, a3, a4⟩ := h.an t ht hk
      have hne : kxN x p.P.length ≠ i := fun he => by
       rw [← he, hD] at a4; cases a4
      refine ⟨i, e', a1, a2, ?_, ?_⟩
      ·show ((p.R.set _ _).getD i Enc.dflt).l = []
       simp only [List.getD, List.getElem?_set_ne hne]; exact a3
      ·show (p.D.set _ _).getD i Enc.dflt = true
       simp only [List.getD, List.getElem?_set_ne hne]; exact a4
    | false =>
     rw [cond_false]
     cases hc : !p.D.getD (kxN x p.P.length) Enc.dflt || ((p.R.getD (kxN x p.P.length) Enc.dflt).l.length != 2) with
     | true => exact h
     | false =>
      rw [cond_false]
      rw [Bool.or_eq_false_iff, Bool.not_eq_false'] at hc
      obtain ⟨cD, cR⟩ := hc
      have cR : (p.R.getD (kxN x p.P.length) Enc.dflt).l.length = 2 := by simpa using cR
      have hkR : kxN x p.P.length < p.R.length := by
       rcases Nat.lt_or_ge (kxN x p.P.length) p.R.length with h1 | h1
       ·exact h1
       ·exfalso
        simp only [List.getD, List.getElem?_eq_none h1, Option.getD_none] at cR
        cases cR
      have hkP : kxN x p.P.length < p.P.length := by omega
      generalize hkx : kxN x p.P.length = kx at cD cR hkR hkP ⊢
      have hPk : p.P[kx]? = some (p.P.getD kx Enc.dflt) := by
       rw [List.getElem?_eq_getElem hkP]; simp [List.getD, hkP]
      generalize p.P.getD kx Enc.dflt = e at hPk ⊢
      generalize hv : ansV e wr x (p.R.getD kx Enc.dflt) = v
      obtain ⟨q, q1, q2, q3, q4⟩ := h.at hPk
      have hself : kEq (ansO e v) e = true := (kEq_iff _ _).2 ⟨rfl, rfl⟩
      refine h.push hO (h.wf.app (e := ansO e v) (by omega) (.inr (.inl rfl)) (fun h => by cases h) (fun _ => ⟨⟨q, q2, q3, by rw [q4]; exact hself⟩, fun t ht hk => ?_⟩) (fun h => by cases h)) (fun h => by cases h) _ rfl (List.append_nil _).symm h.ids (fun t ht hk => ?_) (fun _ => ⟨kx, e, hPk, hself, ?_, cD⟩)
      ·obtain ⟨i, e', a1, a2, a3, a4⟩ := h.an t ht hk
       cases hkk : kEq (ansO e v) (ev p.O t) with
       | false => rfl
       | true =>
        have h1 := (kEq_iff _ _).1 (kEq_trans hkk a2)
        have h2 : e.i = e'.i := h1.2
        rw [h.ids kx e hPk, h.ids i e' a1] at h2
        have : kx = i := by omega
        subst this
        rw [a3] at cR; cases cR
      ·obtain ⟨i, e', a1, a2, a3, a4⟩ := h.an t ht hk
       refine ⟨i, e', a1, a2, ?_, a4⟩
       show ((p.R.set kx _).getD i Enc.dflt).l = []
       by_cases hki : kx = i
       ·subst hki; simp only [List.getD, List.getElem?_set_self hkR]; rfl
       ·simp only [List.getD, List.getElem?_set_ne hki]; exact a3
      ·show ((p.R.set kx _).getD kx Enc.dflt).l = []
       simp only [List.getD, List.getElem?_set_self hkR]; rfl
theorem mdW_all {l : List U4} {wr : Bool} (hb : l.all (okA U4) = true) : ∀ k, k ≤ l.length → MdW (mdK l wr k) ∧ InvM (mdK l wr k) k
 | 0, _ => ⟨mdW_0, inv_0⟩
 | k + 1, hk => by
  obtain ⟨h1, h2⟩ := mdW_all (wr := wr) hb k (by omega)
  show MdW (cond _ _ _) ∧ InvM (cond _ _ _) _
  cases hc : Nat.blt (mdK l wr k).O.length 36 with
  | true => exact ⟨mdW_step hb hk h2 (by simpa using hc) h1, inv_step hb hk h2⟩
  | false => exact ⟨h1, h2.mono⟩
theorem made_wf {l : List U4} {wr : Bool} (hb : l.all (okA U4) = true) : WfH (made l wr) := (mdW_all hb l.length (Nat.le_refl _)).1.wf
end Go.Proofs.Ytjibiphgbhlhkaa.Ev
end
section
namespace Go.Proofs.Ytjibiphgbhlhkaa.Ev
open Go Go.Proofs Go.RowKit
structure EvG (e : Evt) : Prop where
 gm : ∀ v ∈ e.m, gdV v
 gv : ∀ v ∈ e.v, gdV v
 ca : e.ca ≤ 1
 cv : e.cv ≤ 1
 cm : e.cm ≤ 1
 la : e.a.length ≤ 2
 lv : e.v.length ≤ 2
 lm : e.m.length ≤ 4
 er : e.e = 0
 op : e.a.length = 2 → e.k = 1 → OpOk e
structure MdV (p : Md) : Prop where
 gm : ∀ v ∈ p.m, gdV v
 gO : ∀ e ∈ p.O, EvG e
 gR : ∀ r ∈ p.R, (∀ v ∈ r.l, gdV v) ∧ r.c ≤ 1 ∧ r.l.length ≤ 2
theorem gd_vI {n : Int} (h0 : 0 ≤ n) (h1 : n < 256) : gdV (vI n) := ⟨rfl, rfl, h0, h1⟩
theorem set_gd {m : List Vl} {v : Vl} (hm : ∀ u ∈ m, gdV u) (hv : gdV v) (i : Nat) : ∀ u ∈ m.set i v, gdV u := fun u hu => by
 rcases List.mem_or_eq_of_mem_set hu with h1 | h1
 ·exact hm u h1
 ·rw [h1]; exact hv
theorem boundE_g {m : List Vl} (hm : ∀ v ∈ m, gdV v) (hl : m.length ≤ 4) : EvG (boundE m) := ⟨hm, (fun v hv => by cases hv), Nat.le_refl _, Nat.le_refl _, Nat.zero_le _, Nat.zero_le _, Nat.zero_le _, hl, rfl, fun _ h => by cases h⟩
theorem opE_g {x : U4} (hx : okB4 x = true) (n : Nat) (w : Bool) : EvG (opE x n w) := by
 obtain ⟨⟨xa0, xa1⟩, ⟨xb0, xb1⟩, ⟨xc0, xc1⟩, ⟨xd0, xd1⟩⟩ := (okB4_iff x).1 hx
 refine ⟨(fun v hv => by cases hv), fun v hv => ?_, Nat.zero_le _, ?_, Nat.le_refl _, Nat.le_refl _, ?_, Nat.zero_le _, rfl, fun _ _ => opE_ok hx n w⟩
 ·cases w with
  | true =>
   have hv : v ∈ [vI (m64 x.d 5), vI (m64 (IntKind.wrap .u8 (Int.tdiv x.d 5)) 5)] := hv
   have hq : 0 ≤ Int.tdiv x.d 5 ∧ Int.tdiv x.d 5 < 256 := by
    have h1 := Int.tdiv_nonneg xd0 (show (0 : Int) ≤ 5 by decide)
    have h2 := Int.tdiv_le_self 5 xd0
    exact ⟨h1, by omega⟩
   rw [wrap_u8 hq.1 hq.2] at hv
   obtain ⟨a1, a2⟩ := m64_rng (b := 5) xd0 xd1 (by decide) (by decide)
   obtain ⟨b1, b2⟩ := m64_rng (b := 5) hq.1 hq.2 (by decide) (by decide)
   rcases List.mem_cons.1 hv with h | h
   ·rw [h]; exact gd_vI a1 (by omega)
   ·rw [List.mem_singleton] at h; rw [h]; exact gd_vI b1 (by omega)
  | false => cases hv
 ·cases w with
  | true => exact Nat.zero_le _
  | false => exact Nat.le_refl _
 ·cases w with
  | true => exact Nat.le_refl _
  | false => exact Nat.zero_le _
theorem ansV_g {e : Evt} {wr : Bool} {x : U4} (hx : okB4 x = true) {r : Vs} (hr : (∀ v ∈ r.l, gdV v) ∧ r.c ≤ 1 ∧ r.l.length ≤ 2) (h2 : r.l.length = 2) : (∀ v ∈ (ansV e wr x r).1, gdV v) ∧ (ansV e wr x r).2 ≤ 1 ∧ (ansV e wr x r).1.length ≤ 2 := by
 obtain ⟨⟨xa0, xa1⟩, ⟨xb0, xb1⟩, ⟨xc0, xc1⟩, ⟨xd0, xd1⟩⟩ := (okB4_iff x).1 hx
 unfold ansV
 cases e.w with
 | true => exact ⟨(fun v hv => by cases hv), Nat.le_refl _, Nat.zero_le _⟩
 | false =>
  rw [cond_false]
  cases wr && (Int.tmod x.c 4 == 0) with
  | true =>
   obtain ⟨a1, a2⟩ := m64_rng (b := 4) xd0 xd1 (by decide) (by decide)
   refine ⟨fun v hv => ?_, Nat.zero_le _, Nat.le_refl _⟩
   have hv : v ∈ [vI (m64 x.d 4), r.l.getD 1 Enc.dflt] := hv
   rcases List.mem_cons.1 hv with h | h
   ·rw [h]; exact gd_vI a1 (by omega)
   ·rw [List.mem_singleton] at h; rw [h]; exact hr.1 _ (getD_mem _ (by omega))
  | false => exact hr
theorem ansO_g {e : Evt} {v : List Vl × Nat} (hv : (∀ u ∈ v.1, gdV u) ∧ v.2 ≤ 1 ∧ v.1.length ≤ 2) : EvG (ansO e v) := ⟨(fun u hu => by cases hu), hv.1, Nat.le_refl _, hv.2.1, Nat.le_refl _, Nat.zero_le _, hv.2.2, Nat.zero_le _, rfl, fun _ h => by cases h⟩
theorem nil_g : (∀ v ∈ (⟨[], 1⟩ : Vs).l, gdV v) ∧ (⟨[], 1⟩ : Vs).c ≤ 1 ∧ (⟨[], 1⟩ : Vs).l.length ≤ 2 := ⟨(fun v hv => by cases hv), Nat.le_refl _, Nat.zero_le _⟩
theorem mdV_step {l : List U4} {wr : Bool} {p : Md} {k : Nat} (hb : l.all (okA U4) = true) (hk : k < l.length) (hI : InvM p k) (hW : MdW p) (h : MdV p) : MdV (mdS l wr p k) := by
 have hx : okB4 (l.getD k Enc.dflt) = true := all_get' hb hk
 obtain ⟨m3, lD, lR, lP, ops, lo1, lo2⟩ := hI
 obtain ⟨gm, gO, gR⟩ := h
 have gP : ∀ (i : Nat) e, p.P[i]? = some e → EvG e := fun i e he => by
  obtain ⟨q, q1, q2, q3, q4⟩ := hW.at he
  rw [← q4]; exact gO _ (getD_mem _ q2)
 unfold mdS
 generalize l.getD k Enc.dflt = x at hx ⊢
 obtain ⟨⟨xa0, xa1⟩, ⟨xb0, xb1⟩, ⟨xc0, xc1⟩, ⟨xd0, xd1⟩⟩ := (okB4_iff x).1 hx
 have app : ∀ {e : Evt}, EvG e → ∀ e' ∈ p.O ++ [e], EvG e' := fun he e' h' => by
  rcases List.mem_append.1 h' with h1 | h1
  ·exact gO e' h1
  ·rw [List.mem_singleton] at h1; rw [h1]; exact he
 cases t6 x == 0 with
 | true =>
  obtain ⟨a1, a2⟩ := m64_rng (b := 4) xc0 xc1 (by decide) (by decide)
  have g := set_gd gm (gd_vI a1 (by omega)) (Int.tmod x.b 3).toNat
  exact ⟨g, app (boundE_g g (by rw [List.length_set]; omega)), gR⟩
 | false =>
  rw [cond_false]
  cases t6 x == 1 || t6 x == 2 with
  | true =>
   rw [cond_true]
   cases decide (Int.ofNat p.P.length ≥ 8) || (t6 x == 1 && decide (p.late ≥ 3)) with
   | true => exact ⟨gm, gO, gR⟩
   | false =>
    rw [cond_false]
    refine ⟨gm, app (opE_g hx _ _), fun r hr => ?_⟩
    rcases List.mem_append.1 hr with h1 | h1
    ·exact gR r h1
    ·rw [List.mem_singleton] at h1; rw [h1]; exact nil_g
  | false =>
   rw [cond_false]
   cases hP0 : p.P.length == 0 with
   | true => exact ⟨gm, gO, gR⟩
   | false =>
    rw [cond_false]
    have hpos : 0 < p.P.length := by
     have : p.P.length ≠ 0 := by simpa using hP0
     omega
    have hkP : kxN x p.P.length < p.P.length := by
     have hw : IntKind.wrap .i64 x.b = x.b := w64 (by omega) (by omega)
     obtain ⟨r0, r1⟩ := tmod_rng (b := Int.ofNat p.P.length) xb0 (by simp; omega)
     have r1' : Int.tmod x.b (Int.ofNat p.P.length) < (p.P.length : Int) := r1
     unfold kxN
     rw [hw]; omega
    have hPk : p.P[kxN x p.P.length]? = some (p.P.getD (kxN x p.P.length) Enc.dflt) := by
     rw [List.getElem?_eq_getElem hkP]; simp [List.getD, hkP]
    have hop := ops _ (getD_mem (Enc.dflt : Evt) hkP)
    generalize kxN x p.P.length = kx at hkP hPk hop ⊢
    generalize p.P.getD kx Enc.dflt = e at hPk hop ⊢
    have hge := gP _ _ hPk
    cases t6 x == 3 || t6 x == 4 with
    | true =>
     rw [cond_true]
     cases p.D.getD kx Enc.dflt with
     | true => exact ⟨gm, gO, gR⟩
     | false =>
      rw [cond_false]
      have hef : (∀ v ∈ efM e p.m, gdV v) ∧ (efM e p.m).length = 3 := by
       unfold efM
       cases hw : e.w with
       | true =>
        have l2 := hop.lv hw
        exact ⟨set_gd (set_gd gm (hge.gv _ (getD_mem _ (by omega))) _) (hge.gv _ (getD_mem _ (by omega))) _, by rw [cond_true, List.length_set, List.length_set]; exact m3⟩
       | false => exact ⟨gm, m3⟩
      refine ⟨hef.1, gO, fun r hr => ?_⟩
      rcases List.mem_or_eq_of_mem_set hr with h1 | h1
      ·exact gR r h1
      ·rw [h1]
       have b0 := hop.a0
       have b1 := hop.a1
       refine ⟨fun v hv => ?_, Nat.zero_le _, Nat.le_refl _⟩
       have hv : v ∈ [(efM e p.m).getD (aN e 0) Enc.dflt, (efM e p.m).getD (aN e 1) Enc.dflt] := hv
       rcases List.mem_cons.1 hv with h | h
       ·rw [h]; exact hef.1 _ (getD_mem _ (by unfold aN; omega))
       ·rw [List.mem_singleton] at h; rw [h]; exact hef.1 _ (getD_mem _ (by unfold aN; omega))
    | false =>
     rw [cond_false]
     cases hc : !p.D.getD kx Enc.dflt || ((p.R.getD kx Enc.dflt).l.length != 2) with
     | true => exact ⟨gm, gO, gR⟩
     | false =>
      rw [cond_false]
      rw [Bool.or_eq_false_iff] at hc
      have cR : (p.R.getD kx Enc.dflt).l.length = 2 := by simpa using hc.2
      have hkR : kx < p.R.length := by omega
      refine ⟨gm, app (ansO_g (ansV_g hx (gR _ (getD_mem _ hkR)) cR)), fun r hr => ?_⟩
      rcases List.mem_or_eq_of_mem_set hr with h1 | h1
      ·exact gR r h1
      ·rw [h1]; exact nil_g
theorem mdV_0 : MdV md0 := by
 have g : ∀ v ∈ [vI 0, vI 0, vI 0], gdV v := fun v hv => by
  have : v = vI 0 := by simpa using hv
  rw [this]; exact gd_vI (by decide) (by decide)
 refine ⟨g, fun e he => ?_, fun r hr => by cases hr⟩
 have : e = boundE [vI 0, vI 0, vI 0] := by simpa [md0] using he
 rw [this]; exact boundE_g g (by decide)
theorem mdV_all {l : List U4} {wr : Bool} (hb : l.all (okA U4) = true) : ∀ k, k ≤ l.length → MdV (mdK l wr k)
 | 0, _ => mdV_0
 | k + 1, hk => by
  have ih := mdV_all (wr := wr) hb k (by omega)
  obtain ⟨h1, h2⟩ := mdW_all (wr := wr) hb k (by omega)
  show MdV (cond _ _ _)
  cases Nat.blt (mdK l wr k).O.length 36 with
  | true => exact mdV_step hb hk h2 h1 ih
  | false => exact ih
end Go.Proofs.Ytjibiphgbhlhkaa.Ev
end
section
namespace Go.Proofs.Ytjibiphgbhlhkaa.Ev
open Go Go.Proofs Go.RowKit
structure HiG (H : List Evt) : Prop where
 wf : WfH H
 g : ∀ e ∈ H, EvG e
 h0 : H.length = 0 ∨ (ev H 0).k = 3
theorem EvG.okA {e : Evt} (h : EvG e) : okA Evt e = true := okA_ev h.ca (by have := h.la; omega) h.cv (by have := h.lv; omega) h.cm (by have := h.lm; omega)
theorem may_in {x : Ask} {n : Nat} (ha : x.ev.a.length ≤ 1000000) (hv : x.vs.length ≤ 1000000) (h : mayB x (Int.ofNat n) = true) : inRn n x = true := by
 unfold mayB at h
 cases hp : x.pl with
 | false => rw [hp] at h; cases h
 | true =>
  rw [hp, cond_true] at h
  have hn : nvI x = Int.ofNat x.vs.length - Int.ofNat x.ev.a.length := by
   unfold nvI
   exact w64 (by simp only [Int.ofNat_eq_natCast]; omega) (by simp only [Int.ofNat_eq_natCast]; omega)
  have key : x.ev.a.length ≤ x.vs.length ∧ oobA x.ev.a (Int.ofNat n) = false := by
   cases h0 : nvI x == 0 with
   | true =>
    rw [h0, cond_true] at h
    have h0 : nvI x = 0 := by simpa using h0
    rw [hn] at h0
    simp only [Int.ofNat_eq_natCast] at h0
    exact ⟨by omega, by simpa using h⟩
   | false =>
    rw [h0, cond_false] at h
    cases h1 : decide (nvI x > 0) with
    | false => rw [h1] at h; cases h
    | true =>
     rw [h1, cond_true] at h
     have h1 := of_decide_eq_true h1
     rw [hn] at h1
     simp only [Int.ofNat_eq_natCast] at h1
     cases hm : x.mu with
     | true => rw [hm] at h; cases h
     | false => rw [hm] at h; exact ⟨by omega, by simpa using h⟩
  unfold inRn
  rw [List.all_eq_true]
  intro i hi
  have hi := List.mem_range.1 hi
  have ho := key.2
  unfold oobA at ho
  rw [List.any_eq_false] at ho
  have := ho (x.ev.a.getD i Enc.dflt) (getD_mem _ hi)
  unfold outN at this
  rw [Bool.or_eq_true, decide_eq_true_eq, decide_eq_true_eq] at this
  have hlt : i < x.vs.length := by omega
  rw [Bool.and_eq_true, Bool.and_eq_true, decide_eq_true_eq, decide_eq_true_eq]
  exact ⟨⟨by omega, by omega⟩, by simpa using hlt⟩
theorem askH_mem {H : List Evt} (hW : WfH H) {x : Ask} (hx : x ∈ asks H) : ∃ q, q < H.length ∧ (ev H q).k = 1 ∧ x = askH H q := by
 rw [asks_eq hW, List.mem_map] at hx
 obtain ⟨q, hq, rfl⟩ := hx
 obtain ⟨a, b⟩ := nA_mem.1 hq
 exact ⟨q, a, b, rfl⟩
theorem HiG.ev {H : List Evt} (h : HiG H) {q : Nat} (hq : q < H.length) : EvG (Ev.ev H q) := h.g _ (getD_mem _ hq)
theorem askH_vals {H : List Evt} (h : HiG H) {q : Nat} (hq : q < H.length) : (∀ v ∈ (askH H q).vs, gdV v) ∧ (askH H q).vs.length ≤ 2 := by
 rw [askH_vs]
 cases ht : ansT H H.length q with
 | none => exact ⟨(h.ev hq).gv, (h.ev hq).lv⟩
 | some t =>
  obtain ⟨t1, t2, t3⟩ := ansT_lt ht
  show (∀ v ∈ cond (Ev.ev H q).w (Ev.ev H q).v (Ev.ev H t).v, gdV v) ∧ (cond (Ev.ev H q).w (Ev.ev H q).v (Ev.ev H t).v).length ≤ 2
  cases (Ev.ev H q).w with
  | true => exact ⟨(h.ev hq).gv, (h.ev hq).lv⟩
  | false => exact ⟨(h.ev t1).gv, (h.ev t1).lv⟩
theorem HiG.gdH {H : List Evt} (h : HiG H) : GdH H (asks H) := by
 refine ⟨h.wf.len, by rw [asks_len h.wf]; exact h.wf.n8, fun hp => h.h0.resolve_left (by omega), fun e he => (h.g e he).gm, fun x hx => ?_⟩
 obtain ⟨q, q1, q2, rfl⟩ := askH_mem h.wf hx
 exact (askH_vals h q1).1
theorem HiG.fitOk {H : List Evt} (h : HiG H) : fitOk H = true ∧ muS H (asks H) 0 0 < fuelH := by
 have hl := h.wf.len
 have hA : (asks H).length ≤ 8 := by rw [asks_len h.wf]; exact h.wf.n8
 have hle : H.all (okA Evt) = true := by
  rw [List.all_eq_true]
  exact fun e he => (h.g e he).okA
 have hmu : muS H (asks H) 0 0 < fuelH := by
  have hc := cntU_le 0 (asks H).length
  unfold muS fuelH
  have h1 : (H.length - Int.toNat 0) * ((asks H).length + 1) ≤ 40 * 9 := Nat.mul_le_mul (by simp; omega) (by omega)
  omega
 refine ⟨?_, hmu⟩
 have ho : OkS H (asks H) fuelH 0 0 false [] := by
  refine ⟨hl, hA, hle, plK_ok (rdK_ok hle _ (Nat.le_refl _)) _, fun e he hk => ⟨?_, by have := (h.g e he).lm; omega⟩, Int.le_refl _, by simp, Int.le_refl _, by decide, Nat.zero_le _, (fun h => by cases h), hmu⟩
  obtain ⟨q, hq, rfl⟩ := List.getElem_of_mem he
  have hev : Ev.ev H q = H[q] := by simp [Ev.ev, List.getD, hq]
  have hN := rdN_eq h.wf hq (by rw [hev]; exact hk)
  rw [hev] at hN
  unfold rng
  rw [List.all_eq_true]
  intro x hx
  obtain ⟨q', q1, q2, rfl⟩ := askH_mem h.wf hx
  cases hp : (askH H q').pl with
  | false => rfl
  | true =>
   have hp' : mayB (askT H H.length q' (ansT H H.length q')) (rdN H) = true := hp
   rw [hN] at hp'
   have e1 := (h.ev q1).la
   have e2 := (askH_vals h q1).2
   have hev2 : (askT H H.length q' (ansT H H.length q')).ev = Ev.ev H q' := askH_ev H q'
   have := may_in (by rw [hev2]; omega) (by show (askH H q').vs.length ≤ _; omega) hp'
   rw [Bool.not_true, Bool.false_or]
   exact this
 unfold Ev.fitOk
 rw [wf_rdOk h.wf, okS_iff.2 ho]
 rcases h.h0 with h1 | h1
 ·rw [h1]; rfl
 ·have h1 : (H.getD 0 Enc.dflt).k = 3 := h1
  rw [h1]; simp
theorem HiG.fits {H : List Evt} (h : HiG H) : fitsB H = true ↔ Al H (asks H) 0 0 false [] := go_iff h.gdH h.fitOk.2
theorem made_hi {l : List U4} {wr : Bool} (hb : l.all (okA U4) = true) : HiG (made l wr) :=
 ⟨made_wf hb, (mdV_all hb l.length (Nat.le_refl _)).gO, .inr (mdW_all hb l.length (Nat.le_refl _)).1.ne.2⟩
end Go.Proofs.Ytjibiphgbhlhkaa.Ev
end
section
namespace Go.Proofs.Ytjibiphgbhlhkaa.Ev
open Go Go.Proofs Go.RowKit
theorem sameV_self {v : Vl} (h : gdV v) : sameV v v = true := by
 obtain ⟨k, i, f⟩ := v
 obtain ⟨h1, h2, h3, h4⟩ := h
 simp only at h1 h2
 subst h1 h2
 unfold sameV
 simp only [beq_self_eq_true, Bool.and_self, Bool.true_and]
 rfl
theorem mdS_pre (l : List U4) (wr : Bool) (p : Md) (k : Nat) : ∃ L, (mdS l wr p k).O = p.O ++ L := by
 unfold mdS
 cases t6 (l.getD k Enc.dflt) == 0 with
 | true => exact ⟨_, rfl⟩
 | false =>
  rw [cond_false]
  cases t6 (l.getD k Enc.dflt) == 1 || t6 (l.getD k Enc.dflt) == 2 with
  | true =>
   rw [cond_true]
   cases decide (Int.ofNat p.P.length ≥ 8) || (t6 (l.getD k Enc.dflt) == 1 && decide (p.late ≥ 3)) with
   | true => exact ⟨[], (List.append_nil _).symm⟩
   | false => exact ⟨_, rfl⟩
  | false =>
   rw [cond_false]
   cases p.P.length == 0 with
   | true => exact ⟨[], (List.append_nil _).symm⟩
   | false =>
    rw [cond_false]
    cases t6 (l.getD k Enc.dflt) == 3 || t6 (l.getD k Enc.dflt) == 4 with
    | true =>
     rw [cond_true]
     cases p.D.getD (kxN (l.getD k Enc.dflt) p.P.length) Enc.dflt with
     | true => exact ⟨[], (List.append_nil _).symm⟩
     | false => exact ⟨[], (List.append_nil _).symm⟩
    | false =>
     rw [cond_false]
     cases !p.D.getD (kxN (l.getD k Enc.dflt) p.P.length) Enc.dflt || ((p.R.getD (kxN (l.getD k Enc.dflt) p.P.length) Enc.dflt).l.length != 2) with
     | true => exact ⟨[], (List.append_nil _).symm⟩
     | false => exact ⟨_, rfl⟩
theorem mdK_pre (l : List U4) (wr : Bool) (k : Nat) : ∀ d, ∃ L, (mdK l wr (k + d)).O = (mdK l wr k).O ++ L
 | 0 => ⟨[], (List.append_nil _).symm⟩
 | d + 1 => by
  obtain ⟨L, hL⟩ := mdK_pre l wr k d
  have e1 : mdK l wr (k + (d + 1)) = cond (Nat.blt (mdK l wr (k + d)).O.length 36) (mdS l wr (mdK l wr (k + d)) (k + d)) (mdK l wr (k + d)) := rfl
  rw [e1]
  cases Nat.blt (mdK l wr (k + d)).O.length 36 with
  | true =>
   obtain ⟨M, hM⟩ := mdS_pre l wr (mdK l wr (k + d)) (k + d)
   exact ⟨L ++ M, by rw [cond_true, hM, hL, List.append_assoc]⟩
  | false => exact ⟨L, hL⟩
theorem made_ev {l : List U4} {wr : Bool} {k q : Nat} (hk : k ≤ l.length) (hq : q < (mdK l wr k).O.length) : ev (made l wr) q = ev (mdK l wr k).O q := by
 obtain ⟨L, hL⟩ := mdK_pre l wr k (l.length - k)
 rw [show k + (l.length - k) = l.length by omega] at hL
 show (mdK l wr l.length).O.getD q Enc.dflt = _
 rw [hL]
 exact getD_app_lt _ L Enc.dflt hq
end Go.Proofs.Ytjibiphgbhlhkaa.Ev
end
section
namespace Go.Proofs.Ytjibiphgbhlhkaa.Ev
open Go Go.Proofs Go.RowKit
def Rq (H : List Evt) (q : Nat) : Prop := q < H.length ∧ (ev H q).k = 1
def An (H : List Evt) (q t : Nat) : Prop := t < H.length ∧ (ev H t).k = 2 ∧ kEq (ev H t) (ev H q) = true
theorem An.uniq {H : List Evt} (hW : WfH H) {q t t' : Nat} (h : An H q t) (h' : An H q t') : t = t' := by
 obtain ⟨a1, a2, a3⟩ := h
 obtain ⟨b1, b2, b3⟩ := h'
 have hk := kEq_trans a3 (kEq_symm b3)
 rcases Nat.lt_trichotomy t t' with h | h | h
 ·have := kEq_symm hk
  rw [hW.once t t' h b1 a2 b2] at this; cases this
 ·exact h
 ·rw [hW.once t' t h a1 b2 a2] at hk; cases hk
theorem ansT_iff {H : List Evt} (hW : WfH H) {q t : Nat} : ansT H H.length q = some t ↔ An H q t := by
 constructor
 ·intro h
  obtain ⟨a, b, c⟩ := ansT_lt h
  exact ⟨a, b, c⟩
 ·intro h
  cases h' : ansT H H.length q with
  | none =>
   exfalso
   unfold ansT at h'
   rw [List.find?_eq_none] at h'
   have := h' t (List.mem_range.2 h.1)
   rw [h.2.1, h.2.2] at this
   exact this rfl
  | some t' =>
   obtain ⟨a, b, c⟩ := ansT_lt h'
   rw [An.uniq hW ⟨a, b, c⟩ h]
theorem ansT_no {H : List Evt} (hW : WfH H) {q : Nat} : ansT H H.length q = none ↔ ∀ t, ¬ An H q t := by
 constructor
 ·intro h t ht
  rw [(ansT_iff hW).2 ht] at h; cases h
 ·intro h
  cases h' : ansT H H.length q with
  | none => rfl
  | some t => exact absurd ((ansT_iff hW).1 h') (h t)
theorem an_or {H : List Evt} (hW : WfH H) (q : Nat) : (∃ t, An H q t) ∨ ∀ t, ¬ An H q t := by
 cases h : ansT H H.length q with
 | none => exact .inr ((ansT_no hW).1 h)
 | some t => exact .inl ⟨t, (ansT_iff hW).1 h⟩
theorem askH_an {H : List Evt} (hH : HiG H) {q t : Nat} (h : An H q t) : (askH H q).to = (t : Int) ∧ (askH H q).mu = true ∧ (askH H q).vs = cond (ev H q).w (ev H q).v (ev H t).v := by
 have h1 := (ansT_iff hH.wf).2 h
 refine ⟨by rw [askH_to, h1], ?_, by rw [askH_vs, h1]⟩
 rw [askH_mu, h1]
 show ((ev H t).e == 0) = true
 rw [(hH.ev h.1).er]; rfl
theorem askH_no {H : List Evt} (hH : HiG H) {q : Nat} (h : ∀ t, ¬ An H q t) : (askH H q).to = (H.length : Int) ∧ (askH H q).mu = false ∧ (askH H q).vs = (ev H q).v := by
 have h1 := (ansT_no hH.wf).2 h
 exact ⟨by rw [askH_to, h1], by rw [askH_mu, h1], by rw [askH_vs, h1]⟩
theorem askH_w {H : List Evt} {q : Nat} (hw : (ev H q).w = true) : (askH H q).vs = (ev H q).v := by
 rw [askH_vs]
 cases ansT H H.length q with
 | none => rfl
 | some t => show cond _ _ _ = _; rw [hw]; rfl
theorem pl_only {H : List Evt} (hW : WfH H) {q : Nat} (h : (askH H q).pl = true) : (ev H q).w = true ∨ ∃ t, An H q t := by
 rcases an_or hW q with h1 | h1
 ·exact .inr h1
 ·left
  have h2 := (ansT_no hW).2 h1
  have h : mayB (askT H H.length q (ansT H H.length q)) (rdN H) = true := h
  rw [h2] at h
  unfold mayB at h
  cases hp : (askT H H.length q none).pl with
  | false => rw [hp] at h; cases h
  | true => exact hp
structure HiS (N : Nat) (H : List Evt) : Prop where
 hi : HiG H
 cells : ∀ q, q < H.length → (ev H q).k = 3 → (ev H q).m.length = N
 adr : ∀ q, Rq H q → ∀ c ∈ (ev H q).a, 0 ≤ c ∧ c < (N : Int)
 lw : ∀ q, Rq H q → (ev H q).w = true → (ev H q).v.length = (ev H q).a.length
 lr : ∀ q t, Rq H q → An H q t → (ev H q).w = false → (ev H t).v.length = (ev H q).a.length
theorem HiS.pl {N : Nat} {H : List Evt} (h : HiS N H) {q : Nat} (hq : Rq H q) (ha : (ev H q).w = true ∨ ∃ t, An H q t) : (askH H q).pl = true := by
 have hN : rdN H = (N : Int) := by
  rcases h.hi.h0 with h0 | h0
  ·have := hq.1; omega
  ·have h1 : 0 < H.length := by have := hq.1; omega
   rw [rdN_eq h.hi.wf h1 h0, h.cells 0 h1 h0]; rfl
 have hvs : (askH H q).vs.length = (ev H q).a.length := by
  cases hw : (ev H q).w with
  | true => rw [askH_w hw]; exact h.lw q hq hw
  | false =>
   rcases ha with ha | ⟨t, ht⟩
   ·rw [hw] at ha; cases ha
   ·rw [(askH_an h.hi ht).2.2, hw]; exact h.lr q t hq ht hw
 show mayB (askT H H.length q (ansT H H.length q)) (rdN H) = true
 have e1 : (askT H H.length q (ansT H H.length q)).vs.length = (ev H q).a.length := hvs
 have e2 : (askT H H.length q (ansT H H.length q)).ev = ev H q := askH_ev H q
 have e3 : (askT H H.length q (ansT H H.length q)).pl = true := by
  cases h1 : ansT H H.length q with
  | none =>
   rcases ha with ha | ⟨t, ht⟩
   ·exact ha
   ·rw [(ansT_iff h.hi.wf).2 ht] at h1; cases h1
  | some t =>
   show ((ev H t).e == 0) = true
   rw [(h.hi.ev (ansT_lt h1).1).er]; rfl
 have e4 : nvI (askT H H.length q (ansT H H.length q)) = 0 := by
  unfold nvI
  rw [e1, e2, Int.sub_self]; rfl
 unfold mayB
 rw [e3, e4, e2, hN, cond_true]
 show (!oobA (ev H q).a N) = true
 rw [Bool.not_eq_true']
 unfold oobA
 rw [List.any_eq_false]
 intro c hc
 obtain ⟨c0, c1⟩ := h.adr q hq c hc
 unfold outN
 rw [Bool.or_eq_true, decide_eq_true_eq, decide_eq_true_eq]
 omega
def samE (m : List Vl) (a : List Int) (v : List Vl) : Bool := (List.range a.length).all fun i => sameV (m.getD (a.getD i Enc.dflt).toNat Enc.dflt) (v.getD i Enc.dflt)
def wrV (e : Evt) : Wr := ⟨0, 0, e.a, 0, e.v, 0⟩
def nxE (e : Evt) (m : List Vl) : List Vl := drW (wrV e) m e.a.length
theorem drW_congr {w w' : Wr} (ha : w.a = w'.a) (hv : w.v = w'.v) (m : List Vl) : ∀ k, drW w m k = drW w' m k
 | 0 => rfl
 | k + 1 => by
  show dr1 w (drW w m k) k = dr1 w' (drW w' m k) k
  rw [drW_congr ha hv m k]
  unfold dr1
  rw [ha, hv]
theorem nxt_nx {H : List Evt} {q : Nat} (hw : (ev H q).w = true) (m : List Vl) : Ev.nxt m (askH H q) = nxE (ev H q) m := by
 unfold Ev.nxt nxE
 rw [askH_ev]
 exact drW_congr (by show (askH H q).ev.a = _; rw [askH_ev]; rfl) (by show (askH H q).vs = _; rw [askH_w hw]; rfl) m _
def upP (D : Nat → Bool) (q : Nat) : Nat → Bool := fun q' => D q' || decide (q = q')
inductive Od (H : List Evt) : Nat → (Nat → Bool) → Bool → List Vl → Prop
 | fin {a D b m} : a = H.length → Od H a D b m
 | bnd {a D b m} : a < H.length → (ev H a).k = 3 → Od H (a + 1) D true (ev H a).m → Od H a D b m
 | nxt {a D b m} : a < H.length → (ev H a).k ≠ 3 → (∀ q, Rq H q → An H q a → D q = true) → Od H (a + 1) D b m → Od H a D b m
 | plw {a D m} (q : Nat) : Rq H q → q < a → (∀ t, An H q t → a ≤ t) → D q = false → (ev H q).w = true → Od H a (upP D q) true (nxE (ev H q) m) → Od H a D true m
 | plr {a D m} (q t : Nat) : Rq H q → An H q t → q < a → a ≤ t → D q = false → (ev H q).w = false → samE m (ev H q).a (ev H t).v = true → Od H a (upP D q) true m → Od H a D true m
def BitsD (H : List Evt) (d : Int) (D : Nat → Bool) : Prop := ∀ i q, (nA H H.length)[i]? = some q → bitB d i = D q
theorem BitsD.up {H : List Evt} (hW : WfH H) {d : Int} {D : Nat → Bool} (h : BitsD H d D) (h0 : 0 ≤ d) (h1 : d < 256) {i q : Nat} (hi : (nA H H.length)[i]? = some q) : BitsD H (setB d i) (upP D q) := fun j q' hj => by
 have hil := some_lt hi
 have hjl := some_lt hj
 have h8 := hW.n8
 rw [bit_set h0 (by omega) (by omega) (by omega), h j q' hj]
 unfold upP
 congr 1
 apply decide_eq_decide.2
 constructor
 ·intro e
  subst e
  rw [hi] at hj
  exact Option.some.inj hj
 ·intro e
  subst e
  rcases Nat.lt_trichotomy i j with h2 | h2 | h2
  ·have := nA_sorted H _ i j q q h2 hi hj; omega
  ·exact h2
  ·have := nA_sorted H _ j i q q h2 hj hi; omega
theorem rq_at {H : List Evt} {q : Nat} (h : Rq H q) : ∃ i : Nat, i < (nA H H.length).length ∧ (nA H H.length)[i]? = some q := by
 obtain ⟨i, hi, hiq⟩ := List.getElem_of_mem (nA_mem.2 h)
 exact ⟨i, hi, by rw [List.getElem?_eq_getElem hi, hiq]⟩
theorem at_rq {H : List Evt} {i q : Nat} (h : (nA H H.length)[i]? = some q) : Rq H q := nA_get_lt h
theorem blk_iff {H : List Evt} (hH : HiG H) {a : Nat} {d : Int} (h0 : 0 ≤ d) (h1 : d < 256) {D : Nat → Bool} (hD : BitsD H d D) : Ev.blocked (asks H) (a : Int) d (asks H).length = false ↔ ∀ q, Rq H q → An H q a → D q = true := by
 have h8 := hH.wf.n8
 unfold Ev.blocked
 rw [List.any_eq_false]
 constructor
 ·intro h q hq ha
  obtain ⟨i, hi, hiq⟩ := rq_at hq
  have := h i (List.mem_range.2 (by rw [asks_len hH.wf]; exact hi))
  unfold lacks at this
  obtain ⟨e1, e2, e3⟩ := askH_an hH ha
  rw [asks_get hH.wf hiq, e1, e2, bit0_eq h0 (by omega) (by omega), hD i q hiq] at this
  cases hb : D q with
  | true => rfl
  | false => rw [hb] at this; simp at this
 ·intro h i hi
  have hi := List.mem_range.1 hi
  rw [asks_len hH.wf] at hi
  have hiq : (nA H H.length)[i]? = some ((nA H H.length)[i]) := List.getElem?_eq_getElem hi
  generalize (nA H H.length)[i] = q at hiq
  unfold lacks
  rw [asks_get hH.wf hiq, bit0_eq h0 (by omega) (by omega), hD i q hiq]
  rcases an_or hH.wf q with ⟨t, ht⟩ | hn
  ·obtain ⟨e1, e2, e3⟩ := askH_an hH ht
   rw [e1, e2]
   by_cases hta : t = a
   ·subst hta
    rw [h q (at_rq hiq) ht]; simp
   ·have : ((t : Int) == (a : Int)) = false := beq_eq_false_iff_ne.2 (by omega)
    rw [this]; simp
  ·obtain ⟨e1, e2, e3⟩ := askH_no hH hn
   rw [e2]; simp
theorem elig_iff {N : Nat} {H : List Evt} (hS : HiS N H) {a : Nat} (haH : a ≤ H.length) {d : Int} {b : Bool} {D : Nat → Bool} (hD : BitsD H d D) {i q : Nat} (hi : (nA H H.length)[i]? = some q) : elig (asks H) (a : Int) d b i = true ↔ ((ev H q).w = true ∨ ∃ t, An H q t) ∧ D q = false ∧ q < a ∧ (∀ t, An H q t → a ≤ t) ∧ b = true := by
 have hH := hS.hi
 unfold elig
 rw [asks_get hH.wf hi, hD i q hi, askH_fr]
 simp only [Bool.and_eq_true, Bool.not_eq_true', decide_eq_false_iff_not]
 constructor
 ·rintro ⟨p1, p2, p3, p4, p5⟩
  refine ⟨pl_only hH.wf p1, p2, by omega, fun t ht => ?_, p5⟩
  rw [(askH_an hH ht).1] at p4
  omega
 ·rintro ⟨p1, p2, p3, p4, p5⟩
  refine ⟨hS.pl (at_rq hi) p1, p2, by omega, ?_, p5⟩
  rcases an_or hH.wf q with ⟨t, ht⟩ | hn
  ·rw [(askH_an hH ht).1]
   have := p4 t ht
   omega
  ·rw [(askH_no hH hn).1]; omega
theorem sam_iff {H : List Evt} (hH : HiG H) {q t : Nat} (ht : An H q t) (hw : (ev H q).w = false) (m : List Vl) : samK m (askH H q) (askH H q).ev.a.length = samE m (ev H q).a (ev H t).v := by
 unfold samK samE
 rw [askH_ev, (askH_an hH ht).2.2, hw]; rfl
theorem set_rng {d : Int} {i : Nat} (h0 : 0 ≤ d) (h1 : d < 256) (hi : i < 8) : 0 ≤ setB d i ∧ setB d i < 256 := by
 obtain ⟨e1, e2⟩ := setB_eq (i := i) h0 (by omega) (by omega)
 obtain ⟨D, hD⟩ := Int.eq_ofNat_of_zero_le h0
 subst hD
 have h2 : 2 ^ i < 2 ^ 8 := Nat.pow_lt_pow_right (by omega) (by omega)
 have h3 : D ||| 2 ^ i < 2 ^ 8 := Nat.or_lt_two_pow (by omega) h2
 rw [e1, Int.toNat_natCast]
 omega
theorem al_od {N : Nat} {H : List Evt} (hS : HiS N H) {a d : Int} {b : Bool} {m : List Vl} (h : Al H (asks H) a d b m) : ∀ {a' : Nat} {D : Nat → Bool}, a = (a' : Int) → a' ≤ H.length → 0 ≤ d → d < 256 → BitsD H d D → Od H a' D b m := by
 have hH := hS.hi
 have h8 := hH.wf.n8
 induction h with
 | fin he => intro a' D e1 e2 d0 d1 hD; exact .fin (by simp only [Int.ofNat_eq_natCast] at he; omega)
 | bnd hlt h3 _ ih =>
  intro a' D e1 e2 d0 d1 hD
  subst e1
  have hlt' : a' < H.length := by simp only [Int.ofNat_eq_natCast] at hlt; omega
  exact .bnd hlt' h3 (ih (by omega) (by omega) d0 d1 hD)
 | nxt hlt h3 hb _ ih =>
  intro a' D e1 e2 d0 d1 hD
  subst e1
  have hlt' : a' < H.length := by simp only [Int.ofNat_eq_natCast] at hlt; omega
  exact .nxt hlt' h3 (fun q hq ha => (blk_iff hH d0 d1 hD).1 (hb ha.2.1) q hq ha) (ih (by omega) (by omega) d0 d1 hD)
 | plw i hi he hw _ ih =>
  intro a' D e1 e2 d0 d1 hD
  subst e1
  rw [asks_len hH.wf] at hi
  have hiq : (nA H H.length)[i]? = some ((nA H H.length)[i]) := List.getElem?_eq_getElem hi
  generalize (nA H H.length)[i] = q at hiq
  obtain ⟨p1, p2, p3, p4, p5⟩ := (elig_iff hS e2 hD hiq).1 he
  rw [asks_get hH.wf hiq, askH_ev] at hw
  subst p5
  obtain ⟨r1, r2⟩ := set_rng (i := i) d0 d1 (by omega)
  refine .plw q (at_rq hiq) p3 p4 p2 hw ?_
  have := ih rfl e2 r1 r2 (hD.up hH.wf d0 d1 hiq)
  rw [asks_get hH.wf hiq, nxt_nx hw] at this
  exact this
 | plr i hi he hw hs _ ih =>
  intro a' D e1 e2 d0 d1 hD
  subst e1
  rw [asks_len hH.wf] at hi
  have hiq : (nA H H.length)[i]? = some ((nA H H.length)[i]) := List.getElem?_eq_getElem hi
  generalize (nA H H.length)[i] = q at hiq
  obtain ⟨p1, p2, p3, p4, p5⟩ := (elig_iff hS e2 hD hiq).1 he
  rw [asks_get hH.wf hiq, askH_ev] at hw
  rw [asks_get hH.wf hiq] at hs
  subst p5
  obtain ⟨r1, r2⟩ := set_rng (i := i) d0 d1 (by omega)
  rcases p1 with p1 | ⟨t, ht⟩
  ·rw [hw] at p1; cases p1
  rw [sam_iff hH ht hw] at hs
  exact .plr q t (at_rq hiq) ht p3 (p4 t ht) p2 hw hs (ih rfl e2 r1 r2 (hD.up hH.wf d0 d1 hiq))
theorem od_al {N : Nat} {H : List Evt} (hS : HiS N H) {a : Nat} {D : Nat → Bool} {b : Bool} {m : List Vl} (h : Od H a D b m) : ∀ {d : Int}, a ≤ H.length → 0 ≤ d → d < 256 → BitsD H d D → Al H (asks H) (a : Int) d b m := by
 have hH := hS.hi
 have h8 := hH.wf.n8
 induction h with
 | fin he => intro d e2 d0 d1 hD; exact .fin (by rw [he]; rfl)
 | @bnd a D b m hlt h3 _ ih =>
  intro d e2 d0 d1 hD
  have := ih (by omega) d0 d1 hD
  exact .bnd (by simp only [Int.ofNat_eq_natCast]; omega) h3 this
 | @nxt a D b m hlt h3 hb _ ih =>
  intro d e2 d0 d1 hD
  have := ih (by omega) d0 d1 hD
  exact .nxt (by simp only [Int.ofNat_eq_natCast]; omega) h3 (fun _ => (blk_iff hH d0 d1 hD).2 hb) this
 | @plw a D m q hq hqa hto hd hw _ ih =>
  intro d e2 d0 d1 hD
  obtain ⟨i, hi, hiq⟩ := rq_at hq
  obtain ⟨r1, r2⟩ := set_rng (i := i) d0 d1 (by omega)
  have := ih e2 r1 r2 (hD.up hH.wf d0 d1 hiq)
  refine .plw i (by rw [asks_len hH.wf]; exact hi) ((elig_iff hS e2 hD hiq).2 ⟨.inl hw, hd, hqa, hto, rfl⟩) (by rw [asks_get hH.wf hiq, askH_ev]; exact hw) ?_
  rw [asks_get hH.wf hiq, nxt_nx hw]
  exact this
 | @plr a D m q t hq ht hqa hat hd hw hs _ ih =>
  intro d e2 d0 d1 hD
  obtain ⟨i, hi, hiq⟩ := rq_at hq
  obtain ⟨r1, r2⟩ := set_rng (i := i) d0 d1 (by omega)
  have := ih e2 r1 r2 (hD.up hH.wf d0 d1 hiq)
  exact .plr i (by rw [asks_len hH.wf]; exact hi) ((elig_iff hS e2 hD hiq).2 ⟨.inr ⟨t, ht⟩, hd, hqa, fun t' ht' => by rw [An.uniq hH.wf ht' ht]; exact hat, rfl⟩) (by rw [asks_get hH.wf hiq, askH_ev]; exact hw) (by rw [asks_get hH.wf hiq, sam_iff hH ht hw]; exact hs) this
theorem fits_od {N : Nat} {H : List Evt} (hS : HiS N H) : fitsB H = true ↔ Od H 0 (fun _ => false) false [] := by
 have h0 : BitsD H 0 (fun _ => false) := fun i q hi => by
  have := some_lt hi
  have h8 := hS.hi.wf.n8
  rw [bitB_eq (Int.le_refl _) (by decide) (by omega)]
  exact Nat.zero_testBit i
 rw [hS.hi.fits]
 constructor
 ·intro h
  exact al_od hS h rfl (Nat.zero_le _) (Int.le_refl _) (by decide) h0
 ·intro h
  exact od_al hS h (Nat.zero_le _) (Int.le_refl _) (by decide) h0
end Go.Proofs.Ytjibiphgbhlhkaa.Ev
end
