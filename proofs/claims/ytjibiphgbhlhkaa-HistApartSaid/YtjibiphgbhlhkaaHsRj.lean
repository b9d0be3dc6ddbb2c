/-
  HistRight: what Made makes has an order where no answer is wrong.
-/
import Derived.Test.YtjibiphgbhlhkaaQ32
set_option linter.unusedVariables false
set_option linter.unusedSimpArgs false
namespace Go.Proofs.Ytjibiphgbhlhkaa.Ev
open Go Go.Proofs Go.RowKit
inductive StM (wr : Bool) (x : U4) (p : Md) : Md → Prop
 | same : StM wr x p p
 | bnd (m' : List Vl) (cm' : Nat) : StM wr x p { p with m := m', cm := cm', O := p.O ++ [boundE m'] }
 | ask (w : Bool) (late' : Int) : StM wr x p { p with O := p.O ++ [opE x p.P.length w], P := p.P ++ [opE x p.P.length w], D := p.D ++ [false], R := p.R ++ [⟨[], 1⟩], late := late' }
 | eff (kx : Nat) (e : Evt) : p.P[kx]? = some e → p.D.getD kx Enc.dflt = false → StM wr x p { p with m := efM e p.m, cm := 0, D := p.D.set kx true, R := p.R.set kx ⟨[(efM e p.m).getD (aN e 0) Enc.dflt, (efM e p.m).getD (aN e 1) Enc.dflt], 0⟩ }
 | ans (kx : Nat) (e : Evt) (late' : Int) : p.P[kx]? = some e → p.D.getD kx Enc.dflt = true → (p.R.getD kx Enc.dflt).l.length = 2 → StM wr x p { p with O := p.O ++ [ansO e (ansV e wr x (p.R.getD kx Enc.dflt))], R := p.R.set kx ⟨[], 1⟩, late := late' }
theorem mdS_st {l : List U4} {wr : Bool} {p : Md} {k : Nat} (hb : l.all (okA U4) = true) (hk : k < l.length) (hI : InvM p k) : StM wr (l.getD k Enc.dflt) p (mdS l wr p k) := by
 have hx : okB4 (l.getD k Enc.dflt) = true := all_get' hb hk
 unfold mdS
 generalize l.getD k Enc.dflt = x at hx ⊢
 obtain ⟨⟨xa0, xa1⟩, ⟨xb0, xb1⟩, ⟨xc0, xc1⟩, ⟨xd0, xd1⟩⟩ := (okB4_iff x).1 hx
 cases t6 x == 0 with
 | true => exact .bnd _ _
 | false =>
  rw [cond_false]
  cases t6 x == 1 || t6 x == 2 with
  | true =>
   rw [cond_true]
   cases decide (Int.ofNat p.P.length ≥ 8) || (t6 x == 1 && decide (p.late ≥ 3)) with
   | true => exact .same
   | false => exact .ask _ _
  | false =>
   rw [cond_false]
   cases hP0 : p.P.length == 0 with
   | true => exact .same
   | false =>
    rw [cond_false]
    have hpos : 0 < p.P.length := by
     have : p.P.length ≠ 0 := by simpa using hP0
     omega
    have hkP : kxN x p.P.length < p.P.length := by
     have hw : IntKind.wrap .i64 x.b = x.b := w64 (by omega) (by omega)
     obtain ⟨r0, r1⟩ := tmod_rng (b := Int.ofNat p.P.length) xb0 (by simp; omega)
     have r1' : Int.tmod x.b (Int.ofNat p.P.length) < (p.P.length : Int) := r1
     unfold kxN
     rw [hw]; omega
    have hPk : p.P[kxN x p.P.length]? = some (p.P.getD (kxN x p.P.length) Enc.dflt) := by
     rw [List.getElem?_eq_getElem hkP]; simp [List.getD, hkP]
    generalize kxN x p.P.length = kx at hkP hPk ⊢
    generalize p.P.getD kx Enc.dflt = e at hPk ⊢
    cases t6 x == 3 || t6 x == 4 with
    | true =>
     rw [cond_true]
     cases hD : p.D.getD kx Enc.dflt with
     | true => exact .same
     | false => exact .eff kx e hPk hD
    | false =>
     rw [cond_false]
     cases hc : !p.D.getD kx Enc.dflt || ((p.R.getD kx Enc.dflt).l.length != 2) with
     | true => exact .same
     | false =>
      rw [cond_false]
      rw [Bool.or_eq_false_iff, Bool.not_eq_false'] at hc
      exact .ans kx e _ hPk hc.1 (by simpa using hc.2)
theorem mdK_st {l : List U4} {wr : Bool} {k : Nat} (hb : l.all (okA U4) = true) (hk : k < l.length) : StM wr (l.getD k Enc.dflt) (mdK l wr k) (mdK l wr (k + 1)) := by
 have e1 : mdK l wr (k + 1) = cond (Nat.blt (mdK l wr k).O.length 36) (mdS l wr (mdK l wr k) k) (mdK l wr k) := rfl
 rw [e1]
 cases Nat.blt (mdK l wr k).O.length 36 with
 | true => exact mdS_st hb hk (mdW_all hb k (by omega)).2
 | false => exact .same
def MdA (p : Md) : Prop := ∀ t, t < p.O.length → (ev p.O t).k = 2 → ∀ (i : Nat) e, p.P[i]? = some e → kEq (ev p.O t) e = true → (e.w = true → (ev p.O t).v = []) ∧ (e.w = false → (ev p.O t).v.length = 2)
theorem lo_app (O : List Evt) (e : Evt) {q : Nat} (hq : q < (O ++ [e]).length) : q < O.length ∧ ev (O ++ [e]) q = ev O q ∨ q = O.length ∧ ev (O ++ [e]) q = e := by
 rw [List.length_append, List.length_singleton] at hq
 rcases Nat.lt_or_ge q O.length with h | h
 ·exact .inl ⟨h, ev_lt O e h⟩
 ·have : q = O.length := by omega
  subst this; exact .inr ⟨rfl, ev_at O e⟩
theorem mdA_all {l : List U4} {wr : Bool} (hb : l.all (okA U4) = true) : ∀ k, k ≤ l.length → MdA (mdK l wr k)
 | 0, _ => fun t ht hk i e he => by
  have he : ([] : List Evt)[i]? = some e := he
  simp at he
 | k + 1, hk => by
  have ih := mdA_all (wr := wr) hb k (by omega)
  obtain ⟨hW, hI⟩ := mdW_all (wr := wr) hb k (by omega)
  have hst := mdK_st (wr := wr) hb (show k < l.length by omega)
  generalize mdK l wr k = p at hst ih hW hI
  generalize mdK l wr (k + 1) = p' at hst
  cases hst with
  | same => exact ih
  | bnd m' cm' =>
   intro t ht hk i e he hkk
   rcases lo_app p.O (boundE m') ht with ⟨a, b⟩ | ⟨a, b⟩
   ·have hk : (ev (p.O ++ [boundE m']) t).k = 2 := hk
    have hkk : kEq (ev (p.O ++ [boundE m']) t) e = true := hkk
    show (e.w = true → (ev (p.O ++ [boundE m']) t).v = []) ∧ (e.w = false → (ev (p.O ++ [boundE m']) t).v.length = 2)
    rw [b] at hk hkk ⊢
    exact ih t a hk i e he hkk
   ·have hk : (ev (p.O ++ [boundE m']) t).k = 2 := hk
    rw [b] at hk; cases hk
  | ask w late' =>
   intro t ht hk i e he hkk
   have hk : (ev (p.O ++ [opE (l.getD k Enc.dflt) p.P.length w]) t).k = 2 := hk
   have hkk : kEq (ev (p.O ++ [opE (l.getD k Enc.dflt) p.P.length w]) t) e = true := hkk
   show (e.w = true → (ev (p.O ++ [opE (l.getD k Enc.dflt) p.P.length w]) t).v = []) ∧ (e.w = false → (ev (p.O ++ [opE (l.getD k Enc.dflt) p.P.length w]) t).v.length = 2)
   rcases lo_app p.O _ ht with ⟨a, b⟩ | ⟨a, b⟩
   ·rw [b] at hk hkk ⊢
    have he : (p.P ++ [opE (l.getD k Enc.dflt) p.P.length w])[i]? = some e := he
    rcases Nat.lt_or_ge i p.P.length with h1 | h1
    ·rw [List.getElem?_append_left h1] at he
     exact ih t a hk i e he hkk
    ·have hil := some_lt he
     rw [List.length_append, List.length_singleton] at hil
     have : i = p.P.length := by omega
     subst this
     rw [List.getElem?_append_right (Nat.le_refl _), Nat.sub_self] at he
     obtain rfl : opE (l.getD k Enc.dflt) p.P.length w = e := by simpa using he
     obtain ⟨i', e', a1, a2, a3, a4⟩ := hW.an t a hk
     have h2 := ((kEq_iff _ _).1 (kEq_trans (kEq_symm a2) hkk)).2
     rw [hW.ids i' e' a1] at h2
     have h3 : (i' : Int) = (p.P.length : Int) := h2
     have := some_lt a1
     omega
   ·rw [b] at hk; cases hk
  | eff kx e0 he0 hD => exact ih
  | ans kx e0 late' he0 hD hR =>
   intro t ht hk i e he hkk
   generalize hv : ansV e0 wr (l.getD k Enc.dflt) (p.R.getD kx Enc.dflt) = v at ht hk hkk ⊢
   have hk : (ev (p.O ++ [ansO e0 v]) t).k = 2 := hk
   have hkk : kEq (ev (p.O ++ [ansO e0 v]) t) e = true := hkk
   show (e.w = true → (ev (p.O ++ [ansO e0 v]) t).v = []) ∧ (e.w = false → (ev (p.O ++ [ansO e0 v]) t).v.length = 2)
   rcases lo_app p.O _ ht with ⟨a, b⟩ | ⟨a, b⟩
   ·rw [b] at hk hkk ⊢
    exact ih t a hk i e he hkk
   ·rw [b] at hk hkk ⊢
    have he : p.P[i]? = some e := he
    have h2 : e0.i = e.i := ((kEq_iff _ _).1 hkk).2
    rw [hW.ids kx e0 he0, hW.ids i e he] at h2
    have : kx = i := by omega
    subst this
    rw [he0] at he
    cases he
    show (e0.w = true → v.1 = []) ∧ (e0.w = false → v.1.length = 2)
    rw [← hv]
    unfold ansV
    refine ⟨fun hw => by rw [hw]; rfl, fun hw => ?_⟩
    rw [hw, cond_false]
    cases wr && (Int.tmod (l.getD k Enc.dflt).c 4 == 0) with
    | true => rfl
    | false => exact hR
theorem made_ids {l : List U4} {wr : Bool} (hb : l.all (okA U4) = true) {q : Nat} (hq : Rq (made l wr) q) : ∃ i : Nat, (nA (made l wr) (made l wr).length)[i]? = some q ∧ (mdK l wr l.length).P[i]? = some (ev (made l wr) q) ∧ (ev (made l wr) q).i = (i : Int) := by
 have hW := (mdW_all (wr := wr) hb l.length (Nat.le_refl _)).1
 obtain ⟨i, h1, h2⟩ := hW.asked hq.1 hq.2
 exact ⟨i, h1, h2, hW.ids i _ h2⟩
theorem made_id {l : List U4} {wr : Bool} (hb : l.all (okA U4) = true) {q q' : Nat} (hq : Rq (made l wr) q) (hq' : Rq (made l wr) q') (h : (ev (made l wr) q).i = (ev (made l wr) q').i) : q = q' := by
 obtain ⟨i, h1, h2, h3⟩ := made_ids hb hq
 obtain ⟨j, g1, g2, g3⟩ := made_ids hb hq'
 rw [h3, g3] at h
 have : i = j := by omega
 subst this
 rw [h1] at g1
 exact Option.some.inj g1
theorem made_op {l : List U4} {wr : Bool} (hb : l.all (okA U4) = true) {q : Nat} (hq : Rq (made l wr) q) : OpOk (ev (made l wr) q) := by
 obtain ⟨i, h1, h2, h3⟩ := made_ids hb hq
 exact (mdW_all (wr := wr) hb l.length (Nat.le_refl _)).2.ops _ (List.mem_of_getElem? h2)
theorem adr_op {e : Evt} (h : OpOk e) : ∀ c ∈ e.a, 0 ≤ c ∧ c < ((3 : Nat) : Int) := by
 obtain ⟨la, a0, a1, lv⟩ := h
 obtain ⟨k, s, i, w, er, a, ca, v, cv, m, cm⟩ := e
 simp only at la a0 a1
 match a, la with
 | [x, y], _ =>
  intro c hc
  rcases List.mem_cons.1 hc with h | h
  ·rw [h]; exact ⟨a0.1, a0.2⟩
  ·rw [List.mem_singleton] at h; rw [h]; exact ⟨a1.1, a1.2⟩
theorem made_an {l : List U4} {wr : Bool} (hb : l.all (okA U4) = true) {q t : Nat} (hq : Rq (made l wr) q) (ht : An (made l wr) q t) : ((ev (made l wr) q).w = true → (ev (made l wr) t).v = []) ∧ ((ev (made l wr) q).w = false → (ev (made l wr) t).v.length = 2) := by
 obtain ⟨i, h1, h2, h3⟩ := made_ids hb hq
 exact mdA_all (wr := wr) hb l.length (Nat.le_refl _) t ht.1 ht.2.1 i _ h2 ht.2.2
theorem made_his {l : List U4} {wr : Bool} (hb : l.all (okA U4) = true) : HiS 3 (made l wr) := by
 refine ⟨made_hi hb, (mdW_all hb l.length (Nat.le_refl _)).1.bm, fun q hq => adr_op (made_op hb hq), fun q hq hw => ?_, fun q t hq ht hw => ?_⟩
 ·rw [(made_op hb hq).lv hw, (made_op hb hq).la]
 ·rw [(made_an hb hq ht).2 hw, (made_op hb hq).la]
theorem Od.congr {H : List Evt} {a : Nat} {D : Nat → Bool} {b : Bool} {m : List Vl} (h : Od H a D b m) : ∀ {D' : Nat → Bool}, (∀ q, Rq H q → D q = D' q) → Od H a D' b m := by
 induction h with
 | fin he => intro D' _; exact .fin he
 | bnd hlt h3 _ ih => intro D' hD; exact .bnd hlt h3 (ih hD)
 | nxt hlt h3 hb _ ih => intro D' hD; exact .nxt hlt h3 (fun q hq ha => by rw [← hD q hq]; exact hb q hq ha) (ih hD)
 | plw q hq hqa hto hd hw _ ih =>
  intro D' hD
  exact .plw q hq hqa hto (by rw [← hD q hq]; exact hd) hw (ih fun q' hq' => by unfold upP; rw [hD q' hq'])
 | plr q t hq ht hqa hat hd hw hs _ ih =>
  intro D' hD
  exact .plr q t hq ht hqa hat (by rw [← hD q hq]; exact hd) hw hs (ih fun q' hq' => by unfold upP; rw [hD q' hq'])
theorem nxE_eq {e : Evt} {m : List Vl} (hop : OpOk e) (hw : e.w = true) (m3 : 3 ≤ m.length) : nxE e m = efM e m := by
 have l2 := hop.lv hw
 have b0 := hop.a0
 have b1 := hop.a1
 unfold nxE efM
 rw [hop.la, hw, cond_true]
 show dr1 (wrV e) (dr1 (wrV e) m 0) 1 = _
 have h0 : dr1 (wrV e) m 0 = m.set (aN e 0) (e.v.getD 0 Enc.dflt) := by
  unfold dr1
  rw [if_pos ⟨b0.1, by show e.a.getD 0 Enc.dflt < _; simp only [Int.ofNat_eq_natCast]; omega, by show 0 < e.v.length; omega⟩]; rfl
 rw [h0]
 unfold dr1
 rw [if_pos ⟨b1.1, by show e.a.getD 1 Enc.dflt < _; rw [List.length_set]; simp only [Int.ofNat_eq_natCast]; omega, by show 1 < e.v.length; omega⟩]; rfl
theorem samE_of {e : Evt} {m : List Vl} (hop : OpOk e) (hm : ∀ v ∈ m, gdV v) (m3 : 3 ≤ m.length) {v : List Vl} (hv : v = [m.getD (aN e 0) Enc.dflt, m.getD (aN e 1) Enc.dflt]) : samE m e.a v = true := by
 have b0 := hop.a0
 have b1 := hop.a1
 unfold samE
 rw [hop.la, List.all_eq_true]
 intro i hi
 have hi := List.mem_range.1 hi
 rw [hv]
 match i, hi with
 | 0, _ => exact sameV_self (hm _ (getD_mem _ (by omega)))
 | 1, _ => exact sameV_self (hm _ (getD_mem _ (by omega)))
def plq (H : List Evt) (q : Nat) : Bool := (ev H q).w || (ansT H H.length q).isSome
def Dk (H : List Evt) (p : Md) : Nat → Bool := fun q => p.D.getD (ev H q).i.toNat Enc.dflt && plq H q
def RcM (H : List Evt) (p : Md) : Prop := ∀ (i : Nat) e, p.P[i]? = some e → e.w = false → p.D.getD i Enc.dflt = true → (p.R.getD i Enc.dflt).l.length = 2 → ∀ q t, Rq H q → (ev H q).i = (i : Int) → An H q t → (ev H t).v = (p.R.getD i Enc.dflt).l
theorem getD_app_f (D : List Bool) (i : Nat) : (D ++ [false]).getD i Enc.dflt = D.getD i Enc.dflt := by
 rcases Nat.lt_or_ge i D.length with h | h
 ·exact getD_app_lt _ _ _ h
 ·rw [getD_app_ge _ _ _ h]
  simp only [List.getD, List.getElem?_eq_none h, Option.getD_none]
  cases i - D.length with
  | zero => rfl
  | succ n => simp
theorem right_step {l : List U4} (hb : l.all (okA U4) = true) {k : Nat} (hk : k < l.length) (hC : RcM (made l false) (mdK l false (k + 1))) (hO : Od (made l false) (mdK l false (k + 1)).O.length (Dk (made l false) (mdK l false (k + 1))) true (mdK l false (k + 1)).m) :
  RcM (made l false) (mdK l false k) ∧ Od (made l false) (mdK l false k).O.length (Dk (made l false) (mdK l false k)) true (mdK l false k).m := by
 have hS := made_his (wr := false) hb
 have hWf := hS.hi.wf
 obtain ⟨hW, hI⟩ := mdW_all (wr := false) hb k (by omega)
 have hV := mdV_all (wr := false) hb k (by omega)
 have hst := mdK_st (wr := false) hb hk
 have hpre : ∀ q, q < (mdK l false k).O.length → ev (made l false) q = ev (mdK l false k).O q := fun q hq => made_ev (by omega) hq
 have hpre' : ∀ q, q < (mdK l false (k + 1)).O.length → ev (made l false) q = ev (mdK l false (k + 1)).O q := fun q hq => made_ev hk hq
 have hlen : (mdK l false (k + 1)).O.length ≤ (made l false).length := by
  obtain ⟨L, hL⟩ := mdK_pre l false (k + 1) (l.length - (k + 1))
  rw [show k + 1 + (l.length - (k + 1)) = l.length by omega] at hL
  show _ ≤ (mdK l false l.length).O.length
  rw [hL, List.length_append]; omega
 have hid : ∀ {q q' : Nat}, Rq (made l false) q → Rq (made l false) q' → (ev (made l false) q).i = (ev (made l false) q').i → q = q' := fun h h' h2 => made_id hb h h' h2
 have hop : ∀ {q : Nat}, Rq (made l false) q → OpOk (ev (made l false) q) := fun h => made_op hb h
 have hnat : ∀ {q : Nat}, Rq (made l false) q → ∃ i : Nat, (ev (made l false) q).i = (i : Int) := fun h => by
  obtain ⟨i, _, _, h3⟩ := made_ids hb h
  exact ⟨i, h3⟩
 generalize made l false = H at *
 generalize mdK l false k = p at *
 generalize mdK l false (k + 1) = p' at *
 generalize l.getD k Enc.dflt = x at hst
 -- where a request stands
 have place : ∀ {kx : Nat} {e : Evt}, p.P[kx]? = some e → p.O.length ≤ H.length → ∃ q, q < p.O.length ∧ Rq H q ∧ ev H q = e ∧ (ev H q).i = (kx : Int) := by
  intro kx e he hle
  obtain ⟨q, q1, q2, q3, q4⟩ := hW.at he
  have e1 : ev H q = e := by rw [hpre q q2]; exact q4
  refine ⟨q, q2, ⟨by omega, by rw [hpre q q2]; exact q3⟩, e1, ?_⟩
  rw [e1]; exact hW.ids kx e he
 cases hst with
 | same => exact ⟨hC, hO⟩
 | bnd m' cm' =>
  refine ⟨hC, ?_⟩
  have hlen : (p.O ++ [boundE m']).length ≤ H.length := hlen
  rw [List.length_append, List.length_singleton] at hlen
  have e1 : ev H p.O.length = boundE m' := by
   rw [hpre' p.O.length (by show _ < (p.O ++ [boundE m']).length; rw [List.length_append, List.length_singleton]; omega)]
   exact ev_at p.O _
  have hO : Od H (p.O ++ [boundE m']).length (Dk H p) true m' := hO
  rw [List.length_append, List.length_singleton] at hO
  refine .bnd (by omega) (by rw [e1]; rfl) ?_
  rw [e1]
  exact hO
 | ask w late' =>
  have hlen : (p.O ++ [opE x p.P.length w]).length ≤ H.length := hlen
  rw [List.length_append, List.length_singleton] at hlen
  have e1 : ev H p.O.length = opE x p.P.length w := by
   rw [hpre' p.O.length (by show _ < (p.O ++ [opE x p.P.length w]).length; rw [List.length_append, List.length_singleton]; omega)]
   exact ev_at p.O _
  constructor
  ·intro i e he hw hD hR q t hq hqi ht
   have hi := some_lt he
   have e2 : (p.R ++ [(⟨[], 1⟩ : Vs)]).getD i Enc.dflt = p.R.getD i Enc.dflt := getD_app_lt _ _ _ (by rw [hI.lR]; exact hi)
   have := hC i e (by show (p.P ++ [opE x p.P.length w])[i]? = _; rw [List.getElem?_append_left hi]; exact he) hw (by show (p.D ++ [false]).getD i Enc.dflt = _; rw [getD_app_f]; exact hD) (by show ((p.R ++ [(⟨[], 1⟩ : Vs)]).getD i Enc.dflt).l.length = 2; rw [e2]; exact hR) q t hq hqi ht
   rw [this]
   show ((p.R ++ [(⟨[], 1⟩ : Vs)]).getD i Enc.dflt).l = _
   rw [e2]
  ·have hO : Od H (p.O ++ [opE x p.P.length w]).length (fun q => (p.D ++ [false]).getD (ev H q).i.toNat Enc.dflt && plq H q) true p.m := hO
   rw [List.length_append, List.length_singleton] at hO
   refine .nxt (by omega) (by rw [e1]; exact (by decide : (1 : Int) ≠ 3)) (fun q hq ha => ?_) (hO.congr fun q hq => ?_)
   ·have := ha.2.1
    rw [e1] at this; cases this
   ·show ((p.D ++ [false]).getD (ev H q).i.toNat Enc.dflt && plq H q) = (p.D.getD (ev H q).i.toNat Enc.dflt && plq H q)
    rw [getD_app_f]
 | eff kx e he hD0 =>
  have hle : p.O.length ≤ H.length := hlen
  have hkP := some_lt he
  have hkD : kx < p.D.length := by rw [hI.lD]; exact hkP
  have hkR : kx < p.R.length := by rw [hI.lR]; exact hkP
  constructor
  ·intro i e' he' hw hD hR q t hq hqi ht
   have hne : kx ≠ i := fun h => by
    subst h; rw [hD0] at hD; cases hD
   have e2 : ∀ r : Vs, (p.R.set kx r).getD i Enc.dflt = p.R.getD i Enc.dflt := fun r => by simp only [List.getD, List.getElem?_set_ne hne]
   have := hC i e' he' hw (by show (p.D.set kx true).getD i Enc.dflt = true; simp only [List.getD, List.getElem?_set_ne hne]; exact hD) (by
    show ((p.R.set kx _).getD i Enc.dflt).l.length = 2
    rw [e2]; exact hR) q t hq hqi ht
   rw [this]
   show ((p.R.set kx _).getD i Enc.dflt).l = _
   rw [e2]
  ·obtain ⟨q0, a1, a2, a3, a4⟩ := place he hle
   have hopq := hop a2
   rw [a3] at hopq
   have hto : ∀ t, An H q0 t → p.O.length ≤ t := fun t ht => by
    rcases Nat.lt_or_ge t p.O.length with h1 | h1
    ·exfalso
     obtain ⟨t1, t2, t3⟩ := ht
     rw [hpre t h1] at t2 t3
     obtain ⟨i, e', b1, b2, b3, b4⟩ := hW.an t h1 t2
     have h2 := ((kEq_iff _ _).1 (kEq_trans (kEq_symm b2) t3)).2
     rw [hW.ids i e' b1, a4] at h2
     have : i = kx := by omega
     subst this
     rw [hD0] at b4; cases b4
    ·exact h1
   have dset : ∀ i : Nat, (p.D.set kx true).getD i Enc.dflt = (p.D.getD i Enc.dflt || decide (kx = i)) := fun i => by
    by_cases h : kx = i
    ·subst h
     simp only [List.getD, List.getElem?_set_self hkD, Option.getD_some, decide_true, Bool.or_true]
    ·simp only [List.getD, List.getElem?_set_ne h, decide_eq_false h, Bool.or_false]
   have hup : ∀ q, Rq H q → plq H q0 = true → ((p.D.set kx true).getD (ev H q).i.toNat Enc.dflt && plq H q) = upP (Dk H p) q0 q := fun q hq hpl => by
    unfold upP Dk
    rw [dset]
    by_cases h : q0 = q
    ·subst h
     rw [a4, Int.toNat_natCast, hpl]; simp
    ·have hn : ¬ kx = (ev H q).i.toNat := fun h2 => h (hid a2 hq (by
      obtain ⟨i, g1⟩ := hnat hq
      omega))
     rw [decide_eq_false h, decide_eq_false hn, Bool.or_false, Bool.or_false]
   have hO : Od H p.O.length (fun q => (p.D.set kx true).getD (ev H q).i.toNat Enc.dflt && plq H q) true (efM e p.m) := hO
   have hdk : Dk H p q0 = false := by
    unfold Dk
    rw [a4, Int.toNat_natCast, hD0]; rfl
   cases hw : e.w with
   | true =>
    have hpl : plq H q0 = true := by unfold plq; rw [a3, hw]; rfl
    refine .plw q0 a2 a1 hto hdk (by rw [a3]; exact hw) ?_
    rw [a3, nxE_eq hopq hw (by rw [hI.m3]; exact Nat.le_refl _)]
    exact hO.congr fun q hq => hup q hq hpl
   | false =>
    have hm : efM e p.m = p.m := by unfold efM; rw [hw]; rfl
    rw [hm] at hO
    cases hA : ansT H H.length q0 with
    | some t =>
     have ht := (ansT_iff hWf).1 hA
     have hpl : plq H q0 = true := by unfold plq; rw [hA]; simp
     have hR' : (p.R.set kx (⟨[(efM e p.m).getD (aN e 0) Enc.dflt, (efM e p.m).getD (aN e 1) Enc.dflt], 0⟩ : Vs)).getD kx Enc.dflt = ⟨[(efM e p.m).getD (aN e 0) Enc.dflt, (efM e p.m).getD (aN e 1) Enc.dflt], 0⟩ := by simp only [List.getD, List.getElem?_set_self hkR, Option.getD_some]
     have hv := hC kx e he hw (by show (p.D.set kx true).getD kx Enc.dflt = true; rw [dset]; simp) (by
      show ((p.R.set kx _).getD kx Enc.dflt).l.length = 2
      rw [hR']; rfl) q0 t a2 a4 ht
     have hv : (ev H t).v = ((p.R.set kx (⟨[(efM e p.m).getD (aN e 0) Enc.dflt, (efM e p.m).getD (aN e 1) Enc.dflt], 0⟩ : Vs)).getD kx Enc.dflt).l := hv
     rw [hR', hm] at hv
     refine .plr q0 t a2 ht a1 (hto t ht) hdk (by rw [a3]; exact hw) ?_ (hO.congr fun q hq => hup q hq hpl)
     rw [a3]
     exact samE_of hopq hV.gm (by rw [hI.m3]; exact Nat.le_refl _) hv
    | none =>
     have hpl : plq H q0 = false := by unfold plq; rw [a3, hw, hA]; rfl
     refine hO.congr fun q hq => ?_
     by_cases h : q0 = q
     ·subst h
      show (_ && plq H q0) = (_ && plq H q0)
      rw [hpl, Bool.and_false, Bool.and_false]
     ·have hn : ¬ kx = (ev H q).i.toNat := fun h2 => h (hid a2 hq (by
       obtain ⟨i, g1⟩ := hnat hq
       omega))
      show ((p.D.set kx true).getD (ev H q).i.toNat Enc.dflt && plq H q) = (p.D.getD (ev H q).i.toNat Enc.dflt && plq H q)
      rw [dset, decide_eq_false hn, Bool.or_false]
 | ans kx e late' he hD0 hR0 =>
  generalize hv : ansV e false x (p.R.getD kx Enc.dflt) = v at hC hO hlen hpre'
  have hlen : (p.O ++ [ansO e v]).length ≤ H.length := hlen
  rw [List.length_append, List.length_singleton] at hlen
  have hkP := some_lt he
  have hkR : kx < p.R.length := by rw [hI.lR]; exact hkP
  have e1 : ev H p.O.length = ansO e v := by
   rw [hpre' p.O.length (by show _ < (p.O ++ [ansO e v]).length; rw [List.length_append, List.length_singleton]; omega)]
   exact ev_at p.O _
  obtain ⟨q0, a1, a2, a3, a4⟩ := place he (by omega)
  have hA0 : An H q0 p.O.length := ⟨by omega, by rw [e1]; rfl, by rw [e1, a3]; exact (kEq_iff _ _).2 ⟨rfl, rfl⟩⟩
  constructor
  ·intro i e' he' hw hD hR q t hq hqi ht
   by_cases hne : kx = i
   ·subst hne
    rw [he] at he'
    cases he'
    have : q0 = q := hid a2 hq (by rw [a4, hqi])
    subst this
    rw [An.uniq hWf ht hA0, e1]
    show v.1 = _
    rw [← hv]
    unfold ansV
    rw [hw]; rfl
   ·have e2 : ∀ r : Vs, (p.R.set kx r).getD i Enc.dflt = p.R.getD i Enc.dflt := fun r => by simp only [List.getD, List.getElem?_set_ne hne]
    have := hC i e' he' hw hD (by
     show ((p.R.set kx _).getD i Enc.dflt).l.length = 2
     rw [e2]; exact hR) q t hq hqi ht
    rw [this]
    show ((p.R.set kx _).getD i Enc.dflt).l = _
    rw [e2]
  ·have hO : Od H (p.O ++ [ansO e v]).length (Dk H p) true p.m := hO
   rw [List.length_append, List.length_singleton] at hO
   refine .nxt (by omega) (by rw [e1]; exact (by decide : (2 : Int) ≠ 3)) (fun q hq ha => ?_) hO
   have hk := ha.2.2
   rw [e1] at hk
   have h2 : e.i = (ev H q).i := ((kEq_iff _ _).1 hk).2
   rw [hW.ids kx e he] at h2
   unfold Dk
   rw [← h2, Int.toNat_natCast, hD0]
   unfold plq
   rw [(ansT_iff hWf).2 ha]; simp
theorem right_all {l : List U4} (hb : l.all (okA U4) = true) : ∀ j k, j + k = l.length → RcM (made l false) (mdK l false k) ∧ Od (made l false) (mdK l false k).O.length (Dk (made l false) (mdK l false k)) true (mdK l false k).m
 | 0, k, h => by
  have hk : k = l.length := by omega
  subst hk
  have hS := made_his (wr := false) hb
  have hW := (mdW_all (wr := false) hb l.length (Nat.le_refl _)).1
  refine ⟨fun i e he hw hD hR q t hq hqi ht => ?_, .fin rfl⟩
  obtain ⟨i', e', b1, b2, b3, b4⟩ := hW.an t ht.1 ht.2.1
  have h2 := ((kEq_iff _ _).1 (kEq_trans (kEq_symm b2) ht.2.2)).2
  rw [hW.ids i' e' b1, hqi] at h2
  have : i' = i := by omega
  subst this
  rw [b3] at hR; cases hR
 | j + 1, k, h => by
  obtain ⟨h1, h2⟩ := right_all hb j (k + 1) (by omega)
  exact right_step hb (by omega) h1 h2
theorem right_fits {l : List U4} (hb : l.all (okA U4) = true) : fitsB (made l false) = true := by
 have hS := made_his (wr := false) hb
 rw [fits_od hS]
 have h1 := (right_all hb l.length 0 (by omega)).2
 have h0 : (ev (made l false) 0) = boundE [vI 0, vI 0, vI 0] := made_ev (k := 0) (Nat.zero_le _) (by show 0 < 1; omega)
 have hl : 0 < (made l false).length := (mdW_all (wr := false) hb l.length (Nat.le_refl _)).1.ne.1
 refine .bnd hl (by rw [h0]; rfl) ?_
 rw [h0]
 have h1 : Od (made l false) 1 (Dk (made l false) md0) true [vI 0, vI 0, vI 0] := h1
 refine h1.congr fun q hq => ?_
 show (([] : List Bool).getD _ Enc.dflt && _) = false
 simp only [List.getD, List.getElem?_nil, Option.getD_none]
 rfl
end Go.Proofs.Ytjibiphgbhlhkaa.Ev
