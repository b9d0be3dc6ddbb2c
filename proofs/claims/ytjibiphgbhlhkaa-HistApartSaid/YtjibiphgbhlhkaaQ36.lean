/-
  HistApart: a history with one more cell, which a read asks at its end.
-/
import Derived.Test.YtjibiphgbhlhkaaQ34
import Derived.Test.YtjibiphgbhlhkaaQ30
import Derived.Test.YtjibiphgbhlhkaaQ35
set_option linter.unusedVariables false
set_option linter.unusedSimpArgs false
section
namespace Go.Proofs.Ytjibiphgbhlhkaa.Ev
open Go Go.Proofs Go.RowKit
def addB (e : Evt) : Evt := cond (e.k == 3) { e with m := e.m ++ [vI 9], cm := 0 } e
def aq7 : Evt := ⟨1, 7, 7, false, 0, [3], 0, [], 1, [], 1⟩
def an7 : Evt := ⟨2, 7, 7, false, 0, [], 1, [vI 9], 0, [], 1⟩
def moreE (H : List Evt) : List Evt := H.map addB ++ [aq7] ++ [an7]
theorem addB_3 {e : Evt} (h : e.k = 3) : addB e = { e with m := e.m ++ [vI 9], cm := 0 } := by unfold addB; rw [h]; rfl
theorem addB_n {e : Evt} (h : e.k ≠ 3) : addB e = e := by
 unfold addB
 have : (e.k == 3) = false := by simpa using h
 rw [this]; rfl
theorem addB_k (e : Evt) : (addB e).k = e.k := by
 by_cases h : e.k = 3
 ·rw [addB_3 h]
 ·rw [addB_n h]
theorem addB_key (e x : Evt) : kEq (addB e) x = kEq e x := by
 by_cases h : e.k = 3
 ·rw [addB_3 h]; rfl
 ·rw [addB_n h]
theorem addB_key' (e x : Evt) : kEq x (addB e) = kEq x e := by
 by_cases h : e.k = 3
 ·rw [addB_3 h]; rfl
 ·rw [addB_n h]
theorem ev_map (H : List Evt) (q : Nat) (hq : q < H.length) : ev (H.map addB) q = addB (ev H q) := by
 simp only [ev, List.getD, List.getElem?_map, List.getElem?_eq_getElem hq, Option.map_some, Option.getD_some]
theorem nA_map (H : List Evt) : ∀ j, j ≤ H.length → nA (H.map addB) j = nA H j := fun j hj => by
 unfold nA
 exact List.filter_congr fun q hq => by rw [ev_map H q (by have := List.mem_range.1 hq; omega), addB_k]
theorem map_wf {H : List Evt} (hW : WfH H) : WfH (H.map addB) := by
 have hl : (H.map addB).length = H.length := List.length_map _
 refine ⟨by rw [hl]; exact hW.len, fun q hq => ?_, by rw [hl, nA_map H _ (Nat.le_refl _)]; exact hW.n8, fun q q' hqq hq' k k' => ?_, fun t ht k => ?_, fun t t' htt ht' k k' => ?_, fun q q' hq hq' k k' => ?_⟩
 ·rw [hl] at hq
  rw [ev_map H q hq, addB_k]; exact hW.kind q hq
 ·rw [hl] at hq'
  rw [ev_map H q (by omega)] at k ⊢
  rw [ev_map H q' hq'] at k' ⊢
  rw [addB_k] at k k'
  rw [addB_key, addB_key']
  exact hW.uniq q q' hqq hq' k k'
 ·rw [hl] at ht
  rw [ev_map H t ht] at k ⊢
  rw [addB_k] at k
  obtain ⟨q, q1, q2, q3⟩ := hW.ans t ht k
  exact ⟨q, q1, by rw [ev_map H q (by omega), addB_k]; exact q2, by rw [ev_map H q (by omega), addB_key, addB_key']; exact q3⟩
 ·rw [hl] at ht'
  rw [ev_map H t (by omega)] at k ⊢
  rw [ev_map H t' ht'] at k' ⊢
  rw [addB_k] at k k'
  rw [addB_key, addB_key']
  exact hW.once t t' htt ht' k k'
 ·rw [hl] at hq hq'
  rw [ev_map H q hq] at k ⊢
  rw [ev_map H q' hq'] at k' ⊢
  rw [addB_k] at k k'
  have := hW.cells q q' hq hq' k k'
  rw [addB_3 k, addB_3 k']
  show (_ ++ [vI 9]).length = (_ ++ [vI 9]).length
  rw [List.length_append, List.length_append, this]
structure Hi7 (H : List Evt) : Prop where
 s : HiS 3 H
 op : ∀ q, Rq H q → OpOk (ev H q)
 id : ∀ q, q < H.length → (ev H q).k ≠ 3 → (ev H q).i < 7
 len : H.length ≤ 35
 n : (nA H H.length).length ≤ 7
 pos : 0 < H.length
theorem gd9 : gdV (vI 9) := gd_vI (by decide) (by decide)
theorem more_len (H : List Evt) : (moreE H).length = H.length + 2 := by
 unfold moreE
 rw [List.length_append, List.length_append, List.length_map]; rfl
theorem more_lt {H : List Evt} {q : Nat} (hq : q < H.length) : ev (moreE H) q = addB (ev H q) := by
 unfold moreE
 rw [ev_lt _ _ (by rw [List.length_append, List.length_map]; omega), ev_lt _ _ (by rw [List.length_map]; exact hq), ev_map H q hq]
theorem more_q (H : List Evt) : ev (moreE H) H.length = aq7 := by
 unfold moreE
 rw [ev_lt _ _ (by rw [List.length_append, List.length_map]; simp)]
 have := ev_at (H.map addB) aq7
 rw [List.length_map] at this; exact this
theorem more_t (H : List Evt) : ev (moreE H) (H.length + 1) = an7 := by
 unfold moreE
 have := ev_at (H.map addB ++ [aq7]) an7
 rw [List.length_append, List.length_map] at this; exact this
theorem more_cases {H : List Evt} {q : Nat} (hq : q < H.length + 2) : (q < H.length ∧ ev (moreE H) q = addB (ev H q)) ∨ (q = H.length ∧ ev (moreE H) q = aq7) ∨ (q = H.length + 1 ∧ ev (moreE H) q = an7) := by
 rcases Nat.lt_or_ge q H.length with h | h
 ·exact .inl ⟨h, more_lt h⟩
 ·by_cases h1 : q = H.length
  ·subst h1; exact .inr (.inl ⟨rfl, more_q H⟩)
  ·have : q = H.length + 1 := by omega
   subst this; exact .inr (.inr ⟨rfl, more_t H⟩)
theorem key_7 {H : List Evt} (h : Hi7 H) {q : Nat} (hq : q < H.length) (hk : (ev H q).k ≠ 3) : kEq (ev H q) aq7 = false ∧ kEq (ev H q) an7 = false ∧ kEq aq7 (ev H q) = false ∧ kEq an7 (ev H q) = false := by
 have hi := h.id q hq hk
 have key : ∀ x : Evt, x.i = 7 → kEq (ev H q) x = false ∧ kEq x (ev H q) = false := fun x hx => by
  refine ⟨?_, ?_⟩
  ·cases hkk : kEq (ev H q) x with
   | false => rfl
   | true => have := ((kEq_iff _ _).1 hkk).2; omega
  ·cases hkk : kEq x (ev H q) with
   | false => rfl
   | true => have := ((kEq_iff _ _).1 hkk).2; omega
 exact ⟨(key aq7 rfl).1, (key an7 rfl).1, (key aq7 rfl).2, (key an7 rfl).2⟩
theorem more_wf {H : List Evt} (h : Hi7 H) : WfH (moreE H) := by
 have hl : (H.map addB).length = H.length := List.length_map _
 have h35 := h.len
 have hn := h.n
 have w1 : WfH (H.map addB ++ [aq7]) := (map_wf h.s.hi.wf).app (by omega) (.inl rfl) (fun _ => ⟨by rw [hl, nA_map H _ (Nat.le_refl _)]; omega, fun q hq k => by
  rw [hl] at hq
  rw [ev_map H q hq, addB_k] at k
  rw [ev_map H q hq, addB_key']
  exact (key_7 h hq (by rw [k]; decide)).2.2.1⟩) (fun h => by cases h) (fun h => by cases h)
 have hl2 : (H.map addB ++ [aq7]).length = H.length + 1 := by rw [List.length_append, hl]; rfl
 refine w1.app (by omega) (.inr (.inl rfl)) (fun h => by cases h) (fun _ => ⟨⟨H.length, by omega, ?_, ?_⟩, fun t ht k => ?_⟩) (fun h => by cases h)
 ·have := ev_at (H.map addB) aq7
  rw [hl] at this
  rw [this]; rfl
 ·have := ev_at (H.map addB) aq7
  rw [hl] at this
  rw [this]; rfl
 ·rw [hl2] at ht
  rcases Nat.lt_or_ge t H.length with h1 | h1
  ·rw [ev_lt _ _ (by omega), ev_map H t h1] at k ⊢
   rw [addB_k] at k
   rw [addB_key']
   exact (key_7 h h1 (by rw [k]; decide)).2.2.2
  ·have e : t = (H.map addB).length := by omega
   rw [e, ev_at] at k
   cases k
theorem addB_g {e : Evt} (h : EvG e) (hm : e.k = 3 → e.m.length = 3) : EvG (addB e) := by
 by_cases hk : e.k = 3
 ·rw [addB_3 hk]
  refine ⟨fun v hv => ?_, h.gv, h.ca, h.cv, Nat.zero_le _, h.la, h.lv, ?_, h.er, fun _ h1 => ?_⟩
  ·have hv : v ∈ e.m ++ [vI 9] := hv
   rcases List.mem_append.1 hv with h1 | h1
   ·exact h.gm v h1
   ·rw [List.mem_singleton] at h1; rw [h1]; exact gd9
  ·show (e.m ++ [vI 9]).length ≤ 4
   rw [List.length_append, hm hk]; exact Nat.le_refl _
  ·have h1 : e.k = 1 := h1
   rw [hk] at h1; cases h1
 ·rw [addB_n hk]; exact h
theorem aq7_g : EvG aq7 := ⟨(fun v hv => by cases hv), (fun v hv => by cases hv), by decide, by decide, by decide, by decide, by decide, by decide, rfl, fun h _ => by cases h⟩
theorem an7_g : EvG an7 := ⟨(fun v hv => by cases hv), (fun v hv => by
 have : v = vI 9 := by simpa [an7] using hv
 rw [this]; exact gd9), by decide, by decide, by decide, by decide, by decide, by decide, rfl, fun _ h => by cases h⟩
theorem more_rq {H : List Evt} {q : Nat} (h : Rq (moreE H) q) : (Rq H q ∧ ev (moreE H) q = ev H q) ∨ q = H.length := by
 obtain ⟨h1, h2⟩ := h
 rw [more_len] at h1
 rcases more_cases h1 with ⟨a, b⟩ | ⟨a, b⟩ | ⟨a, b⟩
 ·left
  rw [b, addB_k] at h2
  exact ⟨⟨a, h2⟩, by rw [b, addB_n (by rw [h2]; decide)]⟩
 ·exact .inr a
 ·rw [b] at h2; cases h2
theorem rq_more {H : List Evt} {q : Nat} (h : Rq H q) : Rq (moreE H) q ∧ ev (moreE H) q = ev H q := by
 have e : ev (moreE H) q = ev H q := by rw [more_lt h.1, addB_n (by rw [h.2]; decide)]
 exact ⟨⟨by rw [more_len]; have := h.1; omega, by rw [e]; exact h.2⟩, e⟩
theorem rq_more7 (H : List Evt) : Rq (moreE H) H.length := ⟨by rw [more_len]; omega, by rw [more_q]; rfl⟩
theorem an_more {H : List Evt} {q t : Nat} (hq : Rq H q) (h : An H q t) : An (moreE H) q t ∧ ev (moreE H) t = ev H t := by
 have e : ev (moreE H) t = ev H t := by rw [more_lt h.1, addB_n (by rw [h.2.1]; decide)]
 exact ⟨⟨by rw [more_len]; have := h.1; omega, by rw [e]; exact h.2.1, by rw [e, (rq_more hq).2]; exact h.2.2⟩, e⟩
theorem more_an {H : List Evt} (hH : Hi7 H) {q t : Nat} (hq : Rq H q) (h : An (moreE H) q t) : An H q t ∧ ev (moreE H) t = ev H t := by
 obtain ⟨h1, h2, h3⟩ := h
 rw [more_len] at h1
 rw [(rq_more hq).2] at h3
 rcases more_cases h1 with ⟨a, b⟩ | ⟨a, b⟩ | ⟨a, b⟩
 ·rw [b, addB_k] at h2
  rw [b, addB_key] at h3
  exact ⟨⟨a, h2, h3⟩, by rw [b, addB_n (by rw [h2]; decide)]⟩
 ·rw [b] at h2; cases h2
 ·rw [b, (key_7 hH hq.1 (by rw [hq.2]; decide)).2.2.2] at h3; cases h3
theorem more_an7 {H : List Evt} (hH : Hi7 H) : An (moreE H) H.length (H.length + 1) := ⟨by rw [more_len]; omega, by rw [more_t]; rfl, by rw [more_t, more_q]; rfl⟩
theorem more_his {H : List Evt} (hH : Hi7 H) : HiS 4 (moreE H) := by
 have hl := more_len H
 have hW := more_wf hH
 refine ⟨⟨hW, fun e he => ?_, .inr ?_⟩, fun q hq k => ?_, fun q hq c hc => ?_, fun q hq hw => ?_, fun q t hq ht hw => ?_⟩
 ·obtain ⟨q, hq, rfl⟩ := List.getElem_of_mem he
  have e1 : ev (moreE H) q = (moreE H)[q] := by simp [ev, List.getD, hq]
  rw [← e1]
  rw [hl] at hq
  rcases more_cases hq with ⟨a, b⟩ | ⟨a, b⟩ | ⟨a, b⟩
  ·rw [b]; exact addB_g (hH.s.hi.ev a) (hH.s.cells q a)
  ·rw [b]; exact aq7_g
  ·rw [b]; exact an7_g
 ·have hp := hH.pos
  rw [more_lt hp, addB_k]
  exact hH.s.hi.h0.resolve_left (by omega)
 ·rw [hl] at hq
  rcases more_cases hq with ⟨a, b⟩ | ⟨a, b⟩ | ⟨a, b⟩
  ·rw [b, addB_k] at k
   rw [b, addB_3 k]
   show (_ ++ [vI 9]).length = 4
   rw [List.length_append, hH.s.cells q a k]; rfl
  ·rw [b] at k; cases k
  ·rw [b] at k; cases k
 ·rcases more_rq hq with ⟨a, b⟩ | a
  ·rw [b] at hc
   have := hH.s.adr q a c hc
   omega
  ·subst a
   rw [more_q] at hc
   have : c = 3 := by simpa [aq7] using hc
   subst this; decide
 ·rcases more_rq hq with ⟨a, b⟩ | a
  ·rw [b] at hw ⊢
   exact hH.s.lw q a hw
  ·subst a
   rw [more_q] at hw; cases hw
 ·rcases more_rq hq with ⟨a, b⟩ | a
  ·obtain ⟨c, d⟩ := more_an hH a ht
   rw [b] at hw
   rw [d, b]; exact hH.s.lr q t a c hw
  ·subst a
   rw [An.uniq hW ht (more_an7 hH), more_t, more_q]; rfl
theorem nxE_len (e : Evt) (m : List Vl) : (nxE e m).length = m.length := by
 unfold nxE
 generalize e.a.length = k
 induction k with
 | zero => rfl
 | succ k ih =>
  show (dr1 (wrV e) (drW (wrV e) m k) k).length = _
  unfold dr1
  split
  ·rw [List.length_set]; exact ih
  ·exact ih
theorem efM_app {e : Evt} (hop : OpOk e) {m : List Vl} (m3 : m.length = 3) (x : Vl) : efM e (m ++ [x]) = efM e m ++ [x] := by
 have b0 := hop.a0
 have b1 := hop.a1
 unfold efM
 cases e.w with
 | true =>
  rw [cond_true, cond_true, List.set_append_left _ _ (by unfold aN; omega), List.set_append_left _ _ (by rw [List.length_set]; unfold aN; omega)]
 | false => rfl
theorem nxE_app {e : Evt} (hop : OpOk e) (hw : e.w = true) {m : List Vl} (m3 : m.length = 3) (x : Vl) : nxE e (m ++ [x]) = nxE e m ++ [x] := by
 rw [nxE_eq hop hw (by rw [List.length_append]; omega), nxE_eq hop hw (by omega), efM_app hop m3]
theorem samE_app {e : Evt} (hop : OpOk e) {m : List Vl} (m3 : m.length = 3) (x : Vl) (v : List Vl) : samE (m ++ [x]) e.a v = samE m e.a v := by
 have b0 := hop.a0
 have b1 := hop.a1
 unfold samE
 rw [hop.la]
 have g : ∀ i : Nat, i < 2 → (m ++ [x]).getD (e.a.getD i Enc.dflt).toNat Enc.dflt = m.getD (e.a.getD i Enc.dflt).toNat Enc.dflt := fun i hi => by
  refine getD_app_lt _ _ _ ?_
  match i, hi with
  | 0, _ => omega
  | 1, _ => omega
 have e2 : List.range 2 = [0, 1] := rfl
 rw [e2]
 simp only [List.all_cons, List.all_nil, g 0 (by omega), g 1 (by omega)]
theorem od_less {H : List Evt} (hH : Hi7 H) {a : Nat} {D : Nat → Bool} {b : Bool} {m : List Vl} (h : Od (moreE H) a D b m) : ∀ {D' : Nat → Bool} {m' : List Vl}, a ≤ H.length → (∀ q, Rq H q → D' q = D q) → (b = true → m = m' ++ [vI 9] ∧ m'.length = 3) → Od H a D' b m' := by
 induction h with
 | fin he =>
  intro D' m' ha hD hm
  rw [more_len] at he
  omega
 | @bnd a D b m hlt h3 _ ih =>
  intro D' m' ha hD hm
  by_cases hal : a = H.length
  ·exact .fin hal
  ·have hlt' : a < H.length := by omega
   rw [more_lt hlt', addB_k] at h3
   exact .bnd hlt' h3 (ih (by omega) hD fun _ => ⟨by rw [more_lt hlt', addB_3 h3], hH.s.cells a hlt' h3⟩)
 | @nxt a D b m hlt h3 hb _ ih =>
  intro D' m' ha hD hm
  by_cases hal : a = H.length
  ·exact .fin hal
  ·have hlt' : a < H.length := by omega
   rw [more_lt hlt', addB_k] at h3
   refine .nxt hlt' h3 (fun q hq ht => ?_) (ih (by omega) hD hm)
   rw [hD q hq]
   exact hb q (rq_more hq).1 (an_more hq ht).1
 | @plw a D m q hq hqa hto hd hw _ ih =>
  intro D' m' ha hD hm
  rcases more_rq hq with ⟨h1, h2⟩ | h1
  ·obtain ⟨m1, m2⟩ := hm rfl
   subst m1
   rw [h2] at hw
   refine .plw q h1 hqa (fun t ht => hto t (an_more h1 ht).1) (by rw [hD q h1]; exact hd) hw (ih ha (fun q' hq' => by unfold upP; rw [hD q' hq']) fun _ => ?_)
   rw [h2]
   exact ⟨nxE_app (hH.op q h1) hw m2 _, by rw [nxE_len]; exact m2⟩
  ·omega
 | @plr a D m q t hq ht hqa hat hd hw hs _ ih =>
  intro D' m' ha hD hm
  rcases more_rq hq with ⟨h1, h2⟩ | h1
  ·obtain ⟨m1, m2⟩ := hm rfl
   subst m1
   obtain ⟨t1, t2⟩ := more_an hH h1 ht
   rw [h2] at hw hs
   rw [t2, samE_app (hH.op q h1) m2] at hs
   exact .plr q t h1 t1 hqa hat (by rw [hD q h1]; exact hd) hw hs (ih ha (fun q' hq' => by unfold upP; rw [hD q' hq']) hm)
  ·omega
theorem od_more {H : List Evt} (hH : Hi7 H) {a : Nat} {D : Nat → Bool} {b : Bool} {m : List Vl} (h : Od H a D b m) : ∀ {D' : Nat → Bool} {m' : List Vl}, a ≤ H.length → D' H.length = false → (∀ q, Rq H q → D' q = D q) → (0 < a → b = true) → (b = true → m' = m ++ [vI 9] ∧ m.length = 3) → Od (moreE H) a D' b m' := by
 have hl := more_len H
 have hp := hH.pos
 have h0 : (ev H 0).k = 3 := hH.s.hi.h0.resolve_left (by omega)
 have lt : ∀ {q}, Rq H q → q ≠ H.length := fun hq h => by have := hq.1; omega
 induction h with
 | @fin a D b m he =>
  intro D' m' ha h7 hD hb hm
  subst he
  have hb' := hb hp
  subst hb'
  obtain ⟨m1, m2⟩ := hm rfl
  refine .nxt (by omega) (by rw [more_q]; decide) (fun q hq ht => ?_) ?_
  ·have := ht.2.1
   rw [more_q] at this; cases this
  ·refine .plr H.length (H.length + 1) (rq_more7 H) (more_an7 hH) (by omega) (Nat.le_refl _) h7 (by rw [more_q]; rfl) ?_ ?_
   ·rw [more_q, more_t, m1]
    have e3 : samE (m ++ [vI 9]) aq7.a an7.v = sameV ((m ++ [vI 9]).getD 3 Enc.dflt) (vI 9) := by
     show (sameV ((m ++ [vI 9]).getD 3 Enc.dflt) (vI 9) && true) = _
     rw [Bool.and_true]
    rw [e3, getD_app_ge _ _ _ (by omega), m2]
    exact sameV_self gd9
   ·refine .nxt (by omega) (by rw [more_t]; decide) (fun q hq ht => ?_) (.fin (by omega))
    rcases more_rq hq with ⟨h1, h2⟩ | h1
    ·have := (more_an hH h1 ht).1.1
     omega
    ·subst h1
     unfold upP
     simp
 | @bnd a D b m hlt h3 _ ih =>
  intro D' m' ha h7 hD hb hm
  refine .bnd (by omega) (by rw [more_lt hlt, addB_k]; exact h3) (ih (by omega) h7 hD (fun _ => rfl) fun _ => ⟨by rw [more_lt hlt, addB_3 h3], hH.s.cells a hlt h3⟩)
 | @nxt a D b m hlt h3 hn _ ih =>
  intro D' m' ha h7 hD hb hm
  have ha0 : 0 < a := by
   rcases Nat.eq_zero_or_pos a with h | h
   ·rw [h, h0] at h3; exact absurd rfl h3
   ·exact h
  refine .nxt (by omega) (by rw [more_lt hlt, addB_k]; exact h3) (fun q hq ht => ?_) (ih (by omega) h7 hD (fun _ => hb ha0) hm)
  rcases more_rq hq with ⟨h1, h2⟩ | h1
  ·rw [hD q h1]
   exact hn q h1 (more_an hH h1 ht).1
  ·subst h1
   have := An.uniq (more_wf hH) ht (more_an7 hH)
   omega
 | @plw a D m q hq hqa hto hd hw _ ih =>
  intro D' m' ha h7 hD hb hm
  obtain ⟨m1, m2⟩ := hm rfl
  subst m1
  obtain ⟨r1, r2⟩ := rq_more hq
  refine .plw q r1 hqa (fun t ht => hto t (more_an hH hq ht).1) (by rw [hD q hq]; exact hd) (by rw [r2]; exact hw) ?_
  rw [r2]
  exact ih ha (by unfold upP; rw [h7, decide_eq_false (lt hq)]; rfl) (fun q' hq' => by unfold upP; rw [hD q' hq']) (fun _ => rfl) fun _ => ⟨nxE_app (hH.op q hq) hw m2 _, by rw [nxE_len]; exact m2⟩
 | @plr a D m q t hq ht hqa hat hd hw hs _ ih =>
  intro D' m' ha h7 hD hb hm
  obtain ⟨m1, m2⟩ := hm rfl
  obtain ⟨r1, r2⟩ := rq_more hq
  obtain ⟨t1, t2⟩ := an_more hq ht
  refine .plr q t r1 t1 hqa hat (by rw [hD q hq]; exact hd) (by rw [r2]; exact hw) (by rw [r2, t2, m1, samE_app (hH.op q hq) m2]; exact hs) (ih ha (by unfold upP; rw [h7, decide_eq_false (lt hq)]; rfl) (fun q' hq' => by unfold upP; rw [hD q' hq']) hb hm)
theorem apart_fits {H : List Evt} (hH : Hi7 H) : fitsB (moreE H) = fitsB H := by
 rw [Bool.eq_iff_iff, fits_od hH.s, fits_od (more_his hH)]
 constructor
 ·intro h
  exact od_less hH h (Nat.zero_le _) (fun _ _ => rfl) (fun h => by cases h)
 ·intro h
  exact od_more hH h (Nat.zero_le _) rfl (fun _ _ => rfl) (fun h => absurd h (Nat.lt_irrefl _)) (fun h => by cases h)
theorem made_7 {l : List U4} {wr : Bool} (hb : l.all (okA U4) = true) (hl : (made l wr).length ≤ 35) (hn : (nA (made l wr) (made l wr).length).length ≤ 7) : Hi7 (made l wr) := by
 have hW := (mdW_all (wr := wr) hb l.length (Nat.le_refl _)).1
 have idq : ∀ q, Rq (made l wr) q → (ev (made l wr) q).i < 7 := fun q hq => by
  obtain ⟨i, h1, h2, h3⟩ := made_ids hb hq
  have := some_lt h1
  omega
 refine ⟨made_his hb, fun q hq => made_op hb hq, fun q hq hk => ?_, hl, hn, hW.ne.1⟩
 rcases hW.wf.kind q hq with h | h | h
 ·exact idq q ⟨hq, h⟩
 ·obtain ⟨q', a, b, c⟩ := hW.wf.ans q hq h
  have h1 := ((kEq_iff _ _).1 c).2
  have h2 := idq q' ⟨Nat.lt_trans a hq, b⟩
  have h1 : (ev (made l wr) q).i = (ev (made l wr) q').i := h1
  omega
 ·exact absurd h hk
end Go.Proofs.Ytjibiphgbhlhkaa.Ev
end
section
namespace Go.Proofs.Ytjibiphgbhlhkaa.Ev
open Go Go.Proofs Go.RowKit
def cntQ (H : List Evt) (j : Nat) : Nat := (nA H j).length
end Go.Proofs.Ytjibiphgbhlhkaa.Ev
end
section
set_option maxRecDepth 1000000
namespace Go.Proofs.Ytjibiphgbhlhkaa.Ev
open Go Go.Proofs
def slP1 : List Nat := [5, 6, 7]
def slP2 : List Nat := [5, 8, 9]
def lvsP (b : Nat) : List Nat := cond (Nat.beq b 0) slP1 slP2
def lvP1 : AX → List Nat := fun x => slP1
def lvP2 : AX → List Nat := fun x => slP2
def FHp1 (H : List Evt) (n i : Int) : AFr := mkF 78 [(5, .slice (some ⟨1, 0, some 0⟩) H.length 1), (6, .int .i64 n), (7, .int .i64 i)]
def SHp1 (l : List U4) (H : List Evt) : ASt := mkS [some (rowO .still l), some (rowO .mine H)]
def FHp2 (H M : List Evt) (i : Int) : AFr := mkF 78 [(5, .slice (some ⟨1, 0, some 0⟩) H.length 1), (8, .slice (some ⟨2, 0, some 0⟩) M.length 1), (9, .int .i64 i)]
def SHp2 (l : List U4) (H M : List Evt) : ASt := mkS [some (rowO .still l), some (rowO .mine H), some (rowO .mine M)]
def exHp (l : List U4) (H : List Evt) : Nat → Kt → Prop := fun b K => cond (Nat.beq b 0) (K (.exit b) (FHp1 H (cntQ H H.length) H.length) (SHp1 l H)) (K (.exit b) (FHp2 H (H.map addB) H.length) (SHp2 l H (H.map addB)))
theorem vc_hp (l : List U4) (c : Nat) (wr : Bool) (H : List Evt) (β : Bs) : lawE Try.prog toldW 100 20 β (fun _ => 0) (cnOf 1 lvsP) (exHp l H) 6 [.slice (some ⟨0, 0, some 0⟩) l.length c, .bool wr] (mkS [some (rowO .still l)]) trueE =
 (br (decide (Int.ofNat l.length > (20 : Int))) True (need (rowB U4 l.length c (some (.row .still 4 0 l.length (encL l))) && mdOk (rowL U4 l.length (some (.row .still 4 0 l.length (encL l))))) (LoopJ Try.prog β (exHp l H) 0 (loopOf Try.prog 6 0) (mkF 78 [(5, .slice (some ⟨1, 0, some 0⟩) (List.length (made (rowL U4 l.length (some (.row .still 4 0 l.length (encL l)))) wr)) 1), (6, .int .i64 (0 : Int)), (7, .int .i64 (0 : Int))]) (mkS [some (.row .still 4 0 l.length (encL l)), some (.row .mine 8 0 (List.length (made (rowL U4 l.length (some (.row .still 4 0 l.length (encL l)))) wr)) (encL (made (rowL U4 l.length (some (.row .still 4 0 l.length (encL l)))) wr)))]) ∧ br (decide (Int.ofNat (cntQ H H.length) > (7 : Int))) True (br (decide (Int.ofNat H.length > (35 : Int))) True (LoopJ Try.prog β (exHp l H) 2 (loopOf Try.prog 6 2) (mkF 78 [(5, .slice (some ⟨1, 0, some 0⟩) H.length 1), (8, .slice none 0 0), (9, .int .i64 (0 : Int))]) (mkS [some (.row .still 4 0 l.length (encL l)), some (.row .mine 8 0 H.length (encL H))]) ∧ need (Nat.ble (List.length (List.map addB H) + 2) 1000000) (need (true && Nat.ble (0 + List.length (List.map addB H)) (List.length (List.map addB H))) (need (rowB Evt (List.length (List.map addB H) + 2) 1 (some (.row .mine 8 0 (List.length (List.map addB H) + 2) fun j k => mrgT (Nat.blt j (List.length (List.map addB H))) (encL (List.map addB H) (0 + j) k) (selT 8 2 [.sc (.int .i64 (1 : Int)), .sc (.int .i64 (7 : Int)), .sc (.int .i64 (7 : Int)), .sc (.bool false), .sc (.int .i64 (0 : Int)), .fr 1 1 0 (selT 1 1 [.sc (.int .i64 (3 : Int))]), .fr 0 0 1 noT, .fr 0 0 1 noT, .sc (.int .i64 (2 : Int)), .sc (.int .i64 (7 : Int)), .sc (.int .i64 (7 : Int)), .sc (.bool false), .sc (.int .i64 (0 : Int)), .fr 0 0 1 noT, .fr 3 1 0 (selT 3 1 [.sc (.int .i64 (2 : Int)), .sc (.int .i64 (9 : Int)), .sc (.float .f64 0)]), .fr 0 0 1 noT] (j - List.length (List.map addB H)) k))) && fitOk (rowL Evt (List.length (List.map addB H) + 2) (some (.row .mine 8 0 (List.length (List.map addB H) + 2) fun j k => mrgT (Nat.blt j (List.length (List.map addB H))) (encL (List.map addB H) (0 + j) k) (selT 8 2 [.sc (.int .i64 (1 : Int)), .sc (.int .i64 (7 : Int)), .sc (.int .i64 (7 : Int)), .sc (.bool false), .sc (.int .i64 (0 : Int)), .fr 1 1 0 (selT 1 1 [.sc (.int .i64 (3 : Int))]), .fr 0 0 1 noT, .fr 0 0 1 noT, .sc (.int .i64 (2 : Int)), .sc (.int .i64 (7 : Int)), .sc (.int .i64 (7 : Int)), .sc (.bool false), .sc (.int .i64 (0 : Int)), .fr 0 0 1 noT, .fr 3 1 0 (selT 3 1 [.sc (.int .i64 (2 : Int)), .sc (.int .i64 (9 : Int)), .sc (.float .f64 0)]), .fr 0 0 1 noT] (j - List.length (List.map addB H)) k))))) (need (rowB Evt H.length 1 (some (.row .mine 8 0 H.length (encL H))) && fitOk (rowL Evt H.length (some (.row .mine 8 0 H.length (encL H))))) (need (fitsB (rowL Evt (List.length (List.map addB H) + 2) (some (.row .mine 8 0 (List.length (List.map addB H) + 2) fun j k => mrgT (Nat.blt j (List.length (List.map addB H))) (encL (List.map addB H) (0 + j) k) (selT 8 2 [.sc (.int .i64 (1 : Int)), .sc (.int .i64 (7 : Int)), .sc (.int .i64 (7 : Int)), .sc (.bool false), .sc (.int .i64 (0 : Int)), .fr 1 1 0 (selT 1 1 [.sc (.int .i64 (3 : Int))]), .fr 0 0 1 noT, .fr 0 0 1 noT, .sc (.int .i64 (2 : Int)), .sc (.int .i64 (7 : Int)), .sc (.int .i64 (7 : Int)), .sc (.bool false), .sc (.int .i64 (0 : Int)), .fr 0 0 1 noT, .fr 3 1 0 (selT 3 1 [.sc (.int .i64 (2 : Int)), .sc (.int .i64 (9 : Int)), .sc (.float .f64 0)]), .fr 0 0 1 noT] (j - List.length (List.map addB H)) k)))) == fitsB (rowL Evt H.length (some (.row .mine 8 0 H.length (encL H))))) True))))))))) := by kernel_rfl
theorem vc_hp1_r (l : List U4) (H : List Evt) (n i : Int) (β : Bs) (N : Kt) (ex : Nat → Kt → Prop) : roundJ Try.prog toldW 100 20 β (fun _ => 0) (cnOf 1 lvsP) ex 6 0 1 lvP1 (FHp1 H n i) (SHp1 l H) N =
 (br (decide (i < Int.ofNat H.length)) (need (decide ((0 : Int) ≤ i)) (need (Nat.blt (Int.toNat i) H.length) (need (Nat.ble 0 (0 + Int.toNat i) && Nat.blt (0 + Int.toNat i) H.length) (br (Evt.k (List.getD H (0 + Int.toNat i) Enc.dflt) == (1 : Int)) (N .normal (mkF 78 [(5, .slice (some ⟨1, 0, some 0⟩) H.length 1), (6, .int .i64 (IntKind.wrap .i64 (n + (1 : Int)))), (7, .int .i64 (IntKind.wrap .i64 (i + (1 : Int))))]) (mkS [some (.row .still 4 0 l.length (encL l)), some (.row .mine 8 0 H.length (encL H))])) (N .normal (mkF 78 [(5, .slice (some ⟨1, 0, some 0⟩) H.length 1), (6, .int .i64 n), (7, .int .i64 (IntKind.wrap .i64 (i + (1 : Int))))]) (mkS [some (.row .still 4 0 l.length (encL l)), some (.row .mine 8 0 H.length (encL H))])))))) (N (.exit 0) (mkF 78 [(5, .slice (some ⟨1, 0, some 0⟩) H.length 1), (6, .int .i64 n), (7, .int .i64 i)]) (mkS [some (.row .still 4 0 l.length (encL l)), some (.row .mine 8 0 H.length (encL H))]))) := by kernel_rfl
theorem vc_hp2_r (l : List U4) (H M : List Evt) (i : Int) (β : Bs) (N : Kt) (ex : Nat → Kt → Prop) : roundJ Try.prog toldW 100 20 β (fun _ => 0) (cnOf 1 lvsP) ex 6 2 1 lvP2 (FHp2 H M i) (SHp2 l H M) N =
 (br (decide (i < Int.ofNat H.length)) (need (decide ((0 : Int) ≤ i)) (need (Nat.blt (Int.toNat i) H.length) (need (Nat.ble 0 (0 + Int.toNat i) && Nat.blt (0 + Int.toNat i) H.length) (br (Evt.k (List.getD H (0 + Int.toNat i) Enc.dflt) == (3 : Int)) (need (true && Nat.ble (0 + List.length (Evt.m (List.getD H (0 + Int.toNat i) Enc.dflt))) (List.length (Evt.m (List.getD H (0 + Int.toNat i) Enc.dflt)))) (need (Nat.ble (0 + List.length (Evt.m (List.getD H (0 + Int.toNat i) Enc.dflt))) 1000000) (need (Nat.ble (List.length (Evt.m (List.getD H (0 + Int.toNat i) Enc.dflt)) + 1) 1000000) (need (true && Nat.ble (0 + List.length (Evt.m (List.getD H (0 + Int.toNat i) Enc.dflt))) (List.length (Evt.m (List.getD H (0 + Int.toNat i) Enc.dflt)))) (need (true && Nat.ble (0 + List.length (Evt.a (List.getD H (0 + Int.toNat i) Enc.dflt))) (List.length (Evt.a (List.getD H (0 + Int.toNat i) Enc.dflt)))) (need (true && Nat.ble (0 + List.length (Evt.v (List.getD H (0 + Int.toNat i) Enc.dflt))) (List.length (Evt.v (List.getD H (0 + Int.toNat i) Enc.dflt)))) (need (true && Nat.ble (0 + (List.length (Evt.m (List.getD H (0 + Int.toNat i) Enc.dflt)) + 1)) (List.length (Evt.m (List.getD H (0 + Int.toNat i) Enc.dflt)) + 1)) (need (Nat.ble (List.length M + 1) 1000000) (need (true && Nat.ble (0 + List.length M) M.length) (N .normal (mkF 78 [(5, .slice (some ⟨1, 0, some 0⟩) H.length 1), (8, .slice (some ⟨2, 0, some 0⟩) (List.length M + 1) 1), (9, .int .i64 (IntKind.wrap .i64 (i + (1 : Int))))]) (mkS [some (.row .still 4 0 l.length (encL l)), some (.row .mine 8 0 H.length (encL H)), some (.row .mine 8 0 (List.length M + 1) fun j k => mrgT (Nat.blt j M.length) (encL M (0 + j) k) (selT 8 1 [.sc (.int .i64 (Evt.k (List.getD H (0 + Int.toNat i) Enc.dflt))), .sc (.int .i64 (Evt.s (List.getD H (0 + Int.toNat i) Enc.dflt))), .sc (.int .i64 (Evt.i (List.getD H (0 + Int.toNat i) Enc.dflt))), .sc (.bool (Evt.w (List.getD H (0 + Int.toNat i) Enc.dflt))), .sc (.int .i64 (Evt.e (List.getD H (0 + Int.toNat i) Enc.dflt))), .fr 1 (List.length (Evt.a (List.getD H (0 + Int.toNat i) Enc.dflt))) (Evt.ca (List.getD H (0 + Int.toNat i) Enc.dflt)) fun i_1 => encL (Evt.a (List.getD H (0 + Int.toNat i) Enc.dflt)) (0 + i_1), .fr 3 (List.length (Evt.v (List.getD H (0 + Int.toNat i) Enc.dflt))) (Evt.cv (List.getD H (0 + Int.toNat i) Enc.dflt)) fun i_1 => encL (Evt.v (List.getD H (0 + Int.toNat i) Enc.dflt)) (0 + i_1), .fr 3 (List.length (Evt.m (List.getD H (0 + Int.toNat i) Enc.dflt)) + 1) 0 fun i_1 k => mrgT (Nat.blt (0 + i_1) (List.length (Evt.m (List.getD H (0 + Int.toNat i) Enc.dflt)))) (encL (Evt.m (List.getD H (0 + Int.toNat i) Enc.dflt)) (0 + (0 + (0 + i_1))) k) (selT 3 1 [.sc (.int .i64 (2 : Int)), .sc (.int .i64 (9 : Int)), .sc (.float .f64 0)] (0 + i_1 - List.length (Evt.m (List.getD H (0 + Int.toNat i) Enc.dflt))) k)] (j - List.length M) k))]))))))))))) (need (true && Nat.ble (0 + List.length (Evt.a (List.getD H (0 + Int.toNat i) Enc.dflt))) (List.length (Evt.a (List.getD H (0 + Int.toNat i) Enc.dflt)))) (need (true && Nat.ble (0 + List.length (Evt.v (List.getD H (0 + Int.toNat i) Enc.dflt))) (List.length (Evt.v (List.getD H (0 + Int.toNat i) Enc.dflt)))) (need (true && Nat.ble (0 + List.length (Evt.m (List.getD H (0 + Int.toNat i) Enc.dflt))) (List.length (Evt.m (List.getD H (0 + Int.toNat i) Enc.dflt)))) (need (Nat.ble (List.length M + 1) 1000000) (need (true && Nat.ble (0 + List.length M) M.length) (N .normal (mkF 78 [(5, .slice (some ⟨1, 0, some 0⟩) H.length 1), (8, .slice (some ⟨2, 0, some 0⟩) (List.length M + 1) 1), (9, .int .i64 (IntKind.wrap .i64 (i + (1 : Int))))]) (mkS [some (.row .still 4 0 l.length (encL l)), some (.row .mine 8 0 H.length (encL H)), some (.row .mine 8 0 (List.length M + 1) fun j k => mrgT (Nat.blt j M.length) (encL M (0 + j) k) (selT 8 1 [.sc (.int .i64 (Evt.k (List.getD H (0 + Int.toNat i) Enc.dflt))), .sc (.int .i64 (Evt.s (List.getD H (0 + Int.toNat i) Enc.dflt))), .sc (.int .i64 (Evt.i (List.getD H (0 + Int.toNat i) Enc.dflt))), .sc (.bool (Evt.w
 (List.getD H (0 + Int.toNat i) Enc.dflt))), .sc (.int .i64 (Evt.e (List.getD H (0 + Int.toNat i) Enc.dflt))), .fr 1 (List.length (Evt.a (List.getD H (0 + Int.toNat i) Enc.dflt))) (Evt.ca (List.getD H (0 + Int.toNat i) Enc.dflt)) fun i_1 => encL (Evt.a (List.getD H (0 + Int.toNat i) Enc.dflt)) (0 + i_1), .fr 3 (List.length (Evt.v (List.getD H (0 + Int.toNat i) Enc.dflt))) (Evt.cv (List.getD H (0 + Int.toNat i) Enc.dflt)) fun i_1 => encL (Evt.v (List.getD H (0 + Int.toNat i) Enc.dflt)) (0 + i_1), .fr 3 (List.length (Evt.m (List.getD H (0 + Int.toNat i) Enc.dflt))) (Evt.cm (List.getD H (0 + Int.toNat i) Enc.dflt)) fun i_1 => encL (Evt.m (List.getD H (0 + Int.toNat i) Enc.dflt)) (0 + i_1)] (j - List.length M) k))]))))))))))) (N (.exit 2) (mkF 78 [(5, .slice (some ⟨1, 0, some 0⟩) H.length 1), (8, .slice (some ⟨2, 0, some 0⟩) M.length 1), (9, .int .i64 i)]) (mkS [some (.row .still 4 0 l.length (encL l)), some (.row .mine 8 0 H.length (encL H)), some (.row .mine 8 0 M.length (encL M))]))) := by kernel_rfl
end Go.Proofs.Ytjibiphgbhlhkaa.Ev
end
section
set_option maxRecDepth 100000
namespace Go.Proofs.Ytjibiphgbhlhkaa.Ev
open Go Go.Proofs Go.RowKit
theorem cntQ_succ (H : List Evt) (k : Nat) : cntQ H (k + 1) = cntQ H k + cond ((ev H k).k == 1) 1 0 := by
 unfold cntQ
 rw [nA_succ, List.length_append]
 cases (ev H k).k == 1 <;> rfl
theorem cntQ_le (H : List Evt) : ∀ k, cntQ H k ≤ k
 | 0 => Nat.le_refl _
 | k + 1 => by
  have := cntQ_le H k
  rw [cntQ_succ]
  cases (ev H k).k == 1 <;> simp <;> omega
theorem hp1_round {l : List U4} {H : List Evt} {β : Bs} (hβ : β.X.length = 1) (hlen : H.length ≤ 1000) (ex : Nat → Kt → Prop) (K : Kt) (hK : K (.exit 0) (FHp1 H (cntQ H H.length) H.length) (SHp1 l H)) (k : Nat) (hk : k ≤ H.length) :
  J Try.prog β (loopOf Try.prog 6 0) (FHp1 H (cntQ H k) k) (SHp1 l H) (Nn β (fun k : Nat => k ≤ H.length) (fun k => H.length - k) (fun k : Nat => FHp1 H (cntQ H k) k) (fun _ : Nat => SHp1 l H) k K) := by
 refine roundJ_ok (E := 1) (lvs := lvsP) (un := fun _ => 0) (fuel := 100) (n := 20) (ex := ex) follows toldW_ok hβ (lv := lvP1) ?_
 rw [vc_hp1_r]
 by_cases hkn : k < H.length
 ·have c1 : decide ((k : Int) < Int.ofNat H.length) = true := by simpa using hkn
  have i1 : decide ((0 : Int) ≤ (k : Int)) = true := by simp
  have i2 : Int.toNat (k : Int) = k := Int.toNat_natCast k
  have i3 : Nat.blt k H.length = true := by simpa using hkn
  have i4 : Nat.ble 0 k = true := by simp
  have hw : IntKind.wrap .i64 ((k : Int) + 1) = ((k + 1 : Nat) : Int) := w64 (by omega) (by omega)
  have hle := cntQ_le H k
  have hw2 : IntKind.wrap .i64 ((cntQ H k : Int) + 1) = ((cntQ H k + 1 : Nat) : Int) := w64 (by omega) (by omega)
  simp only [c1, i1, i2, i3, i4, Nat.zero_add, Bool.true_and, need_t, br_t, hw, hw2]
  have nx : ∀ f, f = FHp1 H (cntQ H (k + 1)) ((k + 1 : Nat) : Int) → Nn β (fun k : Nat => k ≤ H.length) (fun k => H.length - k) (fun k : Nat => FHp1 H (cntQ H k) k) (fun _ : Nat => SHp1 l H) k K .normal f (SHp1 l H) := fun f hf => by
   subst hf
   exact Nn.next (I := fun k : Nat => k ≤ H.length) (m := fun k => H.length - k) (F := fun k : Nat => FHp1 H (cntQ H k) k) (S := fun _ : Nat => SHp1 l H) (p := k) (k + 1) hkn (by omega) (Seen.refl _ _ _)
  have hs := cntQ_succ H k
  refine br_of (fun q => ?_) (fun q => ?_)
  ·have q : ((ev H k).k == 1) = true := q
   rw [q] at hs
   exact nx _ (by rw [hs]; rfl)
  ·have q : ((ev H k).k == 1) = false := q
   rw [q] at hs
   exact nx _ (by rw [hs]; rfl)
 ·have c1 : decide ((k : Int) < Int.ofNat H.length) = false := by simpa using hkn
  have e : k = H.length := by omega
  subst e
  simp only [c1, br_f]
  exact Nn.exit (Seen.refl _ _ _) hK
theorem app9 (m : List Vl) (i j : Nat) (hj : j < 3) : mrgT (Nat.blt i m.length) (encL m i j) (selT 3 1 [.sc (.int .i64 2), .sc (.int .i64 9), .sc (.float .f64 0)] (i - m.length) j) = vlE (cond (Nat.blt i m.length) (m.getD i Enc.dflt) (vI 9)) j := by
 have e1 : selT 3 1 [.sc (.int .i64 2), .sc (.int .i64 9), .sc (.float .f64 0)] (i - m.length) j = vlE (vI 9) j := match j, hj with
  | 0, _ | 1, _ | 2, _ => rfl
 rw [e1]
 refine Eq.trans (mrg_vl _ (m.getD i Enc.dflt) (vI 9) j) ?_
 cases Nat.blt i m.length <;> rfl
theorem take_map (H : List Evt) {k : Nat} (hk : k < H.length) : (H.take (k + 1)).map addB = (H.take k).map addB ++ [addB (ev H k)] := by
 rw [List.take_add_one, List.getElem?_eq_getElem hk, List.map_append]
 have : ev H k = H[k] := by simp [ev, List.getD, hk]
 rw [this]; rfl
theorem hp2_round {l : List U4} {H : List Evt} {β : Bs} (hβ : β.X.length = 1) (hlen : H.length ≤ 1000) (hg : ∀ q, q < H.length → EvG (ev H q)) (ex : Nat → Kt → Prop) (K : Kt) (hK : K (.exit 2) (FHp2 H (H.map addB) H.length) (SHp2 l H (H.map addB))) (k : Nat) (hk : k ≤ H.length) :
  J Try.prog β (loopOf Try.prog 6 2) (FHp2 H ((H.take k).map addB) k) (SHp2 l H ((H.take k).map addB)) (Nn β (fun k : Nat => k ≤ H.length) (fun k => H.length - k) (fun k : Nat => FHp2 H ((H.take k).map addB) k) (fun k : Nat => SHp2 l H ((H.take k).map addB)) k K) := by
 refine roundJ_ok (E := 1) (lvs := lvsP) (un := fun _ => 0) (fuel := 100) (n := 20) (ex := ex) follows toldW_ok hβ (lv := lvP2) ?_
 rw [vc_hp2_r]
 by_cases hkn : k < H.length
 ·have c1 : decide ((k : Int) < Int.ofNat H.length) = true := by simpa using hkn
  have i1 : decide ((0 : Int) ≤ (k : Int)) = true := by simp
  have i2 : Int.toNat (k : Int) = k := Int.toNat_natCast k
  have i3 : Nat.blt k H.length = true := by simpa using hkn
  have i4 : ∀ a, Nat.ble 0 a = true := fun a => by simp
  have i5 : ∀ a, Nat.ble a a = true := fun a => by simp
  have hw : IntKind.wrap .i64 ((k : Int) + 1) = ((k + 1 : Nat) : Int) := w64 (by omega) (by omega)
  have hx := hg k hkn
  have hM := take_map H hkn
  have hMl : ((H.take k).map addB).length = k := by rw [List.length_map, take_len hk]
  have nx : ∀ f st, Seen β f st (FHp2 H ((H.take k).map addB ++ [addB (ev H k)]) ((k + 1 : Nat) : Int)) (SHp2 l H ((H.take k).map addB ++ [addB (ev H k)])) → Nn β (fun k : Nat => k ≤ H.length) (fun k => H.length - k) (fun k : Nat => FHp2 H ((H.take k).map addB) k) (fun k : Nat => SHp2 l H ((H.take k).map addB)) k K .normal f st := fun f st hs =>
   Nn.next (I := fun k : Nat => k ≤ H.length) (m := fun k => H.length - k) (F := fun k : Nat => FHp2 H ((H.take k).map addB) k) (S := fun k : Nat => SHp2 l H ((H.take k).map addB)) (p := k) (k + 1) hkn (by omega) (by rw [hM]; exact hs)
  have he : H.getD k Enc.dflt = ev H k := rfl
  simp only [c1, i1, i2, i3, i4, i5, Nat.zero_add, Bool.true_and, Bool.and_self, need_t, br_t, hw, he]
  generalize (H.take k).map addB = M at *
  generalize ev H k = e at hx nx ⊢
  have hm4 := hx.lm
  have ha2 := hx.la
  have hv2 := hx.lv
  have b1 : Nat.ble e.m.length 1000000 = true := Nat.ble_eq_true_of_le (by omega)
  have b2 : Nat.ble (e.m.length + 1) 1000000 = true := Nat.ble_eq_true_of_le (by omega)
  have b3 : Nat.ble (M.length + 1) 1000000 = true := Nat.ble_eq_true_of_le (by omega)
  simp only [b1, b2, b3, need_t]
  refine br_of (fun q => ?_) (fun q => ?_)
  ·have hk3 : e.k = 3 := by simpa using q
   refine nx _ _ ?_
   rw [addB_3 hk3]
   show Seen β _ _ (FHp2 H (M ++ [({ e with m := e.m ++ [vI 9], cm := 0 } : Evt)]) ((k + 1 : Nat) : Int)) _
   have hll : (M ++ [({ e with m := e.m ++ [vI 9], cm := 0 } : Evt)]).length = M.length + 1 := by rw [List.length_append]; rfl
   unfold FHp2
   rw [hll]
   refine Seen.objs rfl fun q o2 h => ?_
   match q, h with
   | 0, h => cases h; exact ⟨_, rfl, rfl, fun _ _ _ h => h⟩
   | 1, h => cases h; exact ⟨_, rfl, rfl, fun _ _ _ h => h⟩
   | 2, h =>
    cases h
    refine ⟨_, rfl, rfl, fun ρ s w h => evt_app (x := ({ e with m := e.m ++ [vI 9], cm := 0 } : Evt)) (ToT.eq rfl) (ToT.eq rfl) ?_ (fun b => LkT.of_eq (mrg_evt true b e 5) (mrg_evt false b e 5)) (fun b => LkT.of_eq (mrg_evt true b e 6) (mrg_evt false b e 6)) (fun b => ?_) h⟩
    ·have e7 : evtE ({ e with m := e.m ++ [vI 9], cm := 0 } : Evt) 7 = .fr 3 (e.m.length + 1) 0 (encL (e.m ++ [vI 9])) := by
      show Td.fr 3 (e.m ++ [vI 9]).length 0 _ = _
      rw [List.length_append]; rfl
     rw [e7]
     refine ToT.fr fun i hi j hj => ToT.eq ((app9 e.m i j hj).trans ?_)
     show _ = vlE ((e.m ++ [vI 9]).getD i Enc.dflt) j
     by_cases hil : i < e.m.length
     ·have hb : Nat.blt i e.m.length = true := by simpa using hil
      rw [hb, getD_app_lt _ _ _ hil]; rfl
     ·have : i = e.m.length := by omega
      subst this
      rw [blt_false hil, getD_app_ge _ _ _ (Nat.le_refl _), Nat.sub_self]; rfl
    ·refine LkT.fr (by decide) fun i j hj => ?_
     have := app9 e.m i j hj
     have key : LkT (encL b.m i j) (vlE (cond (Nat.blt i e.m.length) (e.m.getD i Enc.dflt) (vI 9)) j) := LkT.vl _ _ _
     rw [← this] at key
     exact key
  ·have hk3 : e.k ≠ 3 := by simpa using q
   refine nx _ _ ?_
   rw [addB_n hk3]
   have hll : (M ++ [e]).length = M.length + 1 := by rw [List.length_append]; rfl
   unfold FHp2
   rw [hll]
   refine Seen.objs rfl fun q o2 h => ?_
   match q, h with
   | 0, h => cases h; exact ⟨_, rfl, rfl, fun _ _ _ h => h⟩
   | 1, h => cases h; exact ⟨_, rfl, rfl, fun _ _ _ h => h⟩
   | 2, h =>
    cases h
    exact ⟨_, rfl, rfl, fun ρ s w h => evt_app (x := e) (ToT.eq rfl) (ToT.eq rfl) (ToT.eq rfl) (fun b => LkT.of_eq (mrg_evt true b e 5) (mrg_evt false b e 5)) (fun b => LkT.of_eq (mrg_evt true b e 6) (mrg_evt false b e 6)) (fun b => LkT.of_eq (mrg_evt true b e 7) (mrg_evt false b e 7)) h⟩
 ·have c1 : decide ((k : Int) < Int.ofNat H.length) = false := by simpa using hkn
  have e : k = H.length := by omega
  subst e
  simp only [c1, br_f]
  refine Nn.exit (Seen.refl _ _ _) ?_
  have ht : H.take H.length = H := List.take_length
  have : K (.exit 2) (FHp2 H ((H.take H.length).map addB) H.length) (SHp2 l H ((H.take H.length).map addB)) := by rw [ht]; exact hK
  exact this
def ts7 : List Td := [.sc (.int .i64 1), .sc (.int .i64 7), .sc (.int .i64 7), .sc (.bool false), .sc (.int .i64 0), .fr 1 1 0 (selT 1 1 [.sc (.int .i64 3)]), .fr 0 0 1 noT, .fr 0 0 1 noT, .sc (.int .i64 2), .sc (.int .i64 7), .sc (.int .i64 7), .sc (.bool false), .sc (.int .i64 0), .fr 0 0 1 noT, .fr 3 1 0 (selT 3 1 [.sc (.int .i64 2), .sc (.int .i64 9), .sc (.float .f64 0)]), .fr 0 0 1 noT]
theorem mrg7 (x : Evt) (j : Nat) (hj : j < 8) : mrgT true (evtE x j) (selT 8 2 ts7 0 j) = evtE x j := by
 match j, hj with
 | 0, _ | 1, _ | 2, _ | 3, _ | 4, _ => rfl
 | 5, _ =>
  show Td.fr 1 x.a.length x.ca _ = Td.fr 1 x.a.length x.ca _
  congr 1
  funext i j
  match j with
  | 0 => rfl
  | j + 1 => rfl
 | 6, _ =>
  show Td.fr 3 x.v.length x.cv _ = Td.fr 3 x.v.length x.cv _
  congr 1
  funext i j
  match j with
  | 0 => rfl
  | 1 => rfl
  | 2 => rfl
  | j + 3 => rfl
 | 7, _ =>
  show Td.fr 3 x.m.length x.cm _ = Td.fr 3 x.m.length x.cm _
  congr 1
  funext i j
  match j with
  | 0 => rfl
  | 1 => rfl
  | j + 2 => rfl
theorem dec7a : (Enc.dec (fun k => mrgT false (evtE Enc.dflt k) (selT 8 2 ts7 0 k)) : Evt) = aq7 ∧ Enc.ok Evt (fun k => mrgT false (evtE Enc.dflt k) (selT 8 2 ts7 0 k)) = okA Evt aq7 := ⟨by kernel_rfl, by kernel_rfl⟩
theorem dec7b : (Enc.dec (fun k => mrgT false (evtE Enc.dflt k) (selT 8 2 ts7 1 k)) : Evt) = an7 ∧ Enc.ok Evt (fun k => mrgT false (evtE Enc.dflt k) (selT 8 2 ts7 1 k)) = okA Evt an7 := ⟨by kernel_rfl, by kernel_rfl⟩
theorem more_row (M : List Evt) (i : Nat) (hi : i < M.length + 2) : (Enc.dec (fun k => mrgT (Nat.blt i M.length) (encL M i k) (selT 8 2 ts7 (i - M.length) k)) : Evt) = (M ++ [aq7] ++ [an7]).getD i Enc.dflt ∧ Enc.ok Evt (fun k => mrgT (Nat.blt i M.length) (encL M i k) (selT 8 2 ts7 (i - M.length) k)) = okA Evt ((M ++ [aq7] ++ [an7]).getD i Enc.dflt) := by
 rcases Nat.lt_or_ge i M.length with h | h
 ·have hb : Nat.blt i M.length = true := by simpa using h
  have e1 : (M ++ [aq7] ++ [an7]).getD i Enc.dflt = M.getD i Enc.dflt := by
   rw [getD_app_lt _ _ _ (by rw [List.length_append]; omega), getD_app_lt _ _ _ h]
  rw [e1]
  refine evt_dec fun j hj => ?_
  rw [hb, show i - M.length = 0 by omega]
  exact mrg7 _ j hj
 ·have e0 : M.getD i Enc.dflt = Enc.dflt := by simp only [List.getD, List.getElem?_eq_none h, Option.getD_none]
  have e2 : (fun k => mrgT (Nat.blt i M.length) (encL M i k) (selT 8 2 ts7 (i - M.length) k)) = fun k => mrgT false (evtE Enc.dflt k) (selT 8 2 ts7 (i - M.length) k) := by
   funext k
   rw [blt_false (by omega)]
   show mrgT false (evtE (M.getD i Enc.dflt) k) _ = _
   rw [e0]
  rw [e2]
  by_cases h1 : i = M.length
  ·subst h1
   rw [Nat.sub_self, getD_app_lt _ _ _ (by rw [List.length_append]; simp), getD_app_ge _ _ _ (Nat.le_refl _), Nat.sub_self]
   exact dec7a
  ·have h2 : i = M.length + 1 := by omega
   subst h2
   rw [show M.length + 1 - M.length = 1 by omega, getD_app_ge _ _ _ (by rw [List.length_append]; simp), List.length_append, show M.length + 1 - (M.length + [aq7].length) = 0 by show M.length + 1 - (M.length + 1) = 0; omega]
   exact dec7b
theorem memP {L : List (Nat × Value)} {u : Nat} {v : Value} (h : (mkF 78 L).tmps.get u = some v) : (u, v) ∈ L := by
 rcases mkFT_get _ _ _ _ h with h1 | h1
 ·exact h1
 ·cases h1
theorem hp_law {l : List U4} {c : Nat} {wr : Bool} (hc : c ≤ 1) (hl : l.all (okA U4) = true) (w : World) (args' : Array Value) (ha : PW (TR w (There w)) [tdL l c, .sc (.bool wr)] args'.toList) :
  Calls Try.prog 6 args' w fun e w' => e = .returned (.bool true) ∧ Below w.heap.size w w' := by
 refine law_top (C := toldW) (fuel := 100) (n := 20) (un := fun _ => 0) (lvs := lvsP) (ex := exHp l (made l wr)) follows toldW_ok (fun β hβ => ?_) w args' ha
 show lawE _ _ _ _ _ _ (cnOf 1 lvsP) _ _ [.slice (some ⟨0, 0, some 0⟩) l.length c, .bool wr] (mkS [some (rowO .still l)]) trueE
 rw [vc_hp]
 refine br_of (fun _ => trivial) (fun q1 => ?_)
 have h20 : l.length ≤ 20 := by simp at q1; omega
 have hS : HiS 3 (made l wr) := made_his hl
 have h7 : (made l wr).length ≤ 35 → (nA (made l wr) (made l wr).length).length ≤ 7 → Hi7 (made l wr) := fun a b => made_7 hl a b
 have b1 : rowB U4 l.length c (some (AObj.row Rk.still 4 0 l.length (encL l))) = true := rowB_of .still rfl rfl hl (by omega) hc
 simp only [rowL_enc, b1, mdOk_of hl (by omega), Bool.and_self, need_t]
 generalize made l wr = H at *
 have hH := hS.hi
 have hlen := hH.wf.len
 refine ⟨?_, ?_⟩
 ·exact (loop_rule (fun k : Nat => k ≤ H.length) (fun k : Nat => FHp1 H (cntQ H k) k) (fun _ : Nat => SHp1 l H) (fun k => H.length - k) (fun k hk K hK => hp1_round hβ (by omega) (exHp l H) K hK k hk) 0 (Nat.zero_le _))
 ·refine br_of (fun _ => trivial) (fun q2 => br_of (fun _ => trivial) (fun q3 => ?_))
  have hn7 : (nA H H.length).length ≤ 7 := by
   have : cntQ H H.length ≤ 7 := by simp at q2; omega
   exact this
  have h35 : H.length ≤ 35 := by simp at q3; omega
  have hI := h7 h35 hn7
  refine ⟨?_, ?_⟩
  ·refine LoopJ.seen ?_ (loop_rule (fun k : Nat => k ≤ H.length) (fun k : Nat => FHp2 H ((H.take k).map addB) k) (fun k : Nat => SHp2 l H ((H.take k).map addB)) (fun k => H.length - k) (fun k hk K hK => hp2_round hβ (by omega) (fun q hq => hH.ev hq) (exHp l H) K hK k hk) 0 (Nat.zero_le _))
   refine Seen.nilSlot (f' := FHp2 H [] 0) 8 8 (encL ([] : List Evt)) rfl rfl rfl fun u v h => ?_
   have h1 := memP h
   simp only [List.mem_cons, List.mem_nil_iff, or_false, Prod.mk.injEq] at h1
   rcases h1 with ⟨rfl, rfl⟩ | ⟨rfl, rfl⟩ | ⟨rfl, rfl⟩
   ·exact .inr rfl
   ·exact .inl ⟨rfl, rfl⟩
   ·exact .inr rfl
  ·have hMS := more_his hI
   have hM := hMS.hi
   have hml : (H.map addB).length = H.length := List.length_map _
   have b3 : rowB Evt H.length 1 (some (.row .mine 8 0 H.length (encL H))) = true := rowB_of .mine rfl rfl hH.oks (by omega) (Nat.le_refl _)
   obtain ⟨f1, f2⟩ := row_isD (R := moreE H) (n := (H.map addB).length + 2) (g := fun j k => mrgT (Nat.blt j (H.map addB).length) (encL (H.map addB) j k) (selT 8 2 ts7 (j - (H.map addB).length) k)) .mine (by rw [more_len, hml]) (fun i hi => more_row (H.map addB) i hi) hM.oks (by omega)
   have g1 : Nat.ble ((H.map addB).length + 2) 1000000 = true := Nat.ble_eq_true_of_le (by omega)
   have g2 : Nat.ble (H.map addB).length (H.map addB).length = true := by simp
   simp only [Nat.zero_add, g1, g2, Bool.true_and, need_t]
   refine need_of (by rw [Bool.and_eq_true]; exact ⟨f2 1 (Nat.le_refl _), (congrArg fitOk f1).trans hM.fitOk.1⟩) (need_of (by rw [b3, hH.fitOk.1]; rfl) (need_of ?_ trivial))
   refine Eq.trans (congrArg (fun x => fitsB x == fitsB H) f1) ?_
   show (fitsB (moreE H) == fitsB H) = true
   rw [apart_fits hI]; simp
end Go.Proofs.Ytjibiphgbhlhkaa.Ev
end
