/-
  HistLess, HistLater: histories of some of another one's events.
-/
import Derived.Test.YtjibiphgbhlhkaaHsRj
import Derived.Test.YtjibiphgbhlhkaaQ30
set_option linter.unusedVariables false
set_option linter.unusedSimpArgs false
section
namespace Go.Proofs.Ytjibiphgbhlhkaa.Ev
open Go Go.Proofs Go.RowKit
theorem nA_cnt_take (H : List Evt) : ∀ j, j ≤ H.length → (nA H j).length = (H.take j).countP fun e => e.k == 1
 | 0, _ => rfl
 | j + 1, hj => by
  have hl : j < H.length := by omega
  have he : ev H j = H[j] := by simp [ev, List.getD, hl]
  rw [nA_succ, List.length_append, nA_cnt_take H j (by omega), List.take_add_one, List.countP_append, List.getElem?_eq_getElem hl, he]
  cases h : H[j].k == 1 with
  | true => simp [h]
  | false => simp [h]
theorem nA_cnt (H : List Evt) : (nA H H.length).length = H.countP fun e => e.k == 1 := by
 rw [nA_cnt_take H _ (Nat.le_refl _), List.take_length]
structure Emb (H' H : List Evt) (τ : Nat → Nat) : Prop where
 lt : ∀ q, q < H'.length → τ q < H.length ∧ ev H' q = ev H (τ q)
 inj : ∀ q q', q < H'.length → q' < H'.length → τ q = τ q' → q = q'
 len : H'.length ≤ H.length
 cnt : H'.countP (fun e => e.k == 1) ≤ H.countP fun e => e.k == 1
 ask : ∀ t q, t < H'.length → (ev H' t).k = 2 → q < τ t → (ev H q).k = 1 → ∃ q', q' < t ∧ τ q' = q
 h0 : H'.length = 0 ∨ (ev H' 0).k = 3
theorem once_uniq {H : List Evt} (hW : WfH H) {t t' : Nat} (ht : t < H.length) (ht' : t' < H.length) (h : (ev H t).k = 2) (h' : (ev H t').k = 2) (hk : kEq (ev H t) (ev H t') = true) : t = t' := by
 rcases Nat.lt_trichotomy t t' with h1 | h1 | h1
 ·have := hW.once t t' h1 ht' h h'
  rw [kEq_symm hk] at this; cases this
 ·exact h1
 ·have := hW.once t' t h1 ht h' h
  rw [hk] at this; cases this
theorem Emb.wf {H' H : List Evt} {τ : Nat → Nat} (h : Emb H' H τ) (hW : WfH H) : WfH H' := by
 refine ⟨Nat.le_trans h.len hW.len, fun q hq => ?_, ?_, fun q q' hqq hq' k k' => ?_, fun t ht k => ?_, fun t t' htt ht' k k' => ?_, fun q q' hq hq' k k' => ?_⟩
 ·rw [(h.lt q hq).2]; exact hW.kind _ (h.lt q hq).1
 ·rw [nA_cnt]
  have := hW.n8
  rw [nA_cnt] at this
  exact Nat.le_trans h.cnt this
 ·obtain ⟨a, b⟩ := h.lt q (by omega)
  obtain ⟨a', b'⟩ := h.lt q' hq'
  cases hk : kEq (ev H' q') (ev H' q) with
  | false => rfl
  | true =>
   exfalso
   rw [b] at k hk
   rw [b'] at k' hk
   have := h.inj _ _ hq' (by omega) (key_uniq hW a' a k' k hk)
   omega
 ·obtain ⟨a, b⟩ := h.lt t ht
  have k2 := k
  rw [b] at k
  obtain ⟨q, q1, q2, q3⟩ := hW.ans _ a k
  obtain ⟨q', c, d⟩ := h.ask t q ht k2 q1 q2
  obtain ⟨e, f⟩ := h.lt q' (by omega)
  exact ⟨q', c, by rw [f, d]; exact q2, by rw [f, d, b]; exact q3⟩
 ·obtain ⟨a, b⟩ := h.lt t (by omega)
  obtain ⟨a', b'⟩ := h.lt t' ht'
  cases hk : kEq (ev H' t') (ev H' t) with
  | false => rfl
  | true =>
   exfalso
   rw [b] at k hk
   rw [b'] at k' hk
   have := h.inj _ _ ht' (by omega) (once_uniq hW a' a k' k hk)
   omega
 ·obtain ⟨a, b⟩ := h.lt q hq
  obtain ⟨a', b'⟩ := h.lt q' hq'
  rw [b] at k ⊢
  rw [b'] at k' ⊢
  exact hW.cells _ _ a a' k k'
theorem Emb.rq {H' H : List Evt} {τ : Nat → Nat} (h : Emb H' H τ) {q : Nat} (hq : Rq H' q) : Rq H (τ q) := by
 obtain ⟨a, b⟩ := h.lt q hq.1
 exact ⟨a, by rw [← b]; exact hq.2⟩
theorem Emb.an {H' H : List Evt} {τ : Nat → Nat} (h : Emb H' H τ) {q t : Nat} (hq : q < H'.length) (ht : An H' q t) : An H (τ q) (τ t) := by
 obtain ⟨a, b⟩ := h.lt q hq
 obtain ⟨t1, t2, t3⟩ := ht
 obtain ⟨a', b'⟩ := h.lt t t1
 rw [b'] at t2 t3
 rw [b] at t3
 exact ⟨a', t2, t3⟩
theorem Emb.his {N : Nat} {H' H : List Evt} {τ : Nat → Nat} (h : Emb H' H τ) (hS : HiS N H) : HiS N H' := by
 refine ⟨⟨h.wf hS.hi.wf, fun e he => ?_, h.h0⟩, fun q hq k => ?_, fun q hq => ?_, fun q hq hw => ?_, fun q t hq ht hw => ?_⟩
 ·obtain ⟨q, hq, rfl⟩ := List.getElem_of_mem he
  obtain ⟨a, b⟩ := h.lt q hq
  have e1 : ev H' q = H'[q] := by simp [ev, List.getD, hq]
  rw [← e1, b]; exact hS.hi.ev a
 ·obtain ⟨a, b⟩ := h.lt q hq
  rw [b] at k ⊢
  exact hS.cells _ a k
 ·obtain ⟨a, b⟩ := h.lt q hq.1
  rw [b]
  exact hS.adr _ (h.rq hq)
 ·obtain ⟨a, b⟩ := h.lt q hq.1
  rw [b] at hw ⊢
  exact hS.lw _ (h.rq hq) hw
 ·obtain ⟨a, b⟩ := h.lt q hq.1
  obtain ⟨a', b'⟩ := h.lt t ht.1
  rw [b] at hw
  rw [b, b']
  exact hS.lr _ _ (h.rq hq) (h.an hq.1 ht) hw
theorem ev_take (H : List Evt) {n q : Nat} (h : q < n) : ev (H.take n) q = ev H q := by
 simp only [ev, List.getD, List.getElem?_take, if_pos h]
theorem take_len {H : List Evt} {n : Nat} (hn : n ≤ H.length) : (H.take n).length = n := by rw [List.length_take]; omega
theorem take_emb {H : List Evt} {n : Nat} (hn : n ≤ H.length) (h0 : H.length = 0 ∨ (ev H 0).k = 3) : Emb (H.take n) H (fun q => q) := by
 have hl := take_len hn
 refine ⟨fun q hq => ?_, fun q q' _ _ h => h, by omega, (List.take_sublist n H).countP_le, fun t q ht _ hq _ => ⟨q, hq, rfl⟩, ?_⟩
 ·rw [hl] at hq
  exact ⟨by omega, ev_take H hq⟩
 ·rcases Nat.eq_zero_or_pos n with h | h
  ·exact .inl (by omega)
  ·rw [ev_take H h]
   rcases h0 with h0 | h0
   ·omega
   ·exact .inr h0
theorem od_take {H : List Evt} {n : Nat} (hn : n ≤ H.length) (hW : WfH H) {a : Nat} {D : Nat → Bool} {b : Bool} {m : List Vl} (h : Od H a D b m) : ∀ {D' : Nat → Bool}, a ≤ n → (∀ q, q < n → ((ev H q).w = true ∨ ∃ t, t < n ∧ An H q t) → D' q = D q) → Od (H.take n) a D' b m := by
 have hl := take_len hn
 have rq : ∀ {q}, Rq (H.take n) q → q < n ∧ Rq H q := fun hq => by
  obtain ⟨a1, a2⟩ := hq
  rw [hl] at a1
  rw [ev_take H a1] at a2
  exact ⟨a1, by omega, a2⟩
 have rq' : ∀ {q}, q < n → Rq H q → Rq (H.take n) q := fun h1 hq => ⟨by omega, by rw [ev_take H h1]; exact hq.2⟩
 have an : ∀ {q t}, q < n → An (H.take n) q t → t < n ∧ An H q t := fun hq ht => by
  obtain ⟨a1, a2, a3⟩ := ht
  rw [hl] at a1
  rw [ev_take H a1] at a2 a3
  rw [ev_take H hq] at a3
  exact ⟨a1, by omega, a2, a3⟩
 have an' : ∀ {q t}, q < n → t < n → An H q t → An (H.take n) q t := fun hq htn ht => ⟨by omega, by rw [ev_take H htn]; exact ht.2.1, by rw [ev_take H htn, ev_take H hq]; exact ht.2.2⟩
 induction h with
 | fin he => intro D' ha hD; exact .fin (by omega)
 | @bnd a D b m hlt h3 _ ih =>
  intro D' ha hD
  by_cases hn' : a = n
  ·exact .fin (by omega)
  ·have han : a < n := by omega
   refine .bnd (by omega) (by rw [ev_take H han]; exact h3) ?_
   rw [ev_take H han]
   exact ih (by omega) hD
 | @nxt a D b m hlt h3 hb _ ih =>
  intro D' ha hD
  by_cases hn' : a = n
  ·exact .fin (by omega)
  ·have han : a < n := by omega
   refine .nxt (by omega) (by rw [ev_take H han]; exact h3) (fun q hq ht => ?_) (ih (by omega) hD)
   obtain ⟨q1, q2⟩ := rq hq
   obtain ⟨t1, t2⟩ := an q1 ht
   rw [hD q q1 (.inr ⟨_, t1, t2⟩)]
   exact hb q q2 t2
 | @plw a D m q hq hqa hto hd hw _ ih =>
  intro D' ha hD
  have hqn : q < n := by omega
  refine .plw q (rq' hqn hq) hqa (fun t ht => hto t (an hqn ht).2) (by rw [hD q hqn (.inl hw)]; exact hd) (by rw [ev_take H hqn]; exact hw) ?_
  rw [ev_take H hqn]
  exact ih ha fun q' h1 h2 => by unfold upP; rw [hD q' h1 h2]
 | @plr a D m q t hq ht hqa hat hd hw hs _ ih =>
  intro D' ha hD
  have hqn : q < n := by omega
  by_cases htn : t < n
  ·refine .plr q t (rq' hqn hq) (an' hqn htn ht) hqa hat (by rw [hD q hqn (.inr ⟨t, htn, ht⟩)]; exact hd) (by rw [ev_take H hqn]; exact hw) (by rw [ev_take H hqn, ev_take H htn]; exact hs) (ih ha fun q' h1 h2 => by unfold upP; rw [hD q' h1 h2])
  ·refine ih ha fun q' h1 h2 => ?_
   rw [hD q' h1 h2]
   unfold upP
   have hne : q ≠ q' := fun h => by
    subst h
    rcases h2 with h2 | ⟨t', t1, t2⟩
    ·rw [hw] at h2; cases h2
    ·exact htn (by rw [An.uniq hW ht t2]; exact t1)
   rw [decide_eq_false hne, Bool.or_false]
theorem less_take {N : Nat} {H : List Evt} (hS : HiS N H) {n : Nat} (hn : n ≤ H.length) (h : fitsB H = true) : fitsB (H.take n) = true := by
 rw [fits_od hS] at h
 rw [fits_od ((take_emb hn hS.hi.h0).his hS)]
 exact od_take hn hS.hi.wf h (Nat.zero_le _) (fun _ _ _ => rfl)
def remE (H : List Evt) (k : Nat) : List Evt := H.take k ++ H.drop (k + 1)
def sg (k q : Nat) : Nat := if q < k then q else q - 1
def tu (k q : Nat) : Nat := if q < k then q else q + 1
def ph (k a : Nat) : Nat := if a ≤ k then a else a - 1
theorem rem_len {H : List Evt} {k : Nat} (hk : k < H.length) : (remE H k).length = H.length - 1 := by
 unfold remE
 rw [List.length_append, List.length_take, List.length_drop]; omega
theorem ev_rem {H : List Evt} {k : Nat} (hk : k < H.length) (q : Nat) : ev (remE H k) q = ev H (tu k q) := by
 have hl := take_len (H := H) (n := k) (by omega)
 unfold remE tu
 simp only [ev, List.getD]
 by_cases h : q < k
 ·rw [if_pos h, List.getElem?_append_left (by omega), List.getElem?_take, if_pos h]
 ·rw [if_neg h, List.getElem?_append_right (by omega), hl, List.getElem?_drop]
  congr 2
  omega
theorem tu_sg {k q : Nat} (h : q ≠ k) : tu k (sg k q) = q := by
 unfold tu sg
 by_cases h1 : q < k
 ·rw [if_pos h1, if_pos h1]
 ·rw [if_neg h1, if_neg (by omega)]; omega
theorem sg_tu (k q : Nat) : sg k (tu k q) = q := by
 unfold tu sg
 by_cases h1 : q < k
 ·rw [if_pos h1, if_pos h1]
 ·rw [if_neg h1, if_neg (by omega)]; omega
theorem tu_ne (k q : Nat) : tu k q ≠ k := by
 unfold tu
 by_cases h1 : q < k
 ·rw [if_pos h1]; omega
 ·rw [if_neg h1]; omega
theorem sg_lt {k q n : Nat} (h : q ≠ k) (hk : k < n) (hq : q < n) : sg k q < n - 1 := by
 unfold sg
 by_cases h1 : q < k
 ·rw [if_pos h1]; omega
 ·rw [if_neg h1]; omega
theorem tu_lt {k q n : Nat} (hk : k < n) (hq : q < n - 1) : tu k q < n := by
 unfold tu
 by_cases h1 : q < k
 ·rw [if_pos h1]; omega
 ·rw [if_neg h1]; omega
theorem sg_ph {k q a : Nat} (h : q ≠ k) (hqa : q < a) : sg k q < ph k a := by
 unfold sg ph
 by_cases h1 : q < k
 ·rw [if_pos h1]
  by_cases h2 : a ≤ k
  ·rw [if_pos h2]; exact hqa
  ·rw [if_neg h2]; omega
 ·rw [if_neg h1, if_neg (by omega)]; omega
theorem ph_sg {k t a : Nat} (h : t ≠ k) (hat : a ≤ t) : ph k a ≤ sg k t := by
 unfold sg ph
 by_cases h1 : t < k
 ·rw [if_pos h1, if_pos (by omega)]; exact hat
 ·rw [if_neg h1]
  by_cases h2 : a ≤ k
  ·rw [if_pos h2]; omega
  ·rw [if_neg h2]; omega
theorem ph_eq {k a : Nat} (h : a ≠ k) : ph k a = sg k a ∧ ph k (a + 1) = ph k a + 1 := by
 unfold ph sg
 by_cases h1 : a < k
 ·rw [if_pos (by omega), if_pos h1, if_pos (by omega)]; exact ⟨rfl, rfl⟩
 ·rw [if_neg (by omega), if_neg h1, if_neg (by omega)]; exact ⟨rfl, by omega⟩
theorem ph_k (k : Nat) : ph k (k + 1) = ph k k := by
 unfold ph
 rw [if_neg (by omega), if_pos (Nat.le_refl _)]; omega
theorem rem_cnt {H : List Evt} {k : Nat} (hk : k < H.length) (h2 : (ev H k).k = 2) : (remE H k).countP (fun e => e.k == 1) = H.countP fun e => e.k == 1 := by
 have e1 : H = H.take k ++ H.drop k := (List.take_append_drop k H).symm
 have e2 : H.drop k = ev H k :: H.drop (k + 1) := by
  rw [List.drop_eq_getElem_cons hk]
  simp [ev, List.getD, hk]
 have e3 : H.countP (fun e => e.k == 1) = (H.take k ++ H.drop k).countP fun e => e.k == 1 := by rw [← e1]
 rw [e3, e2]
 unfold remE
 rw [List.countP_append, List.countP_append, List.countP_cons_of_neg]
 rw [h2]; decide
theorem rem_emb {H : List Evt} {k : Nat} (hk : k < H.length) (h2 : (ev H k).k = 2) (h0 : H.length = 0 ∨ (ev H 0).k = 3) : Emb (remE H k) H (tu k) := by
 have hl := rem_len hk
 refine ⟨fun q hq => ?_, fun q q' _ _ h => by rw [← sg_tu k q, h, sg_tu], by omega, Nat.le_of_eq (rem_cnt hk h2), fun t q ht ht2 hq hq1 => ?_, ?_⟩
 ·rw [hl] at hq
  exact ⟨tu_lt hk hq, ev_rem hk q⟩
 ·have hne : q ≠ k := fun h => by rw [h, h2] at hq1; cases hq1
  refine ⟨sg k q, ?_, tu_sg hne⟩
  unfold tu at hq
  unfold sg
  by_cases h1 : t < k
  ·rw [if_pos h1] at hq
   rw [if_pos (by omega)]; exact hq
  ·rw [if_neg h1] at hq
   by_cases h3 : q < k
   ·rw [if_pos h3]; omega
   ·rw [if_neg h3]; omega
 ·rcases h0 with h0 | h0
  ·omega
  ·right
   rw [ev_rem hk]
   have : k ≠ 0 := fun h => by rw [h, h0] at h2; cases h2
   unfold tu
   rw [if_pos (by omega)]; exact h0
theorem od_rem {H : List Evt} {k q0 : Nat} (hk : k < H.length) (hk2 : (ev H k).k = 2) (hW : WfH H) (hq0 : Rq H q0) (ha0 : An H q0 k) (hw0 : (ev H q0).w = false) {a : Nat} {D : Nat → Bool} {b : Bool} {m : List Vl} (h : Od H a D b m) : ∀ {D' : Nat → Bool}, a ≤ H.length → (∀ q, Rq H q → q ≠ q0 → D' (sg k q) = D q) → Od (remE H k) (ph k a) D' b m := by
 have hl := rem_len hk
 have evs : ∀ {q}, q ≠ k → ev (remE H k) (sg k q) = ev H q := fun h => by rw [ev_rem hk, tu_sg h]
 have rqk : ∀ {q}, Rq H q → q ≠ k := fun hq h => by rw [h] at hq; rw [hq.2] at hk2; cases hk2
 have rq' : ∀ {q}, Rq H q → Rq (remE H k) (sg k q) := fun hq => ⟨by rw [hl]; exact sg_lt (rqk hq) hk hq.1, by rw [evs (rqk hq)]; exact hq.2⟩
 have rq : ∀ {q}, Rq (remE H k) q → ∃ q', q' ≠ k ∧ sg k q' = q ∧ Rq H q' := fun {q} hq => by
  obtain ⟨a1, a2⟩ := hq
  rw [hl] at a1
  rw [ev_rem hk] at a2
  exact ⟨tu k q, tu_ne k q, sg_tu k q, tu_lt hk a1, a2⟩
 have an : ∀ {q t}, q ≠ k → An (remE H k) (sg k q) t → ∃ t', t' ≠ k ∧ sg k t' = t ∧ An H q t' := fun {q t} hqk ht => by
  obtain ⟨a1, a2, a3⟩ := ht
  rw [hl] at a1
  rw [evs hqk] at a3
  rw [ev_rem hk] at a2 a3
  exact ⟨tu k t, tu_ne k t, sg_tu k t, tu_lt hk a1, a2, a3⟩
 have an' : ∀ {q t}, q ≠ k → t ≠ k → An H q t → An (remE H k) (sg k q) (sg k t) := fun hqk htk ht => ⟨by rw [hl]; exact sg_lt htk hk ht.1, by rw [evs htk]; exact ht.2.1, by rw [evs htk, evs hqk]; exact ht.2.2⟩
 have rel : ∀ {q t}, Rq H q → t ≠ k → An H q t → q ≠ q0 := fun hq htk ht h => by subst h; exact htk (An.uniq hW ht ha0)
 have sgi : ∀ {q q'}, q ≠ k → q' ≠ k → sg k q = sg k q' → q = q' := fun h1 h2 h => by rw [← tu_sg h1, h, tu_sg h2]
 have up : ∀ {D D' : Nat → Bool} {q}, Rq H q → (∀ q, Rq H q → q ≠ q0 → D' (sg k q) = D q) → ∀ q', Rq H q' → q' ≠ q0 → upP D' (sg k q) (sg k q') = upP D q q' := fun {D D' q} hq hD q' h1 h2 => by
  unfold upP
  rw [hD q' h1 h2]
  congr 1
  exact decide_eq_decide.2 ⟨fun h => sgi (rqk hq) (rqk h1) h, fun h => by rw [h]⟩
 induction h with
 | @fin a D b m he =>
  intro D' ha hD
  refine .fin ?_
  rw [hl, he]
  unfold ph
  rw [if_neg (by omega)]
 | @bnd a D b m hlt h3 _ ih =>
  intro D' ha hD
  have hak : a ≠ k := fun h => by rw [h, hk2] at h3; cases h3
  obtain ⟨e1, e2⟩ := ph_eq hak
  have := ih (by omega) hD
  rw [e2, ← evs hak, ← e1] at this
  refine .bnd ?_ ?_ this
  ·rw [e1, hl]; exact sg_lt hak hk hlt
  ·rw [e1, evs hak]; exact h3
 | @nxt a D b m hlt h3 hb _ ih =>
  intro D' ha hD
  have := ih (by omega) hD
  by_cases hak : a = k
  ·subst hak
   rw [ph_k] at this; exact this
  ·obtain ⟨e1, e2⟩ := ph_eq hak
   rw [e2] at this
   refine .nxt ?_ ?_ (fun q hq ht => ?_) this
   ·rw [e1, hl]; exact sg_lt hak hk hlt
   ·rw [e1, evs hak]; exact h3
   ·obtain ⟨q', c1, c2, c3⟩ := rq hq
    subst c2
    obtain ⟨t', d1, d2, d3⟩ := an c1 ht
    have : t' = a := sgi d1 hak (by rw [d2, e1])
    subst this
    rw [hD q' c3 (rel c3 d1 d3)]
    exact hb q' c3 d3
 | @plw a D m q hq hqa hto hd hw _ ih =>
  intro D' ha hD
  have hqk := rqk hq
  have hq0' : q ≠ q0 := fun h => by rw [h, hw0] at hw; cases hw
  refine .plw (sg k q) (rq' hq) (sg_ph hqk hqa) (fun t ht => ?_) (by rw [hD q hq hq0']; exact hd) (by rw [evs hqk]; exact hw) ?_
  ·obtain ⟨t', d1, d2, d3⟩ := an hqk ht
   rw [← d2]; exact ph_sg d1 (hto t' d3)
  ·rw [evs hqk]
   exact ih ha (up hq hD)
 | @plr a D m q t hq ht hqa hat hd hw hs _ ih =>
  intro D' ha hD
  have hqk := rqk hq
  by_cases htk : t = k
  ·subst htk
   refine ih ha fun q' h1 h2 => ?_
   rw [hD q' h1 h2]
   unfold upP
   have hne : q ≠ q' := fun h => by
    subst h
    have := key_uniq hW hq.1 hq0.1 hq.2 hq0.2 (kEq_trans (kEq_symm ht.2.2) ha0.2.2)
    exact h2 this
   rw [decide_eq_false hne, Bool.or_false]
  ·have hq0' := rel hq htk ht
   exact .plr (sg k q) (sg k t) (rq' hq) (an' hqk htk ht) (sg_ph hqk hqa) (ph_sg htk hat) (by rw [hD q hq hq0']; exact hd) (by rw [evs hqk]; exact hw) (by rw [evs hqk, evs htk]; exact hs) (ih ha (up hq hD))
theorem less_rem {N : Nat} {H : List Evt} (hS : HiS N H) {k q0 : Nat} (hq0 : Rq H q0) (ha0 : An H q0 k) (hw0 : (ev H q0).w = false) (h : fitsB H = true) : fitsB (remE H k) = true := by
 rw [fits_od hS] at h
 rw [fits_od ((rem_emb ha0.1 ha0.2.1 hS.hi.h0).his hS)]
 have := od_rem ha0.1 ha0.2.1 hS.hi.wf hq0 ha0 hw0 (D' := fun _ => false) h (Nat.zero_le _) (fun _ _ _ => rfl)
 have e : ph k 0 = 0 := if_pos (Nat.zero_le _)
 rw [e] at this
 exact this
def latE (H : List Evt) (k : Nat) : List Evt := remE H k ++ [ev H k]
def tl (n k q : Nat) : Nat := if q < n - 1 then tu k q else k
theorem lat_len {H : List Evt} {k : Nat} (hk : k < H.length) : (latE H k).length = H.length := by
 unfold latE
 rw [List.length_append, rem_len hk, List.length_singleton]; omega
theorem ev_lat {H : List Evt} {k : Nat} (hk : k < H.length) {q : Nat} (hq : q < H.length) : ev (latE H k) q = ev H (tl H.length k q) := by
 have hl := rem_len hk
 unfold latE tl
 by_cases h : q < H.length - 1
 ·rw [if_pos h, ev_lt _ _ (by omega), ev_rem hk]
 ·have : q = (remE H k).length := by omega
  rw [if_neg h, this, ev_at]
theorem tl_lt {k q n : Nat} (hk : k < n) (hq : q < n) : tl n k q < n := by
 unfold tl
 by_cases h : q < n - 1
 ·rw [if_pos h]; exact tu_lt hk h
 ·rw [if_neg h]; exact hk
theorem tl_inj {k q q' n : Nat} (hk : k < n) (hq : q < n) (hq' : q' < n) (h : tl n k q = tl n k q') : q = q' := by
 unfold tl at h
 by_cases h1 : q < n - 1
 ·rw [if_pos h1] at h
  by_cases h2 : q' < n - 1
  ·rw [if_pos h2] at h
   rw [← sg_tu k q, h, sg_tu]
  ·rw [if_neg h2] at h
   exact absurd h (tu_ne k q)
 ·rw [if_neg h1] at h
  by_cases h2 : q' < n - 1
  ·rw [if_pos h2] at h
   exact absurd h.symm (tu_ne k q')
  ·omega
theorem lat_emb {H : List Evt} {k : Nat} (hk : k < H.length) (h2 : (ev H k).k = 2) (h0 : H.length = 0 ∨ (ev H 0).k = 3) : Emb (latE H k) H (tl H.length k) := by
 have hl := lat_len hk
 have hk0 : k ≠ 0 := fun h => by
  rcases h0 with h0 | h0
  ·omega
  ·rw [h, h0] at h2; cases h2
 refine ⟨fun q hq => ?_, fun q q' hq hq' h => ?_, by omega, ?_, fun t q ht ht2 hq hq1 => ?_, ?_⟩
 ·rw [hl] at hq
  exact ⟨tl_lt hk hq, ev_lat hk hq⟩
 ·rw [hl] at hq hq'
  exact tl_inj hk hq hq' h
 ·unfold latE
  rw [List.countP_append, rem_cnt hk h2, List.countP_cons_of_neg]
  ·exact Nat.le_refl _
  ·rw [h2]; decide
 ·have hne : q ≠ k := fun h => by rw [h, h2] at hq1; cases hq1
  rw [hl] at ht
  have hqn : q < H.length := Nat.lt_trans hq (tl_lt hk ht)
  have hsn := sg_lt hne hk hqn
  refine ⟨sg k q, ?_, ?_⟩
  ·unfold tl at hq
   by_cases h1 : t < H.length - 1
   ·rw [if_pos h1] at hq
    unfold tu at hq
    unfold sg
    by_cases h3 : t < k
    ·rw [if_pos h3] at hq
     rw [if_pos (by omega)]; exact hq
    ·rw [if_neg h3] at hq
     by_cases h4 : q < k
     ·rw [if_pos h4]; omega
     ·rw [if_neg h4]; omega
   ·omega
  ·unfold tl
   rw [if_pos hsn, tu_sg hne]
 ·right
  rw [ev_lat hk (by omega)]
  unfold tl tu
  rw [if_pos (by omega), if_pos (by omega)]
  exact h0.resolve_left (by omega)
theorem od_lat {H : List Evt} {k q0 : Nat} (hk : k < H.length) (hk2 : (ev H k).k = 2) (hW : WfH H) (hq0 : Rq H q0) (ha0 : An H q0 k) {a : Nat} {D : Nat → Bool} {b : Bool} {m : List Vl} (h : Od H a D b m) : ∀ {D' : Nat → Bool}, a ≤ H.length → (k < a → D q0 = true) → (∀ q, Rq H q → D' (sg k q) = D q) → Od (latE H k) (ph k a) D' b m := by
 have hl := lat_len hk
 have evs : ∀ {q}, q < H.length → q ≠ k → ev (latE H k) (sg k q) = ev H q := fun hq h => by
  have := sg_lt h hk hq
  rw [ev_lat hk (by omega)]
  unfold tl
  rw [if_pos this, tu_sg h]
 have evl : ev (latE H k) (H.length - 1) = ev H k := by
  rw [ev_lat hk (by omega)]
  unfold tl
  rw [if_neg (by omega)]
 have rqk : ∀ {q}, Rq H q → q ≠ k := fun hq h => by rw [h] at hq; rw [hq.2] at hk2; cases hk2
 have rq' : ∀ {q}, Rq H q → Rq (latE H k) (sg k q) := fun hq => by
  have := sg_lt (rqk hq) hk hq.1
  exact ⟨by omega, by rw [evs hq.1 (rqk hq)]; exact hq.2⟩
 have rq : ∀ {q}, Rq (latE H k) q → ∃ q', q' ≠ k ∧ sg k q' = q ∧ Rq H q' := fun {q} hq => by
  obtain ⟨a1, a2⟩ := hq
  rw [hl] at a1
  by_cases h1 : q < H.length - 1
  ·rw [ev_lat hk a1] at a2
   unfold tl at a2
   rw [if_pos h1] at a2
   exact ⟨tu k q, tu_ne k q, sg_tu k q, tu_lt hk h1, a2⟩
  ·have : q = H.length - 1 := by omega
   rw [this, evl, hk2] at a2; cases a2
 have an : ∀ {q t}, Rq H q → An (latE H k) (sg k q) t → (∃ t', t' ≠ k ∧ sg k t' = t ∧ An H q t') ∨ (t = H.length - 1 ∧ q = q0) := fun {q t} hq ht => by
  obtain ⟨a1, a2, a3⟩ := ht
  rw [hl] at a1
  rw [evs hq.1 (rqk hq)] at a3
  by_cases h1 : t < H.length - 1
  ·left
   rw [ev_lat hk a1] at a2 a3
   unfold tl at a2 a3
   rw [if_pos h1] at a2 a3
   exact ⟨tu k t, tu_ne k t, sg_tu k t, tu_lt hk h1, a2, a3⟩
  ·right
   have : t = H.length - 1 := by omega
   rw [this, evl] at a3
   exact ⟨this, key_uniq hW hq.1 hq0.1 hq.2 hq0.2 (kEq_trans (kEq_symm a3) ha0.2.2)⟩
 have sgi : ∀ {q q'}, q ≠ k → q' ≠ k → sg k q = sg k q' → q = q' := fun h1 h2 h => by rw [← tu_sg h1, h, tu_sg h2]
 have up : ∀ {D D' : Nat → Bool} {q}, Rq H q → (∀ q, Rq H q → D' (sg k q) = D q) → ∀ q', Rq H q' → upP D' (sg k q) (sg k q') = upP D q q' := fun {D D' q} hq hD q' h1 => by
  unfold upP
  rw [hD q' h1]
  congr 1
  exact decide_eq_decide.2 ⟨fun h => sgi (rqk hq) (rqk h1) h, fun h => by rw [h]⟩
 have upt : ∀ {D : Nat → Bool} {q a : Nat}, (k < a → D q0 = true) → k < a → upP D q q0 = true := fun h1 h2 => by
  unfold upP; rw [h1 h2]; rfl
 have phl : ∀ {a : Nat}, a ≤ H.length → ph k a ≤ H.length - 1 := fun {a} ha => by
  unfold ph
  by_cases h : a ≤ k
  ·rw [if_pos h]; omega
  ·rw [if_neg h]; omega
 induction h with
 | @fin a D b m he =>
  intro D' ha hd0 hD
  have e : ph k a = H.length - 1 := by
   rw [he]; unfold ph; rw [if_neg (by omega)]
  rw [e]
  refine .nxt (by omega) (by rw [evl, hk2]; decide) (fun q hq ht => ?_) (.fin (by omega))
  obtain ⟨q', c1, c2, c3⟩ := rq hq
  subst c2
  rcases an c3 ht with ⟨t', d1, d2, d3⟩ | ⟨_, d2⟩
  ·have := sg_lt d1 hk d3.1
   omega
  ·subst d2
   rw [hD q' c3]
   exact hd0 (by omega)
 | @bnd a D b m hlt h3 _ ih =>
  intro D' ha hd0 hD
  have hak : a ≠ k := fun h => by rw [h, hk2] at h3; cases h3
  obtain ⟨e1, e2⟩ := ph_eq hak
  have := ih (by omega) (fun h => hd0 (by omega)) hD
  rw [e2, ← evs hlt hak, ← e1] at this
  have hsl := sg_lt hak hk hlt
  refine .bnd ?_ ?_ this
  ·rw [e1, hl]; omega
  ·rw [e1, evs hlt hak]; exact h3
 | @nxt a D b m hlt h3 hb _ ih =>
  intro D' ha hd0 hD
  by_cases hak : a = k
  ·subst hak
   have := ih (by omega) (fun _ => hb q0 hq0 ha0) hD
   rw [ph_k] at this; exact this
  ·have := ih (by omega) (fun h => hd0 (by omega)) hD
   obtain ⟨e1, e2⟩ := ph_eq hak
   rw [e2] at this
   have hsl := sg_lt hak hk hlt
   refine .nxt ?_ ?_ (fun q hq ht => ?_) this
   ·rw [e1, hl]; omega
   ·rw [e1, evs hlt hak]; exact h3
   ·obtain ⟨q', c1, c2, c3⟩ := rq hq
    subst c2
    rcases an c3 ht with ⟨t', d1, d2, d3⟩ | ⟨d1, d2⟩
    ·have : t' = a := sgi d1 hak (by rw [d2, e1])
     subst this
     rw [hD q' c3]
     exact hb q' c3 d3
    ·omega
 | @plw a D m q hq hqa hto hd hw _ ih =>
  intro D' ha hd0 hD
  have hqk := rqk hq
  refine .plw (sg k q) (rq' hq) (sg_ph hqk hqa) (fun t ht => ?_) (by rw [hD q hq]; exact hd) (by rw [evs hq.1 hqk]; exact hw) ?_
  ·rcases an hq ht with ⟨t', d1, d2, d3⟩ | ⟨d1, d2⟩
   ·rw [← d2]; exact ph_sg d1 (hto t' d3)
   ·rw [d1]; exact phl ha
  ·rw [evs hq.1 hqk]
   exact ih ha (upt hd0) (up hq hD)
 | @plr a D m q t hq ht hqa hat hd hw hs _ ih =>
  intro D' ha hd0 hD
  have hqk := rqk hq
  by_cases htk : t = k
  ·subst htk
   refine .plr (sg t q) (H.length - 1) (rq' hq) ⟨by omega, by rw [evl]; exact hk2, by rw [evl, evs hq.1 hqk]; exact ht.2.2⟩ (sg_ph hqk hqa) (phl ha) (by rw [hD q hq]; exact hd) (by rw [evs hq.1 hqk]; exact hw) (by rw [evs hq.1 hqk, evl]; exact hs) (ih ha (upt hd0) (up hq hD))
  ·have hsl := sg_lt htk hk ht.1
   exact .plr (sg k q) (sg k t) (rq' hq) ⟨by omega, by rw [evs ht.1 htk]; exact ht.2.1, by rw [evs ht.1 htk, evs hq.1 hqk]; exact ht.2.2⟩ (sg_ph hqk hqa) (ph_sg htk hat) (by rw [hD q hq]; exact hd) (by rw [evs hq.1 hqk]; exact hw) (by rw [evs hq.1 hqk, evs ht.1 htk]; exact hs) (ih ha (upt hd0) (up hq hD))
theorem later_fits {N : Nat} {H : List Evt} (hS : HiS N H) {k : Nat} (hk : k < H.length) (hk2 : (ev H k).k = 2) (h : fitsB H = true) : fitsB (latE H k) = true := by
 obtain ⟨q0, q1, q2, q3⟩ := hS.hi.wf.ans k hk hk2
 rw [fits_od hS] at h
 rw [fits_od ((lat_emb hk hk2 hS.hi.h0).his hS)]
 have := od_lat hk hk2 hS.hi.wf ⟨by omega, q2⟩ ⟨hk, hk2, q3⟩ (D' := fun _ => false) h (Nat.zero_le _) (fun h => absurd h (Nat.not_lt_zero _)) (fun _ _ => rfl)
 have e : ph k 0 = 0 := if_pos (Nat.zero_le _)
 rw [e] at this
 exact this
end Go.Proofs.Ytjibiphgbhlhkaa.Ev
end
section
set_option maxRecDepth 100000
namespace Go.Proofs.Ytjibiphgbhlhkaa.Ev
open Go Go.Proofs Go.RowKit
theorem mrg_frI (b : Bool) (l m : List Int) (c d : Nat) : mrgT b (.fr 1 l.length c (encL l)) (.fr 1 m.length d (encL m)) = cond b (.fr 1 l.length c (encL l)) (.fr 1 m.length d (encL m)) := by
 have hs : sameEs 1 l.length 1 m.length = true := by simp [sameEs, Nat.beq_refl]
 have : mrgT b (.fr 1 l.length c (encL l)) (.fr 1 m.length d (encL m)) = .fr 1 (cond b l.length m.length) (cond b c d) fun i j => mrgT b (encL l i j) (encL m i j) := by
  simp only [mrgT, hs, cond_true, beq_false (show (1 : Nat) ≠ 0 by decide), cond_false]
 refine Eq.trans this ?_
 cases b with
 | true => rfl
 | false => rfl
theorem mrg_evt (b : Bool) (x y : Evt) (j : Nat) : mrgT b (evtE x j) (evtE y j) = cond b (evtE x j) (evtE y j) := by
 match j with
 | 0 | 1 | 2 | 3 | 4 => cases b <;> rfl
 | 5 => exact mrg_frI b x.a y.a x.ca y.ca
 | 6 => exact mrg_frV b x.v y.v x.cv y.cv
 | j + 7 => exact mrg_frV b x.m y.m x.cm y.cm
theorem row_is {R : List Evt} {n : Nat} {g : Nat → Nat → Td} (k : Rk) (hn : n = R.length) (hg : ∀ i, i < n → g i = encL R i) (hok : R.all (okA Evt) = true) (hl : n ≤ 1000000) : rowL Evt n (some (.row k 8 0 n g)) = R ∧ ∀ c, c ≤ 1 → rowB Evt n c (some (.row k 8 0 n g)) = true := by
 have e1 : (decL n g : List Evt) = R := by
  rw [← decL_encL R, ← hn]
  unfold decL
  exact List.map_congr_left fun i hi => by rw [hg i (List.mem_range.1 hi)]
 refine ⟨e1, fun c hc => ?_⟩
 simp only [rowB, Bool.and_eq_true]
 refine ⟨⟨⟨⟨⟨Nat.beq_refl _, rfl⟩, Nat.ble_eq_true_of_le (Nat.le_refl _)⟩, okL_of fun i hi => ?_⟩, Nat.ble_eq_true_of_le hc⟩, Nat.ble_eq_true_of_le hl⟩
 rw [hg i hi]
 rw [List.all_eq_true] at hok
 exact hok _ (getD_mem _ (by omega))
theorem HiG.oks {H : List Evt} (h : HiG H) : H.all (okA Evt) = true := by
 rw [List.all_eq_true]
 exact fun e he => (h.g e he).okA
theorem mdOk_of {l : List U4} (hl : l.all (okA U4) = true) (h60 : l.length ≤ 60) : mdOk l = true := by
 unfold mdOk
 rw [Bool.and_eq_true]
 exact ⟨Nat.ble_eq_true_of_le h60, hl⟩
theorem hr_law {l : List U4} {c : Nat} (hc : c ≤ 1) (hl : l.all (okA U4) = true) (w : World) (args' : Array Value) (ha : PW (TR w (There w)) [tdL l c] args'.toList) :
  Calls Try.prog 3 args' w fun e w' => e = .returned (.bool true) ∧ Below w.heap.size w w' := by
 refine law_top (C := toldW) (fuel := 100) (n := 20) (un := fun _ => 0) (lvs := fun _ => []) (ex := exN) follows toldW_ok (fun β hβ => ?_) w args' ha
 show lawE _ _ _ _ _ _ (cnOf 1 fun _ => []) _ _ [.slice (some ⟨0, 0, some 0⟩) l.length c] (mkS [some (rowO .still l)]) trueE
 rw [vc_hr]
 refine br_of (fun _ => trivial) (fun q1 => ?_)
 have h60 : l.length ≤ 60 := by simp at q1; omega
 have hH : HiG (made l false) := made_hi hl
 have b1 : rowB U4 l.length c (some (AObj.row Rk.still 4 0 l.length (encL l))) = true := rowB_of .still rfl rfl hl (by omega) hc
 have b3 : rowB Evt (made l false).length 1 (some (.row .mine 8 0 (made l false).length (encL (made l false)))) = true := rowB_of .mine rfl rfl hH.oks (by have := hH.wf.len; omega) (Nat.le_refl _)
 simp only [rowL_enc, b1, mdOk_of hl h60, b3, hH.fitOk.1, right_fits hl, Bool.and_self, need_t]
theorem tm_rng {u : Int} (hu : 0 ≤ u ∧ u < 256) {n : Nat} (hn : 0 < n) (h40 : n ≤ 1000) : ∃ k : Nat, Int.tmod (IntKind.wrap .i64 u) (Int.ofNat n) = (k : Int) ∧ k < n := by
 have hw : IntKind.wrap .i64 u = u := w64 (by omega) (by omega)
 obtain ⟨r0, r1⟩ := tmod_rng (b := Int.ofNat n) hu.1 (by simp; omega)
 have r1' : Int.tmod u (Int.ofNat n) < (n : Int) := r1
 rw [hw]
 refine ⟨(Int.tmod u (Int.ofNat n)).toNat, by omega, by omega⟩
theorem rem_row {H : List Evt} {k : Nat} (hk : k < H.length) (i : Nat) (hi : i < k + (H.length - (k + 1))) : (fun j => mrgT (Nat.blt i k) (encL H (0 + (0 + i)) j) (encL H (0 + (k + 1) + (i - k)) j)) = encL (remE H k) i := by
 funext j
 refine Eq.trans (mrg_evt (Nat.blt i k) (ev H (0 + (0 + i))) (ev H (0 + (k + 1) + (i - k))) j) ?_
 show _ = evtE (ev (remE H k) i) j
 rw [ev_rem hk]
 unfold tu
 by_cases h : i < k
 ·have : Nat.blt i k = true := by simpa using h
  rw [this, cond_true, if_pos h, Nat.zero_add, Nat.zero_add]
 ·rw [blt_false h, cond_false, if_neg h]
  congr 2
  omega
theorem hl_law {l : List U4} {c : Nat} {wr : Bool} {u v : Int} (hc : c ≤ 1) (hl : l.all (okA U4) = true) (hu : 0 ≤ u ∧ u < 256) (hv : 0 ≤ v ∧ v < 256) (w : World) (args' : Array Value) (ha : PW (TR w (There w)) [tdL l c, .sc (.bool wr), .sc (.int .u8 u), .sc (.int .u8 v)] args'.toList) :
  Calls Try.prog 4 args' w fun e w' => e = .returned (.bool true) ∧ Below w.heap.size w w' := by
 refine law_top (C := toldW) (fuel := 100) (n := 20) (un := fun _ => 0) (lvs := fun _ => []) (ex := exN) follows toldW_ok (fun β hβ => ?_) w args' ha
 show lawE _ _ _ _ _ _ (cnOf 1 fun _ => []) _ _ [.slice (some ⟨0, 0, some 0⟩) l.length c, .bool wr, .int .u8 u, .int .u8 v] (mkS [some (rowO .still l)]) trueE
 rw [vc_hl]
 refine br_of (fun _ => trivial) (fun q1 => ?_)
 have h60 : l.length ≤ 60 := by simp at q1; omega
 have hS : HiS 3 (made l wr) := made_his hl
 have hW := (mdW_all (wr := wr) hl l.length (Nat.le_refl _)).1
 have hpos : 0 < (made l wr).length := hW.ne.1
 have b1 : rowB U4 l.length c (some (AObj.row Rk.still 4 0 l.length (encL l))) = true := rowB_of .still rfl rfl hl (by omega) hc
 have hans : ∀ k, k < (made l wr).length → (ev (made l wr) k).k = 2 → (ev (made l wr) k).v.length ≠ 0 → ∃ q0, Rq (made l wr) q0 ∧ An (made l wr) q0 k ∧ (ev (made l wr) q0).w = false := fun k hk hk2 hv0 => by
  obtain ⟨q0, q1, q2, q3⟩ := hS.hi.wf.ans k hk hk2
  have hr : Rq (made l wr) q0 := ⟨by omega, q2⟩
  have ha : An (made l wr) q0 k := ⟨hk, hk2, q3⟩
  refine ⟨q0, hr, ha, ?_⟩
  cases hw : (ev (made l wr) q0).w with
  | false => rfl
  | true =>
   have := (made_an hl hr ha).1 hw
   rw [this] at hv0
   exact absurd rfl hv0
 simp only [rowL_enc, b1, mdOk_of hl h60, Bool.and_self, need_t]
 generalize made l wr = H at *
 have hH := hS.hi
 have hlen := hH.wf.len
 have b3 : rowB Evt H.length 1 (some (.row .mine 8 0 H.length (encL H))) = true := rowB_of .mine rfl rfl hH.oks (by omega) (Nat.le_refl _)
 obtain ⟨k, ek, hk⟩ := tm_rng hv hpos (by omega)
 have hw1 : IntKind.wrap .i64 (Int.ofNat H.length + 1) = Int.ofNat (H.length + 1) := by
  show IntKind.wrap .i64 ((H.length : Int) + 1) = ((H.length + 1 : Nat) : Int)
  rw [w64 (by omega) (by omega)]; omega
 obtain ⟨n, en, hn⟩ := tm_rng hu (show 0 < H.length + 1 by omega) (by omega)
 have hw2 : IntKind.wrap .i64 ((k : Int) + 1) = ((k + 1 : Nat) : Int) := by rw [w64 (by omega) (by omega)]; omega
 have d0 : ∀ k : Nat, decide ((0 : Int) ≤ (k : Int)) = true := fun k => decide_eq_true (by omega)
 have t0 : ∀ k : Nat, Int.toNat (k : Int) = k := fun k => Int.toNat_natCast k
 have z1 : decide (Int.ofNat H.length = 0) = false := decide_eq_false (by simp only [Int.ofNat_eq_natCast]; omega)
 have z2 : decide (Int.ofNat (H.length + 1) = 0) = false := decide_eq_false (by simp only [Int.ofNat_eq_natCast]; omega)
 have ble : ∀ {a b : Nat}, a ≤ b → Nat.ble a b = true := fun h => Nat.ble_eq_true_of_le h
 have g1 := ble (show k ≤ H.length by omega)
 have g2 := ble (show k ≤ 1000000 by omega)
 have g3 := ble (show k + 1 ≤ H.length by omega)
 have g4 := ble (show k + 1 + (H.length - (k + 1)) ≤ H.length by omega)
 have g5 := ble (show k + (H.length - (k + 1)) ≤ 1000000 by omega)
 have g6 := ble (Nat.le_refl k)
 have g7 := ble (show n ≤ H.length by omega)
 have g8 : Nat.ble 0 k = true := ble (Nat.zero_le _)
 have g9 : Nat.ble 0 (k + 1) = true := ble (Nat.zero_le _)
 have g10 : Nat.blt k H.length = true := by simpa using hk
 simp only [b3, hH.fitOk.1, Bool.and_self, need_t]
 refine br_of (fun _ => trivial) (fun qf => ?_)
 have hfit : fitsB H = true := by simpa using qf
 have hTS : HiS 3 (H.take n) := (take_emb (show n ≤ H.length by omega) hH.h0).his hS
 have hT := hTS.hi
 have lT : rowL Evt n (some (AObj.row Rk.mine 8 0 H.length (encL H))) = H.take n := decL_take H (by omega)
 have bT : ∀ c, c ≤ 1 → rowB Evt n c (some (AObj.row Rk.mine 8 0 H.length (encL H))) = true := fun c hc => by
  simp only [rowB, Bool.and_eq_true]
  refine ⟨⟨⟨⟨⟨Nat.beq_refl _, rfl⟩, g7⟩, okL_of fun i hi => ?_⟩, Nat.ble_eq_true_of_le hc⟩, Nat.ble_eq_true_of_le (by omega)⟩
  exact (hH.ev (show i < H.length by omega)).okA
 have cT : (bif Nat.beq H.length 0 then 1 else 0) ≤ 1 := by cases Nat.beq H.length 0 <;> decide
 simp only [ek, hw1, en, hw2, d0, t0, z1, z2, Nat.sub_zero, Nat.zero_add, g1, g2, g3, g4, g5, g6, g7, g8, g9, g10, Bool.and_self, Bool.not_false, Bool.true_and, need_t, lT, bT _ cT, hT.fitOk.1, less_take hS (show n ≤ H.length by omega) hfit]
 refine br_of (fun _ => trivial) (fun q2 => br_of (fun _ => trivial) (fun q3 => ?_))
 have hk2 : (ev H k).k = 2 := by
  have : ((ev H k).k != 2) = false := q2
  simpa using this
 have hv0 : (ev H k).v.length ≠ 0 := by
  have q3 : (Int.ofNat (ev H k).v.length == 0) = false := q3
  simp only [Int.ofNat_eq_natCast] at q3
  intro h
  rw [h] at q3
  cases q3
 obtain ⟨q0, r1, r2, r3⟩ := hans k hk hk2 hv0
 have hRS : HiS 3 (remE H k) := (rem_emb hk hk2 hH.h0).his hS
 have hR := hRS.hi
 obtain ⟨f1, f2⟩ := row_is (R := remE H k) (n := k + (H.length - (k + 1))) (g := fun j i => mrgT (Nat.blt j k) (encL H j i) (encL H (k + 1 + (j - k)) i)) .mine (by rw [rem_len hk]; omega) (fun i hi => by
  have := rem_row hk i hi
  simp only [Nat.zero_add] at this
  exact this) hR.oks (by omega)
 simp only [f1, f2 0 (Nat.zero_le _), hR.fitOk.1, less_rem hS r1 r2 r3 hfit, Bool.and_self, need_t]
end Go.Proofs.Ytjibiphgbhlhkaa.Ev
end
