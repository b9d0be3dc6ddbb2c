/-
  Memory seen otherwise: cells, some of which lead to others, as a row that may grow.
-/
import Derived.Test.YtjibiphgbhlhkaaQ21
import Derived.Test.YtjibiphgbhlhkaaHsMdV
set_option linter.unusedVariables false
set_option linter.unusedSimpArgs false
section
namespace Go.Proofs.Ytjibiphgbhlhkaa.Ev
open Go Go.RowKit
theorem Seen.cellsRowT {β : Bs} {f f' : AFr} {l l' : List (Option AObj)} (k es n c t : Nat) {cs : List Value} {ex : Bool} {ts : List Td} {st1 : ASt} (hk : l[k]? = some (some (.cells cs ex es))) (hs : f.tmps.get t = some (.slice (some ⟨k, 0, none⟩) n c)) (hT : toTs (toT 4) cs (mkS l) = .ok (ts, st1)) (hk1 : st1.h.get k = some (.cells cs ex es))
  (hlen : c * es ≤ cs.length) (hnc : n ≤ c) (h0 : 0 < n) (hl' : l'.length = st1.next + 1) (hm : ∀ q, (mkS l').h.get q = upd (upd st1.h.get k none) st1.next (some (.row .mine es 0 n (selT es n ts))) q)
  (hn : f'.n = f.n) (hd : f'.defers = f.defers) (h : ∀ u v, f'.tmps.get u = some v → (u = t ∧ v = .slice (some ⟨st1.next, 0, some 0⟩) n c) ∨ f.tmps.get u = some v) :
  Seen β f (mkS l) f' (mkS l') := by
 intro ρ a w hr
 have hgk : (mkS l).h.get k = some (.cells cs ex es) := by rw [mkS_get, hk]; rfl
 obtain ⟨b1, b2⟩ := toTs_rel (toT_rel 4) _ _ _ _ hT
 have hfa : Fresh ρ (mkS l).next (st1.next + 1) := fun x h1 _ => hr.fresh x h1
 obtain ⟨s0, g1, g0, g2, g3, C0, ty0, fr0, g4, g5, g6, g7, g8⟩ := hr.wr.obj _ _ hgk
 have hvl : VRL ρ cs ((List.range cs.length).map fun i => C0.getD (s0.base + i) .nilIface) := by
  refine ⟨by simp, fun i x y hx hy => ?_⟩
  obtain ⟨z, z1, z2⟩ := g8 i x hx
  have hi := (List.getElem?_eq_some_iff.1 hx).1
  rw [List.getElem?_map, List.getElem?_range hi] at hy
  cases hy
  have : C0.getD (s0.base + i) .nilIface = z := by rw [Array.getD_eq_getD_getElem?, z1]; rfl
  show VR ρ x (C0.getD (s0.base + i) .nilIface)
  rw [this]; exact z2
 obtain ⟨ρ1, m1, t1, o1⟩ := b2 hvl hr.wr (fun x h1 h2 => hfa x h1 (by omega))
 have hfn : ρ1 st1.next = none := (m1.fresh hfa) st1.next (Nat.le_refl _) (Nat.lt_succ_self _)
 obtain ⟨s, e1, f0, f1, f2, C, ty, fr, f3, f4, f5, f6, f7⟩ := m1.wr.obj _ _ hk1
 have hss : s = s0 := by have := m1.ext _ _ g1; rw [this] at e1; cases e1; rfl
 subst hss
 have hCC : C0 = C := by rw [g4] at f3; cases f3; rfl
 subst hCC
 obtain ⟨v', v1, v2⟩ := hr.fr.tmp _ _ hs
 cases v2 with
 | slice _ _ s' _ _ c' o' hsp hn' hc hxx hro ho =>
  rw [hsp] at g1; cases g1
  have ho' : o' = s.base := by
   rcases ho with ho | ho
   ·exact ho
   ·omega
  have hroom : o' + c' * es ≤ C0.size := by
   cases hex : ex with
   | false =>
    rw [hex] at f1
    have h1 := hro f1
    rw [f2] at h1; omega
   | true =>
    rw [hex] at f1
    have h1 := hxx f1
    rw [h1, ho']; omega
  have hle : n * es ≤ c' * es := Nat.mul_le_mul_right _ (by omega)
  have hle2 : n * es ≤ cs.length := Nat.le_trans (Nat.mul_le_mul_right _ hnc) hlen
  have m := Mv.turn (w' := w) (n := st1.next) m1.wr hfn hk1 rfl e1 f0 (.row .mine es 0 n (selT es n ts)) rfl ⟨s.blk, o', false, es, C0.size, false, nofz⟩ (fun _ h => h) (.inr ⟨rfl, rfl, fun _ _ => rfl⟩)
   ⟨rfl, (fun h => by cases h), fun _ => ⟨rfl, rfl, fun _ => ⟨C0, ty, fr, f3, rfl, f5, by show o' + n * es ≤ C0.size; omega⟩⟩, (fun h => by cases h), fun i _ hi j hj => by
    have hij : i * es + j < cs.length := by
     have := Nat.mul_le_mul_right es (Nat.succ_le_of_lt hi)
     rw [Nat.succ_mul] at this; omega
    have htl : i * es + j < ts.length := by rw [t1.1]; simpa using hij
    have ht : ts[i * es + j]? = some ts[i * es + j] := List.getElem?_eq_getElem htl
    obtain ⟨y, hy, hty⟩ := t1.get ht
    have hy' := hy
    rw [List.getElem?_map, List.getElem?_range hij] at hy
    cases hy
    obtain ⟨z, z1, z2⟩ := g8 (i * es + j) cs[i * es + j] (List.getElem?_eq_getElem hij)
    have hz : C0.getD (s.base + (i * es + j)) .nilIface = z := by rw [Array.getD_eq_getD_getElem?, z1]; rfl
    have hty : TR w (Frz ρ1) ts[i * es + j] (C0.getD (s.base + (i * es + j)) .nilIface) := hty
    have hy' : ((List.range cs.length).map fun i => C0.getD (s.base + i) .nilIface)[i * es + j]? = some (C0.getD (s.base + (i * es + j)) .nilIface) := hy'
    rw [hz] at hty
    have ho1 := o1 _ (List.mem_of_getElem? hy')
    rw [hz] at ho1
    refine ⟨z, ?_, ho1, (selT_rel n ts i j _ _ hi hj ht hty).kept (fun b hb => Frz.mono (Sub.upd _ hfn) hb) (fun _ _ => rfl)⟩
    rw [cell_row f3, ← z1, ho']; congr 1; show s.base + i * es + j = _; omega⟩ rfl rfl rfl
  have hg : (mkS l').h.get = upd (upd st1.h.get k none) st1.next (some (.row .mine es 0 n (selT es n ts))) := funext hm
  have hnx : (mkS l').next = st1.next + 1 := hl'
  let st2 : ASt := ⟨st1.next + 1, (mkS l').h, 0⟩
  have hlo : LoS (mkS l) st2 := ⟨by have := b1.1; show (mkS l).next ≤ st1.next + 1; omega, Nat.zero_le _, fun x _ h2 => absurd h2 (Nat.not_lt_zero _), fun x o' e' => by
   have e' : (mkS l').h.get x = some o' := e'
   rw [hg] at e'
   by_cases hx : x = st1.next
   ·exact .inr (by subst hx; exact ⟨b1.1, Nat.lt_succ_self _⟩)
   ·rw [upd_ne _ _ hx] at e'
    by_cases hxk : x = k
    ·subst hxk; rw [upd_same] at e'; cases e'
    ·rw [upd_ne _ _ hxk] at e'
     rcases b1.2.2.2 x o' e' with h1 | h1
     ·exact .inl h1
     ·exact .inr ⟨h1.1, by show x < st1.next + 1; omega⟩⟩
  have mm := m1.trans m
  have hR := hr.step (f' := f') (a' := a) (st' := st2) hlo ⟨by rw [hn]; exact hr.fr.size, fun u v hu => ?_, by rw [hd]; exact hr.fr.defs.mono mm.ext⟩ (by show Mv _ _ _ (mkS _).h.get _ _ _ _; rw [hg]; exact mm)
  ·exact ⟨_, ⟨hR.fr, hR.wr, fun x o' e' => by have := hR.wf x o' e'; rw [hnx]; exact this, fun x hx => hR.fresh x (by rw [hnx] at hx; exact hx), hR.own, hR.bel, hR.size, hR.ext, hR.fzb⟩⟩
  ·rcases h u v hu with ⟨rfl, rfl⟩ | h1
   ·refine ⟨_, v1, ?_⟩
    exact VR.sliceI st1.next 0 ⟨s.blk, o', false, es, C0.size, false, nofz⟩ n c c' o' (upd_same _ _ _) (by omega) (fun _ => h0) (fun _ => hroom) rfl (.inl (by simp))
   ·obtain ⟨v', h2, h3⟩ := hr.fr.tmp u v h1
    exact ⟨v', h2, h3.mono mm.ext⟩
def LkT (t u : Td) : Prop := ∀ (w : World) (F : Nat → Prop) (y : Value), (TR w F (mrgT true t u) y → TR w F t y) ∧ (TR w F (mrgT false t u) y → TR w F u y)
def ToT (t u : Td) : Prop := ∀ (w : World) (F : Nat → Prop) (y : Value), TR w F t y → TR w F u y
theorem LkT.of_eq {t u : Td} (h1 : mrgT true t u = t) (h2 : mrgT false t u = u) : LkT t u := fun w F y => ⟨fun h => by rw [h1] at h; exact h, fun h => by rw [h2] at h; exact h⟩
theorem LkT.bad (t : Td) : LkT t (.sc bad0) := by
 cases t with
 | sc x => exact LkT.of_eq (by cases x <;> rfl) (by cases x <;> rfl)
 | fr => exact LkT.of_eq rfl rfl
theorem LkT.nil {es n c : Nat} {e : Nat → Nat → Td} (h0 : es ≠ 0) : LkT (.fr es n c e) (.fr 0 0 1 noT) := by
 have hs : sameEs es n 0 0 = true := by simp [sameEs]
 intro w F y
 simp only [mrgT, hs, cond_true, beq_false h0, cond_false]
 refine ⟨fun h => h.congr fun i hi j hj z hz => ?_, fun h => ?_⟩
 ·exact (LkT.bad (e i j) w F z).1 hz
 ·rcases h with h | h | h
  ·exact .inl h
  ·exact absurd h.2.1 (by decide)
  ·exact absurd h.1 (by decide)
theorem LkT.fr {es n c n' c' : Nat} {e e' : Nat → Nat → Td} (h0 : es ≠ 0) (h : ∀ i j, j < es → LkT (e i j) (e' i j)) : LkT (.fr es n c e) (.fr es n' c' e') := by
 have hs : sameEs es n es n' = true := by simp [sameEs, Nat.beq_refl]
 intro w F y
 simp only [mrgT, hs, cond_true, beq_false h0, cond_false]
 exact ⟨fun q => q.congr fun i hi j hj z hz => (h i j hj w F z).1 hz, fun q => q.congr fun i hi j hj z hz => (h i j hj w F z).2 hz⟩
theorem LkT.enc {α : Type} [Enc α] (a b : α) {j : Nat} (hj : j < Enc.es α) : LkT (Enc.enc a j) (Enc.enc b j) := fun w F y => Enc.mrg a b w F j y hj
theorem ToT.nil {es c : Nat} {e : Nat → Nat → Td} (h : c = 1) : ToT (.fr 0 0 1 noT) (.fr es 0 c e) := by
 subst h
 intro w F y h
 rcases h with h | h | h
 ·exact .inl h
 ·exact absurd h.2.1 (by decide)
 ·exact absurd h.1 (by decide)
theorem ToT.fr {es n c : Nat} {e e' : Nat → Nat → Td} (h : ∀ i, i < n → ∀ j, j < es → ToT (e i j) (e' i j)) : ToT (.fr es n c e) (.fr es n c e') := fun w F y ht => ht.congr fun i hi j hj z hz => h i hi j hj w F z hz
theorem ToT.eq {t u : Td} (h : t = u) : ToT t u := fun w F y ht => by rw [← h]; exact ht
theorem row_appT {α : Type} [Enc α] {k : Rk} {l : List α} {a : α} {ts : List Td} {es n : Nat} {g : Nat → Nat → Td} {ρ : Rho} {s : Spot} {w : World} (hes : es = Enc.es α) (hn : n = l.length) (hg : ∀ i j, g i j = encL l i j) (h : ∀ j, j < Enc.es α → ToT (nthT ts j) (Enc.enc a j)) (hl : ∀ (b : α) j, j < Enc.es α → LkT (Enc.enc b j) (nthT ts j))
  (ho : ObjR ρ (.row k es 0 (n + 1) fun i j => mrgT (Nat.blt i n) (g (0 + i) j) (selT es 1 ts (i - n) j)) s w) : ObjR ρ (.row k (Enc.es α) 0 (l ++ [a]).length (encL (l ++ [a]))) s w := by
 subst hes hn
 refine ho.row_TR (by simp) fun i _ hi j hj F y ht => ?_
 have e1 : selT (Enc.es α) 1 ts (i - l.length) j = nthT ts j := rfl
 rw [e1, hg, Nat.zero_add] at ht
 by_cases hil : i < l.length
 ·have hb : Nat.blt i l.length = true := by simpa using hil
  rw [hb] at ht
  show TR w F (Enc.enc ((l ++ [a]).getD i Enc.dflt) j) y
  rw [getD_app_lt _ _ _ hil]
  exact (hl _ j hj w F y).1 ht
 ·rw [blt_false hil] at ht
  have : i = l.length := by omega
  subst this
  show TR w F (Enc.enc ((l ++ [a]).getD l.length Enc.dflt) j) y
  rw [getD_app_ge _ _ _ (Nat.le_refl _), Nat.sub_self]
  exact h j hj w F y ((hl _ j hj w F y).2 ht)
end Go.Proofs.Ytjibiphgbhlhkaa.Ev
end
section
set_option maxRecDepth 100000
namespace Go.Proofs.Ytjibiphgbhlhkaa.Ev
open Go Go.Proofs Go.RowKit
theorem LkT.bad' (t : Td) : LkT (.sc bad0) t := by
 cases t with
 | sc x => exact LkT.of_eq (by cases x <;> rfl) (by cases x <;> rfl)
 | fr => exact LkT.of_eq rfl rfl
theorem LkT.nil' {es n c : Nat} {e : Nat → Nat → Td} : LkT (.fr 0 0 1 noT) (.fr es n c e) := by
 have hs : sameEs 0 0 es n = true := by simp [sameEs]
 intro w F y
 simp only [mrgT, hs, cond_true, cond_false]
 refine ⟨fun h => ?_, fun h => h.congr fun i hi j hj z hz => ?_⟩
 ·rcases h with h | h | h
  ·exact .inl h
  ·exact absurd h.2.1 (by decide)
  ·exact absurd h.1 (by decide)
 ·exact (LkT.bad' (e i j) w F z).2 hz
theorem putW {α : Type} [Enc α] {A : List α} {i0 : Nat} {ts : List Td} {g : Nat → Nat → Td} {a : α} (hi : i0 < A.length) (hts : ts.length = Enc.es α) (hg : ∀ k j, j < Enc.es α → ToT (g k j) (encL A k j)) (h1 : ∀ j, j < Enc.es α → ToT (nthT ts j) (Enc.enc a j)) (hL : ∀ k j, j < Enc.es α → LkT (nthT ts j) (g k j)) :
  ∀ k j, j < Enc.es α → ToT (putT i0 0 ts g k j) (encL (A.set i0 a) k j) := by
 intro k j hj w F y ht
 have c1 : (Nat.ble 0 j && Nat.blt j (0 + ts.length)) = true := by
  rw [Nat.zero_add, hts, Bool.and_eq_true]
  exact ⟨by simp, by simpa using hj⟩
 unfold putT at ht
 rw [c1, cond_true, Nat.sub_zero] at ht
 show TR w F (Enc.enc ((A.set i0 a).getD k Enc.dflt) j) y
 rw [getD_set _ _ _ _ _ hi]
 by_cases hk : k = i0
 ·subst hk
  rw [if_pos rfl]
  rw [Nat.beq_refl] at ht
  exact h1 j hj w F y ((hL k j hj w F y).1 ht)
 ·rw [if_neg hk]
  rw [beq_false hk] at ht
  exact hg k j hj w F y ((hL k j hj w F y).2 ht)
theorem rowT {α : Type} [Enc α] {A' : List α} {el : Nat → Nat → Td} {es n : Nat} {ρ : Rho} {s : Spot} {w : World} (hes : es = Enc.es α) (hn : A'.length = n) (h : ∀ k j, j < Enc.es α → ToT (el k j) (encL A' k j)) (ho : ObjR ρ (.row .mine es 0 n el) s w) : ObjR ρ (rowO .mine A') s w := by
 subst hes
 exact ho.row_TR (e' := encL A') hn fun i _ _ j hj F y ht => h i j hj w F y ht
theorem put_v {m : List Vl} {a : Nat} {g : Nat → Nat → Td} {v : Vl} (ha : a < m.length) (hg : ∀ k j, j < 3 → g k j = encL m k j) : ∀ k j, j < 3 → putT a 0 [.sc (.int .i64 v.k), .sc (.int .i64 v.i), .sc (.float .f64 v.f)] g k j = encL (m.set a v) k j := by
 intro k j hj
 show putT a 0 _ g k j = vlE ((m.set a v).getD k Enc.dflt) j
 have hgk : g k j = vlE (m.getD k Enc.dflt) j := hg k j hj
 rw [getD_set _ _ _ _ _ ha]
 unfold putT
 rw [hgk]
 have c1 : (Nat.ble 0 j && Nat.blt j (0 + [Td.sc (.int .i64 v.k), .sc (.int .i64 v.i), .sc (.float .f64 v.f)].length)) = true := by
  rw [Bool.and_eq_true]; exact ⟨by simp, by simpa using hj⟩
 rw [c1, cond_true, Nat.sub_zero]
 have e1 : nthT [Td.sc (.int .i64 v.k), .sc (.int .i64 v.i), .sc (.float .f64 v.f)] j = vlE v j := by
  match j, hj with
  | 0, _ | 1, _ | 2, _ => rfl
 rw [e1, mrg_vl]
 by_cases hk : k = a
 ·subst hk; rw [if_pos rfl, Nat.beq_refl]; rfl
 ·rw [if_neg hk, beq_false hk]; rfl
theorem ToT.frV {l : List Vl} {n c : Nat} {e : Nat → Nat → Td} (hn : n = l.length) (h : ∀ i j, j < 3 → e i j = encL l i j) : ToT (.fr 3 n c e) (.fr 3 l.length c (encL l)) := by
 subst hn
 exact ToT.fr fun i _ j hj => ToT.eq (h i j hj)
theorem LkT.vl (x y : Vl) (j : Nat) : LkT (vlE x j) (vlE y j) := LkT.of_eq (mrg_vl true x y j) (mrg_vl false x y j)
theorem LkT.frV {l l' : List Vl} {n c d : Nat} {e : Nat → Nat → Td} (h : ∀ i j, j < 3 → e i j = encL l' i j) : LkT (.fr 3 l.length c (encL l)) (.fr 3 n d e) := by
 refine LkT.fr (by decide) fun i j hj => ?_
 rw [h i j hj]
 exact LkT.vl _ _ _
theorem evt_app {L : List Evt} {x : Evt} {ta tv tm : Td} {ρ : Rho} {s : Spot} {w : World} (ha : ToT ta (evtE x 5)) (hv : ToT tv (evtE x 6)) (hm : ToT tm (evtE x 7)) (la : ∀ b : Evt, LkT (evtE b 5) ta) (lv : ∀ b : Evt, LkT (evtE b 6) tv) (lm : ∀ b : Evt, LkT (evtE b 7) tm)
  (ho : ObjR ρ (.row .mine 8 0 (L.length + 1) fun i j => mrgT (Nat.blt i L.length) (encL L i j) (selT 8 1 [.sc (.int .i64 x.k), .sc (.int .i64 x.s), .sc (.int .i64 x.i), .sc (.bool x.w), .sc (.int .i64 x.e), ta, tv, tm] (i - L.length) j)) s w) : ObjR ρ (rowO .mine (L ++ [x])) s w := by
 refine row_appT (α := Evt) (es := 8) (n := L.length) (g := fun i j => encL L i j) (a := x) (ts := [.sc (.int .i64 x.k), .sc (.int .i64 x.s), .sc (.int .i64 x.i), .sc (.bool x.w), .sc (.int .i64 x.e), ta, tv, tm]) rfl rfl (fun i j => rfl) (fun j hj => ?_) (fun b j hj => ?_) (by simpa only [Nat.zero_add] using ho)
 ·have hj : j < 8 := hj
  match j, hj with
  | 0, _ | 1, _ | 2, _ | 3, _ | 4, _ => exact ToT.eq rfl
  | 5, _ => exact ha
  | 6, _ => exact hv
  | 7, _ => exact hm
 ·have hj : j < 8 := hj
  match j, hj with
  | 0, _ | 1, _ | 2, _ | 3, _ | 4, _ => exact LkT.of_eq rfl rfl
  | 5, _ => exact la b
  | 6, _ => exact lv b
  | 7, _ => exact lm b
theorem bool_app {L : List Bool} {b : Bool} {ρ : Rho} {s : Spot} {w : World} (ho : ObjR ρ (.row .mine 1 0 (L.length + 1) fun i j => mrgT (Nat.blt i L.length) (encL L i j) (selT 1 1 [.sc (.bool b)] (i - L.length) j)) s w) : ObjR ρ (rowO .mine (L ++ [b])) s w :=
 row_appT (α := Bool) (es := 1) (n := L.length) (g := fun i j => encL L i j) (a := b) (ts := [.sc (.bool b)]) rfl rfl (fun i j => rfl) (fun j hj => by
  have hj : j < 1 := hj
  match j, hj with
  | 0, _ => exact ToT.eq rfl) (fun b j hj => by
  have hj : j < 1 := hj
  match j, hj with
  | 0, _ => exact LkT.of_eq rfl rfl) (by simpa only [Nat.zero_add] using ho)
theorem vs_app {L : List Vs} {ρ : Rho} {s : Spot} {w : World} (ho : ObjR ρ (.row .mine 1 0 (L.length + 1) fun i j => mrgT (Nat.blt i L.length) (encL L i j) (selT 1 1 [.fr 0 0 1 noT] (i - L.length) j)) s w) : ObjR ρ (rowO .mine (L ++ [⟨[], 1⟩])) s w :=
 row_appT (α := Vs) (es := 1) (n := L.length) (g := fun i j => encL L i j) (a := ⟨[], 1⟩) (ts := [.fr 0 0 1 noT]) rfl rfl (fun i j => rfl) (fun j hj => by
  have hj : j < 1 := hj
  match j, hj with
  | 0, _ => exact ToT.nil rfl) (fun b j hj => by
  have hj : j < 1 := hj
  match j, hj with
  | 0, _ => exact LkT.nil (by decide)) (by simpa only [Nat.zero_add] using ho)
theorem bool_put {L : List Bool} {a : Nat} {b : Bool} {n : Nat} {ρ : Rho} {s : Spot} {w : World} (ha : a < L.length) (hn : n = L.length) (ho : ObjR ρ (.row .mine 1 0 n (putT a 0 [.sc (.bool b)] (encL L))) s w) : ObjR ρ (rowO .mine (L.set a b)) s w :=
 rowT (α := Bool) rfl (by rw [List.length_set, hn]) (putW (α := Bool) ha rfl (fun k j hj => ToT.eq rfl) (fun j hj => by
  have hj : j < 1 := hj
  match j, hj with
  | 0, _ => exact ToT.eq rfl) (fun k j hj => by
  have hj : j < 1 := hj
  match j, hj with
  | 0, _ => exact LkT.of_eq rfl rfl)) ho
theorem vs_put {L : List Vs} {a : Nat} {r : Vs} {t : Td} {n : Nat} {ρ : Rho} {s : Spot} {w : World} (ha : a < L.length) (hn : n = L.length) (ht : ToT t (.fr 3 r.l.length r.c (encL r.l))) (hl : ∀ b : Vs, LkT t (.fr 3 b.l.length b.c (encL b.l))) (ho : ObjR ρ (.row .mine 1 0 n (putT a 0 [t] (encL L))) s w) : ObjR ρ (rowO .mine (L.set a r)) s w :=
 rowT (α := Vs) rfl (by rw [List.length_set, hn]) (putW (α := Vs) ha rfl (fun k j hj => ToT.eq rfl) (fun j hj => by
  have hj : j < 1 := hj
  match j, hj with
  | 0, _ => exact ht) (fun k j hj => by
  have hj : j < 1 := hj
  match j, hj with
  | 0, _ => exact hl _)) ho
theorem two_to {w0 w1 : Vl} {c : Nat} {k0 i0 k1 i1 : Int} {f0 f1 : Nat} (h0 : w0 = ⟨k0, i0, f0⟩) (h1 : w1 = ⟨k1, i1, f1⟩) : ToT (.fr 3 2 c (selT 3 2 [.sc (.int .i64 k0), .sc (.int .i64 i0), .sc (.float .f64 f0), .sc (.int .i64 k1), .sc (.int .i64 i1), .sc (.float .f64 f1)])) (.fr 3 [w0, w1].length c (encL [w0, w1])) := by
 subst h0 h1
 refine ToT.fr fun i hi j hj => ToT.eq ?_
 match i, hi, j, hj with
 | 0, _, 0, _ | 0, _, 1, _ | 0, _, 2, _ | 1, _, 0, _ | 1, _, 1, _ | 1, _, 2, _ => rfl
theorem two_lk {l : List Vl} {c d : Nat} {k0 i0 k1 i1 : Int} {f0 f1 : Nat} : LkT (.fr 3 l.length c (encL l)) (.fr 3 2 d (selT 3 2 [.sc (.int .i64 k0), .sc (.int .i64 i0), .sc (.float .f64 f0), .sc (.int .i64 k1), .sc (.int .i64 i1), .sc (.float .f64 f1)])) := by
 refine LkT.fr (by decide) fun i j hj => ?_
 match j, hj with
 | 0, _ | 1, _ | 2, _ => exact LkT.of_eq rfl rfl
theorem two_lk' {l : List Vl} {c d : Nat} {k0 i0 k1 i1 : Int} {f0 f1 : Nat} : LkT (.fr 3 2 d (selT 3 2 [.sc (.int .i64 k0), .sc (.int .i64 i0), .sc (.float .f64 f0), .sc (.int .i64 k1), .sc (.int .i64 i1), .sc (.float .f64 f1)])) (.fr 3 l.length c (encL l)) := by
 refine LkT.fr (by decide) fun i j hj => ?_
 match j, hj with
 | 0, _ | 1, _ | 2, _ => exact LkT.of_eq rfl rfl
theorem twoI_to {a b : Int} {c : Nat} : ToT (.fr 1 2 c (selT 1 2 [.sc (.int .i64 a), .sc (.int .i64 b)])) (.fr 1 [a, b].length c (encL [a, b])) := by
 refine ToT.fr fun i hi j hj => ToT.eq ?_
 match i, hi, j, hj with
 | 0, _, 0, _ | 1, _, 0, _ => rfl
theorem twoI_lk {l : List Int} {a b : Int} {c d : Nat} : LkT (.fr 1 l.length c (encL l)) (.fr 1 2 d (selT 1 2 [.sc (.int .i64 a), .sc (.int .i64 b)])) := by
 refine LkT.fr (by decide) fun i j hj => ?_
 match j, hj with
 | 0, _ => exact LkT.of_eq rfl rfl
theorem setC {m : List Vl} {a q : Nat} {v : Vl} (ha : a < m.length) : (m.set a v).getD q Enc.dflt = cond (Nat.beq q a) v (m.getD q Enc.dflt) := by
 rw [getD_set _ _ _ _ _ ha]
 by_cases h : q = a
 ·subst h; rw [if_pos rfl, Nat.beq_refl]; rfl
 ·rw [if_neg h, beq_false h]; rfl
theorem vl2 (b1 b2 : Bool) (X Y Z : Vl) : cond b1 X (cond b2 Y Z) = ⟨cond b1 X.k (cond b2 Y.k Z.k), cond b1 X.i (cond b2 Y.i Z.i), cond b1 X.f (cond b2 Y.f Z.f)⟩ := by cases b1 <;> cases b2 <;> rfl
structure OpOk (e : Evt) : Prop where
 la : e.a.length = 2
 a0 : 0 ≤ e.a.getD 0 Enc.dflt ∧ e.a.getD 0 Enc.dflt < 3
 a1 : 0 ≤ e.a.getD 1 Enc.dflt ∧ e.a.getD 1 Enc.dflt < 3
 lv : e.w = true → e.v.length = 2
structure InvM (p : Md) (k : Nat) : Prop where
 m3 : p.m.length = 3
 lD : p.D.length = p.P.length
 lR : p.R.length = p.P.length
 lP : p.P.length ≤ 8
 ops : ∀ e ∈ p.P, OpOk e
 lo : -(k : Int) ≤ p.late ∧ p.late ≤ k
theorem tmod_rng {a b : Int} (ha : 0 ≤ a) (hb : 0 < b) : 0 ≤ Int.tmod a b ∧ Int.tmod a b < b := ⟨Int.tmod_nonneg b ha, Int.tmod_lt_of_pos a hb⟩
theorem md_round {l : List U4} {c : Nat} {wr : Bool} {β : Bs} (hβ : β.X.length = 1) (hl : l.length ≤ 1000) (hb : l.all (okA U4) = true) (p : Md) (k : Nat) (hk : k ≤ l.length) (hI : InvM p k) (Nx : Kt)
  (hnx : ∀ p' f st, k < l.length → p.O.length < 36 → mdS l wr p k = p' → Seen β f st (FMp l c wr p' ((k + 1 : Nat) : Int)) (SMp l p') → Nx .normal f st)
  (hex : (k = l.length ∨ ¬ p.O.length < 36) → Nx (.exit 2) (FMp l c wr p (k : Int)) (SMp l p)) :
  J Try.prog β (loopOf Try.prog 10 2) (FMp l c wr p (k : Nat)) (SMp l p) Nx := by
 obtain ⟨m, cm, O, P, D, R, late⟩ := p
 obtain ⟨m3, lD, lR, lP, ops, lo1, lo2⟩ := hI
 simp only at m3 lD lR lP ops lo1 lo2
 refine roundJ_ok (E := 1) (lvs := fun _ => slMd) (un := unM) (fuel := 100) (n := 20) (ex := fun _ _ => False) follows toldT_ok hβ (lv := lvMd) ?_
 show roundJ Try.prog toldT 100 20 β unM (cnOf 1 fun _ => slMd) (fun _ _ => False) 10 2 1 lvMd (FMd l c wr cm O.length P.length D.length R.length m.length late (k : Nat)) (SMd l m O P D R) Nx
 rw [vc_md_r]
 refine br_of (fun c1 => ?_) (fun c1 => hex (.inl (by simp at c1; omega)))
 have hkn : k < l.length := by simpa using c1
 refine br_of (fun c2 => ?_) (fun c2 => hex (.inr (by simp at c2; show ¬ O.length < 36; omega)))
 have hO : O.length < 36 := by simp at c2; omega
 have e0 : Int.toNat (k : Int) = k := Int.toNat_natCast k
 have hw : IntKind.wrap .i64 ((k : Int) + 1) = ((k + 1 : Nat) : Int) := w64 (by omega) (by omega)
 refine need_of (by simp) (need_of (by simpa using hkn) (need_of (by simpa using hkn) ?_))
 have hx := all_get' hb hkn
 unfold mdS at hnx
 simp only [e0, Nat.zero_add, hw]
 generalize l.getD k Enc.dflt = x at hx hnx ⊢
 obtain ⟨⟨xa0, xa1⟩, ⟨xb0, xb1⟩, ⟨xc0, xc1⟩, ⟨xd0, xd1⟩⟩ := (okB4_iff x).1 hx
 have hwl : IntKind.wrap .i64 (late + 1) = late + 1 := w64 (by omega) (by omega)
 have hwb : IntKind.wrap .i64 x.b = x.b := w64 (by omega) (by omega)
 refine br_of (fun t0 => ?_) (fun t0 => ?_)
 ·have h0 : (t6 x == 0) = true := t0
  simp only [h0, cond_true] at hnx
  obtain ⟨r0, r1⟩ := tmod_rng (b := 3) xb0 (by decide)
  have hlt : (Int.tmod x.b 3).toNat < m.length := by omega
  repeat (refine need_of (by first | (simp; done) | (simp; omega)) ?_)
  refine hnx _ _ _ hkn hO rfl ?_
  have hpv : ∀ q j, j < 3 → putT (Int.tmod x.b 3).toNat 0 [.sc (.int .i64 (vI (m64 x.c 4)).k), .sc (.int .i64 (vI (m64 x.c 4)).i), .sc (.float .f64 (vI (m64 x.c 4)).f)] (encL m) q j = encL (m.set (Int.tmod x.b 3).toNat (vI (m64 x.c 4))) q j := put_v hlt fun _ _ _ => rfl
  show Seen β _ _ (FMd l c wr 0 (O ++ [boundE (m.set (Int.tmod x.b 3).toNat (vI (m64 x.c 4)))]).length P.length D.length R.length (m.set (Int.tmod x.b 3).toNat (vI (m64 x.c 4))).length late ((k + 1 : Nat) : Int)) _
  rw [List.length_append, List.length_set]
  refine Seen.objs rfl fun q o2 h => ?_
  match q, h with
  | 0, h => cases h; exact ⟨_, rfl, rfl, fun _ _ _ h => h⟩
  | 1, h => cases h; exact ⟨_, rfl, rfl, fun ρ s w h => rowT (α := Vl) rfl (List.length_set ..) (fun q j hj => ToT.eq (hpv q j hj)) h⟩
  | 2, h => cases h; exact ⟨_, rfl, rfl, fun ρ s w h => evt_app (x := boundE (m.set (Int.tmod x.b 3).toNat (vI (m64 x.c 4)))) (ToT.nil rfl) (ToT.nil rfl) (ToT.frV (List.length_set ..).symm hpv) (fun b => LkT.nil (by decide)) (fun b => LkT.nil (by decide)) (fun b => LkT.frV hpv) h⟩
  | 3, h => cases h; exact ⟨_, rfl, rfl, fun _ _ _ h => h⟩
  | 4, h => cases h; exact ⟨_, rfl, rfl, fun _ _ _ h => h⟩
  | 5, h => cases h; exact ⟨_, rfl, rfl, fun _ _ _ h => h⟩
  | q + 6, h => simp at h
 ·have h0 : (t6 x == 0) = false := t0
  simp only [h0, cond_false] at hnx
  refine br_of (fun t1 => ?_) (fun t1 => ?_)
  ·have h1 : (t6 x == 1) = true := t1
   simp only [h1, Bool.true_or, Bool.true_and, cond_true] at hnx
   simp only [t1, br_t, hwl]
   refine br_of (fun c8 => ?_) (fun c8 => ?_)
   ·simp only [c8, Bool.true_or, cond_true] at hnx
    exact hnx _ _ _ hkn hO rfl (Seen.refl _ _ _)
   ·refine br_of (fun c3 => ?_) (fun c3 => ?_)
    ·simp only [c3, Bool.or_true, cond_true] at hnx
     exact hnx _ _ _ hkn hO rfl (Seen.refl _ _ _)
    ·simp only [c8, c3, Bool.or_self, cond_false] at hnx
     repeat (refine need_of (by first | (simp; done) | (simp; omega)) ?_)
     refine hnx _ _ _ hkn hO rfl ?_
     show Seen β _ _ (FMd l c wr cm (O ++ [opE x P.length true]).length (P ++ [opE x P.length true]).length (D ++ [false]).length (R ++ [(⟨[], 1⟩ : Vs)]).length m.length (late + 1) ((k + 1 : Nat) : Int)) _
     rw [List.length_append, List.length_append, List.length_append, List.length_append]
     refine Seen.objs rfl fun q o2 h => ?_
     match q, h with
     | 0, h => cases h; exact ⟨_, rfl, rfl, fun _ _ _ h => h⟩
     | 1, h => cases h; exact ⟨_, rfl, rfl, fun _ _ _ h => h⟩
     | 2, h => cases h; exact ⟨_, rfl, rfl, fun ρ s w h => evt_app (x := opE x P.length true) twoI_to (two_to rfl rfl) (ToT.nil rfl) (fun b => twoI_lk) (fun b => two_lk) (fun b => LkT.nil (by decide)) h⟩
     | 3, h => cases h; exact ⟨_, rfl, rfl, fun ρ s w h => evt_app (x := opE x P.length true) twoI_to (two_to rfl rfl) (ToT.nil rfl) (fun b => twoI_lk) (fun b => two_lk) (fun b => LkT.nil (by decide)) h⟩
     | 4, h => cases h; exact ⟨_, rfl, rfl, fun ρ s w h => bool_app h⟩
     | 5, h => cases h; exact ⟨_, rfl, rfl, fun ρ s w h => vs_app h⟩
     | q + 6, h => simp at h
  ·have h1 : (t6 x == 1) = false := t1
   simp only [h1, Bool.false_or, Bool.false_and, Bool.or_false, cond_false] at hnx
   refine br_of (fun t2 => ?_) (fun t2 => ?_)
   ·have h2 : (t6 x == 2) = true := t2
    simp only [h2, cond_true] at hnx
    simp only [t1, br_f]
    refine br_of (fun c8 => ?_) (fun c8 => ?_)
    ·simp only [c8, cond_true] at hnx
     exact hnx _ _ _ hkn hO rfl (Seen.refl _ _ _)
    ·simp only [c8, cond_false] at hnx
     repeat (refine need_of (by first | (simp; done) | (simp; omega)) ?_)
     refine hnx _ _ _ hkn hO rfl ?_
     show Seen β _ _ (FMd l c wr cm (O ++ [opE x P.length false]).length (P ++ [opE x P.length false]).length (D ++ [false]).length (R ++ [(⟨[], 1⟩ : Vs)]).length m.length late ((k + 1 : Nat) : Int)) _
     rw [List.length_append, List.length_append, List.length_append, List.length_append]
     refine Seen.objs rfl fun q o2 h => ?_
     match q, h with
     | 0, h => cases h; exact ⟨_, rfl, rfl, fun _ _ _ h => h⟩
     | 1, h => cases h; exact ⟨_, rfl, rfl, fun _ _ _ h => h⟩
     | 2, h => cases h; exact ⟨_, rfl, rfl, fun ρ s w h => evt_app (x := opE x P.length false) twoI_to (ToT.nil rfl) (ToT.nil rfl) (fun b => twoI_lk) (fun b => LkT.nil (by decide)) (fun b => LkT.nil (by decide)) h⟩
     | 3, h => cases h; exact ⟨_, rfl, rfl, fun ρ s w h => evt_app (x := opE x P.length false) twoI_to (ToT.nil rfl) (ToT.nil rfl) (fun b => twoI_lk) (fun b => LkT.nil (by decide)) (fun b => LkT.nil (by decide)) h⟩
     | 4, h => cases h; exact ⟨_, rfl, rfl, fun ρ s w h => bool_app h⟩
     | 5, h => cases h; exact ⟨_, rfl, rfl, fun ρ s w h => vs_app h⟩
     | q + 6, h => simp at h
   ·have h2 : (t6 x == 2) = false := t2
    simp only [h2, cond_false] at hnx
    refine br_of (fun t3 => ?_) (fun t3 => ?_)
    ·have h3 : (t6 x == 3) = true := t3
     simp only [h3, Bool.true_or, cond_true] at hnx
     refine br_of (fun q0 => ?_) (fun q0 => ?_)
     ·have hP0 : P.length = 0 := by simpa using q0
      have hq : (P.length == 0) = true := by simpa using hP0
      simp only [hq, cond_true] at hnx
      exact hnx _ _ _ hkn hO rfl (Seen.refl _ _ _)
     ·have hP0 : P.length ≠ 0 := fun h => by rw [h] at q0; simp at q0
      have hq : (P.length == 0) = false := by simpa using hP0
      have hPz : (true && !decide (Int.ofNat P.length = 0)) = true := by rw [decide_eq_false (show ¬ Int.ofNat P.length = 0 by simp only [Int.ofNat_eq_natCast]; omega)]; rfl
      simp only [hq, cond_false] at hnx
      obtain ⟨r0, r1⟩ := tmod_rng (b := Int.ofNat P.length) xb0 (by simp; omega)
      have hkx : kxN x P.length = (Int.tmod x.b (Int.ofNat P.length)).toNat := by unfold kxN; rw [hwb]
      simp only [hkx] at hnx
      simp only [hwb]
      generalize Int.tmod x.b (Int.ofNat P.length) = K at r0 r1 hnx ⊢
      have r1' : K < (P.length : Int) := r1
      have hKP : K.toNat < P.length := by omega
      have hKD : K.toNat < D.length := by omega
      have hKR : K.toNat < R.length := by omega
      repeat (refine need_of (by first | exact hPz | (simp; done) | (simp; omega)) ?_)
      refine br_of (fun qd => ?_) (fun qd => ?_)
      ·simp only [show D.getD K.toNat Enc.dflt = true from qd, cond_true] at hnx
       exact hnx _ _ _ hkn hO rfl (Seen.refl _ _ _)
      ·simp only [show D.getD K.toNat Enc.dflt = false from qd, cond_false] at hnx
       have hmem := getD_mem (Enc.dflt : Evt) hKP
       generalize P.getD K.toNat Enc.dflt = e at hmem hnx ⊢
       obtain ⟨la, ⟨p0, p1⟩, ⟨p2, p3⟩, lv⟩ := ops e hmem
       have hn0 : aN e 0 = (e.a.getD 0 Enc.dflt).toNat := rfl
       have hn1 : aN e 1 = (e.a.getD 1 Enc.dflt).toNat := rfl
       have hd0 : e.a.getD 0 (0 : Int) = e.a.getD 0 Enc.dflt := rfl
       have hd1 : e.a.getD 1 (0 : Int) = e.a.getD 1 Enc.dflt := rfl
       have hE : efM e m = cond e.w ((m.set (aN e 0) (e.v.getD 0 Enc.dflt)).set (aN e 1) (e.v.getD 1 Enc.dflt)) m := rfl
       simp only [hE, hn0, hn1] at hnx
       simp only [hd0, hd1]
       generalize e.a.getD 0 Enc.dflt = A0 at p0 p1 hnx ⊢
       generalize e.a.getD 1 Enc.dflt = A1 at p2 p3 hnx ⊢
       have hA0 : A0.toNat < m.length := by omega
       have hA1 : A1.toNat < m.length := by omega
       cases hwe : e.w with
       | true =>
        have lv2 := lv hwe
        simp only [hwe, cond_true] at hnx
        simp only [hwe, br_t]
        generalize e.v.getD 0 Enc.dflt = V0 at hnx ⊢
        generalize e.v.getD 1 Enc.dflt = V1 at hnx ⊢
        repeat (refine need_of (by first | exact hPz | (simp; done) | (simp; omega)) ?_)
        refine hnx _ _ _ hkn hO rfl ?_
        show Seen β _ _ (FMd l c wr 0 O.length P.length (D.set K.toNat true).length (R.set K.toNat _).length ((m.set A0.toNat V0).set A1.toNat V1).length late ((k + 1 : Nat) : Int)) _
        rw [List.length_set, List.length_set, List.length_set, List.length_set]
        have hA1' : A1.toNat < (m.set A0.toNat V0).length := by rw [List.length_set]; exact hA1
        refine Seen.objs rfl fun q o2 h => ?_
        match q, h with
        | 0, h => cases h; exact ⟨_, rfl, rfl, fun _ _ _ h => h⟩
        | 1, h => cases h; exact ⟨_, rfl, rfl, fun ρ s w h => rowT (α := Vl) rfl (by rw [List.length_set, List.length_set]) (fun q j hj => ToT.eq (put_v hA1' (put_v hA0 fun _ _ _ => rfl) q j hj)) h⟩
        | 2, h => cases h; exact ⟨_, rfl, rfl, fun _ _ _ h => h⟩
        | 3, h => cases h; exact ⟨_, rfl, rfl, fun _ _ _ h => h⟩
        | 4, h => cases h; exact ⟨_, rfl, rfl, fun ρ s w h => bool_put hKD rfl h⟩
        | 5, h => cases h; exact ⟨_, rfl, rfl, fun ρ s w h => vs_put hKR rfl (two_to (by rw [setC hA1', setC hA0]; exact vl2 _ _ _ _ _) (by rw [setC hA1', setC hA0]; exact vl2 _ _ _ _ _)) (fun b => two_lk') h⟩
        | q + 6, h => simp at h
       | false =>
        simp only [hwe, cond_false] at hnx
        simp only [hwe, br_f]
        repeat (refine need_of (by first | exact hPz | (simp; done) | (simp; omega)) ?_)
        refine hnx _ _ _ hkn hO rfl ?_
        show Seen β _ _ (FMd l c wr 0 O.length P.length (D.set K.toNat true).length (R.set K.toNat _).length m.length late ((k + 1 : Nat) : Int)) _
        rw [List.length_set, List.length_set]
        refine Seen.objs rfl fun q o2 h => ?_
        match q, h with
        | 0, h => cases h; exact ⟨_, rfl, rfl, fun _ _ _ h => h⟩
        | 1, h => cases h; exact ⟨_, rfl, rfl, fun _ _ _ h => h⟩
        | 2, h => cases h; exact ⟨_, rfl, rfl, fun _ _ _ h => h⟩
        | 3, h => cases h; exact ⟨_, rfl, rfl, fun _ _ _ h => h⟩
        | 4, h => cases h; exact ⟨_, rfl, rfl, fun ρ s w h => bool_put hKD rfl h⟩
        | 5, h => cases h; exact ⟨_, rfl, rfl, fun ρ s w h => vs_put hKR rfl (two_to rfl rfl) (fun b => two_lk') h⟩
        | q + 6, h => simp at h
    ·have h3 : (t6 x == 3) = false := t3
     simp only [h3, Bool.false_or] at hnx
     refine br_of (fun t4 => ?_) (fun t4 => ?_)
     ·have h4 : (t6 x == 4) = true := t4
      simp only [h4, cond_true] at hnx
      refine br_of (fun q0 => ?_) (fun q0 => ?_)
      ·have hP0 : P.length = 0 := by simpa using q0
       have hq : (P.length == 0) = true := by simpa using hP0
       simp only [hq, cond_true] at hnx
       exact hnx _ _ _ hkn hO rfl (Seen.refl _ _ _)
      ·have hP0 : P.length ≠ 0 := fun h => by rw [h] at q0; simp at q0
       have hq : (P.length == 0) = false := by simpa using hP0
       have hPz : (true && !decide (Int.ofNat P.length = 0)) = true := by rw [decide_eq_false (show ¬ Int.ofNat P.length = 0 by simp only [Int.ofNat_eq_natCast]; omega)]; rfl
       simp only [hq, cond_false] at hnx
       obtain ⟨r0, r1⟩ := tmod_rng (b := Int.ofNat P.length) xb0 (by simp; omega)
       have hkx : kxN x P.length = (Int.tmod x.b (Int.ofNat P.length)).toNat := by unfold kxN; rw [hwb]
       simp only [hkx] at hnx
       simp only [hwb]
       generalize Int.tmod x.b (Int.ofNat P.length) = K at r0 r1 hnx ⊢
       have r1' : K < (P.length : Int) := r1
       have hKP : K.toNat < P.length := by omega
       have hKD : K.toNat < D.length := by omega
       have hKR : K.toNat < R.length := by omega
       repeat (refine need_of (by first | exact hPz | (simp; done) | (simp; omega)) ?_)
       refine br_of (fun qd => ?_) (fun qd => ?_)
       ·simp only [show D.getD K.toNat Enc.dflt = true from qd, cond_true] at hnx
        exact hnx _ _ _ hkn hO rfl (Seen.refl _ _ _)
       ·simp only [show D.getD K.toNat Enc.dflt = false from qd, cond_false] at hnx
        have hmem := getD_mem (Enc.dflt : Evt) hKP
        generalize P.getD K.toNat Enc.dflt = e at hmem hnx ⊢
        obtain ⟨la, ⟨p0, p1⟩, ⟨p2, p3⟩, lv⟩ := ops e hmem
        have hn0 : aN e 0 = (e.a.getD 0 Enc.dflt).toNat := rfl
        have hn1 : aN e 1 = (e.a.getD 1 Enc.dflt).toNat := rfl
        have hd0 : e.a.getD 0 (0 : Int) = e.a.getD 0 Enc.dflt := rfl
        have hd1 : e.a.getD 1 (0 : Int) = e.a.getD 1 Enc.dflt := rfl
        have hE : efM e m = cond e.w ((m.set (aN e 0) (e.v.getD 0 Enc.dflt)).set (aN e 1) (e.v.getD 1 Enc.dflt)) m := rfl
        simp only [hE, hn0, hn1] at hnx
        simp only [hd0, hd1]
        generalize e.a.getD 0 Enc.dflt = A0 at p0 p1 hnx ⊢
        generalize e.a.getD 1 Enc.dflt = A1 at p2 p3 hnx ⊢
        have hA0 : A0.toNat < m.length := by omega
        have hA1 : A1.toNat < m.length := by omega
        cases hwe : e.w with
        | true =>
         have lv2 := lv hwe
         simp only [hwe, cond_true] at hnx
         simp only [hwe, br_t]
         generalize e.v.getD 0 Enc.dflt = V0 at hnx ⊢
         generalize e.v.getD 1 Enc.dflt = V1 at hnx ⊢
         repeat (refine need_of (by first | exact hPz | (simp; done) | (simp; omega)) ?_)
         refine hnx _ _ _ hkn hO rfl ?_
         show Seen β _ _ (FMd l c wr 0 O.length P.length (D.set K.toNat true).length (R.set K.toNat _).length ((m.set A0.toNat V0).set A1.toNat V1).length late ((k + 1 : Nat) : Int)) _
         rw [List.length_set, List.length_set, List.length_set, List.length_set]
         have hA1' : A1.toNat < (m.set A0.toNat V0).length := by rw [List.length_set]; exact hA1
         refine Seen.objs rfl fun q o2 h => ?_
         match q, h with
         | 0, h => cases h; exact ⟨_, rfl, rfl, fun _ _ _ h => h⟩
         | 1, h => cases h; exact ⟨_, rfl, rfl, fun ρ s w h => rowT (α := Vl) rfl (by rw [List.length_set, List.length_set]) (fun q j hj => ToT.eq (put_v hA1' (put_v hA0 fun _ _ _ => rfl) q j hj)) h⟩
         | 2, h => cases h; exact ⟨_, rfl, rfl, fun _ _ _ h => h⟩
         | 3, h => cases h; exact ⟨_, rfl, rfl, fun _ _ _ h => h⟩
         | 4, h => cases h; exact ⟨_, rfl, rfl, fun ρ s w h => bool_put hKD rfl h⟩
         | 5, h => cases h; exact ⟨_, rfl, rfl, fun ρ s w h => vs_put hKR rfl (two_to (by rw [setC hA1', setC hA0]; exact vl2 _ _ _ _ _) (by rw [setC hA1', setC hA0]; exact vl2 _ _ _ _ _)) (fun b => two_lk') h⟩
         | q + 6, h => simp at h
        | false =>
         simp only [hwe, cond_false] at hnx
         simp only [hwe, br_f]
         repeat (refine need_of (by first | exact hPz | (simp; done) | (simp; omega)) ?_)
         refine hnx _ _ _ hkn hO rfl ?_
         show Seen β _ _ (FMd l c wr 0 O.length P.length (D.set K.toNat true).length (R.set K.toNat _).length m.length late ((k + 1 : Nat) : Int)) _
         rw [List.length_set, List.length_set]
         refine Seen.objs rfl fun q o2 h => ?_
         match q, h with
         | 0, h => cases h; exact ⟨_, rfl, rfl, fun _ _ _ h => h⟩
         | 1, h => cases h; exact ⟨_, rfl, rfl, fun _ _ _ h => h⟩
         | 2, h => cases h; exact ⟨_, rfl, rfl, fun _ _ _ h => h⟩
         | 3, h => cases h; exact ⟨_, rfl, rfl, fun _ _ _ h => h⟩
         | 4, h => cases h; exact ⟨_, rfl, rfl, fun ρ s w h => bool_put hKD rfl h⟩
         | 5, h => cases h; exact ⟨_, rfl, rfl, fun ρ s w h => vs_put hKR rfl (two_to rfl rfl) (fun b => two_lk') h⟩
         | q + 6, h => simp at h
     ·have h4 : (t6 x == 4) = false := t4
      simp only [h4, cond_false] at hnx
      refine br_of (fun q0 => ?_) (fun q0 => ?_)
      ·have hP0 : P.length = 0 := by simpa using q0
       have hq : (P.length == 0) = true := by simpa using hP0
       simp only [hq, cond_true] at hnx
       exact hnx _ _ _ hkn hO rfl (Seen.refl _ _ _)
      ·have hP0 : P.length ≠ 0 := fun h => by rw [h] at q0; simp at q0
       have hq : (P.length == 0) = false := by simpa using hP0
       have hPz : (true && !decide (Int.ofNat P.length = 0)) = true := by rw [decide_eq_false (show ¬ Int.ofNat P.length = 0 by simp only [Int.ofNat_eq_natCast]; omega)]; rfl
       simp only [hq, cond_false] at hnx
       obtain ⟨r0, r1⟩ := tmod_rng (b := Int.ofNat P.length) xb0 (by simp; omega)
       have hkx : kxN x P.length = (Int.tmod x.b (Int.ofNat P.length)).toNat := by unfold kxN; rw [hwb]
       simp only [hkx] at hnx
       simp only [hwb]
       generalize Int.tmod x.b (Int.ofNat P.length) = K at r0 r1 hnx ⊢
       have r1' : K < (P.length : Int) := r1
       have hKP : K.toNat < P.length := by omega
       have hKD : K.toNat < D.length := by omega
       have hKR : K.toNat < R.length := by omega
       repeat (refine need_of (by first | exact hPz | (simp; done) | (simp; omega)) ?_)
       refine br_of (fun qd => ?_) (fun qd => ?_)
       ·have qd' : D.getD K.toNat Enc.dflt = false := by rw [Bool.not_eq_true'] at qd; exact qd
        simp only [qd', Bool.not_false, Bool.true_or, cond_true] at hnx
        exact hnx _ _ _ hkn hO rfl (Seen.refl _ _ _)
       ·have qd' : D.getD K.toNat Enc.dflt = true := by rw [Bool.not_eq_false'] at qd; exact qd
        simp only [qd', Bool.not_true, Bool.false_or] at hnx
        repeat (refine need_of (by first | exact hPz | (simp; done) | (simp; omega)) ?_)
        have hmem := getD_mem (Enc.dflt : Evt) hKP
        generalize P.getD K.toNat Enc.dflt = e at hmem hnx ⊢
        generalize R.getD K.toNat Enc.dflt = r at hnx ⊢
        obtain ⟨la, ⟨p0, p1⟩, ⟨p2, p3⟩, lv⟩ := ops e hmem
        refine br_of (fun q2 => ?_) (fun q2 => ?_)
        ·have q2' : (r.l.length != 2) = true := by
          simp only [bne_iff_ne, ne_eq, Int.ofNat_eq_natCast] at q2 ⊢
          omega
         simp only [q2', cond_true] at hnx
         exact hnx _ _ _ hkn hO rfl (Seen.refl _ _ _)
        ·have q2' : (r.l.length != 2) = false := by
          simp only [bne_eq_false_iff_eq, Int.ofNat_eq_natCast] at q2 ⊢
          omega
         have hr2 : r.l.length = 2 := by simpa using q2'
         simp only [q2', cond_false] at hnx
         have hV : ansV e wr x r = cond e.w ([], 1) (cond (wr && (Int.tmod x.c 4 == 0)) ([vI (m64 x.d 4), r.l.getD 1 Enc.dflt], 0) (r.l, r.c)) := rfl
         have hwl2 : IntKind.wrap .i64 (late - 1) = late - 1 := w64 (by omega) (by omega)
         rw [hV] at hnx
         repeat (refine need_of (by first | exact hPz | (simp; done) | (simp; omega)) ?_)
         cases hwe : e.w with
         | true =>
          simp only [hwe, cond_true] at hnx
          simp only [hwe, br_t, hwl2]
          repeat (refine need_of (by first | exact hPz | (simp; done) | (simp; omega)) ?_)
          refine hnx _ _ _ hkn hO rfl ?_
          show Seen β _ _ (FMd l c wr cm (O ++ [_]).length P.length D.length (R.set K.toNat (⟨[], 1⟩ : Vs)).length m.length (late - 1) ((k + 1 : Nat) : Int)) _
          rw [List.length_append, List.length_set]
          refine Seen.objs rfl fun q o2 h => ?_
          match q, h with
          | 0, h => cases h; exact ⟨_, rfl, rfl, fun _ _ _ h => h⟩
          | 1, h => cases h; exact ⟨_, rfl, rfl, fun _ _ _ h => h⟩
          | 2, h => cases h; exact ⟨_, rfl, rfl, fun ρ s w h => evt_app (x := ansO e _) (ToT.nil rfl) (ToT.nil rfl) (ToT.nil rfl) (fun b => LkT.nil (by decide)) (fun b => LkT.nil (by decide)) (fun b => LkT.nil (by decide)) h⟩
          | 3, h => cases h; exact ⟨_, rfl, rfl, fun _ _ _ h => h⟩
          | 4, h => cases h; exact ⟨_, rfl, rfl, fun _ _ _ h => h⟩
          | 5, h => cases h; exact ⟨_, rfl, rfl, fun ρ s w h => vs_put hKR rfl (ToT.nil rfl) (fun b => LkT.nil') h⟩
          | q + 6, h => simp at h
         | false =>
          simp only [hwe, cond_false] at hnx
          simp only [hwe, br_f]
          repeat (refine need_of (by first | exact hPz | (simp; done) | (simp; omega)) ?_)
          cases hwrr : wr with
          | true =>
           subst hwrr
           simp only [br_t, Bool.true_and] at hnx ⊢
           refine br_of (fun q4 => ?_) (fun q4 => ?_)
           ·simp only [q4, cond_true] at hnx
            repeat (refine need_of (by first | exact hPz | (simp; done) | (simp; omega)) ?_)
            refine hnx _ _ _ hkn hO rfl ?_
            show Seen β _ _ (FMd l c true cm (O ++ [_]).length P.length D.length (R.set K.toNat (⟨[], 1⟩ : Vs)).length m.length late ((k + 1 : Nat) : Int)) _
            rw [List.length_append, List.length_set]
            refine Seen.objs rfl fun q o2 h => ?_
            match q, h with
            | 0, h => cases h; exact ⟨_, rfl, rfl, fun _ _ _ h => h⟩
            | 1, h => cases h; exact ⟨_, rfl, rfl, fun _ _ _ h => h⟩
            | 2, h => cases h; exact ⟨_, rfl, rfl, fun ρ s w h => evt_app (x := ansO e _) (ToT.nil rfl) (two_to rfl rfl) (ToT.nil rfl) (fun b => LkT.nil (by decide)) (fun b => two_lk) (fun b => LkT.nil (by decide)) h⟩
            | 3, h => cases h; exact ⟨_, rfl, rfl, fun _ _ _ h => h⟩
            | 4, h => cases h; exact ⟨_, rfl, rfl, fun _ _ _ h => h⟩
            | 5, h => cases h; exact ⟨_, rfl, rfl, fun ρ s w h => vs_put hKR rfl (ToT.nil rfl) (fun b => LkT.nil') h⟩
            | q + 6, h => simp at h
           ·simp only [q4, cond_false] at hnx
            repeat (refine need_of (by first | exact hPz | (simp; done) | (simp; omega)) ?_)
            refine hnx _ _ _ hkn hO rfl ?_
            show Seen β _ _ (FMd l c true cm (O ++ [_]).length P.length D.length (R.set K.toNat (⟨[], 1⟩ : Vs)).length m.length late ((k + 1 : Nat) : Int)) _
            rw [List.length_append, List.length_set]
            refine Seen.objs rfl fun q o2 h => ?_
            match q, h with
            | 0, h => cases h; exact ⟨_, rfl, rfl, fun _ _ _ h => h⟩
            | 1, h => cases h; exact ⟨_, rfl, rfl, fun _ _ _ h => h⟩
            | 2, h => cases h; exact ⟨_, rfl, rfl, fun ρ s w h => evt_app (x := ansO e _) (ToT.nil rfl) (ToT.eq rfl) (ToT.nil rfl) (fun b => LkT.nil (by decide)) (fun b => LkT.frV (l' := r.l) (fun _ _ _ => rfl)) (fun b => LkT.nil (by decide)) h⟩
            | 3, h => cases h; exact ⟨_, rfl, rfl, fun _ _ _ h => h⟩
            | 4, h => cases h; exact ⟨_, rfl, rfl, fun _ _ _ h => h⟩
            | 5, h => cases h; exact ⟨_, rfl, rfl, fun ρ s w h => vs_put hKR rfl (ToT.nil rfl) (fun b => LkT.nil') h⟩
            | q + 6, h => simp at h
          | false =>
           subst hwrr
           simp only [br_f, Bool.false_and, cond_false] at hnx ⊢
           repeat (refine need_of (by first | exact hPz | (simp; done) | (simp; omega)) ?_)
           refine hnx _ _ _ hkn hO rfl ?_
           show Seen β _ _ (FMd l c false cm (O ++ [_]).length P.length D.length (R.set K.toNat (⟨[], 1⟩ : Vs)).length m.length late ((k + 1 : Nat) : Int)) _
           rw [List.length_append, List.length_set]
           refine Seen.objs rfl fun q o2 h => ?_
           match q, h with
           | 0, h => cases h; exact ⟨_, rfl, rfl, fun _ _ _ h => h⟩
           | 1, h => cases h; exact ⟨_, rfl, rfl, fun _ _ _ h => h⟩
           | 2, h => cases h; exact ⟨_, rfl, rfl, fun ρ s w h => evt_app (x := ansO e _) (ToT.nil rfl) (ToT.eq rfl) (ToT.nil rfl) (fun b => LkT.nil (by decide)) (fun b => LkT.frV (l' := r.l) (fun _ _ _ => rfl)) (fun b => LkT.nil (by decide)) h⟩
           | 3, h => cases h; exact ⟨_, rfl, rfl, fun _ _ _ h => h⟩
           | 4, h => cases h; exact ⟨_, rfl, rfl, fun _ _ _ h => h⟩
           | 5, h => cases h; exact ⟨_, rfl, rfl, fun ρ s w h => vs_put hKR rfl (ToT.nil rfl) (fun b => LkT.nil') h⟩
           | q + 6, h => simp at h
end Go.Proofs.Ytjibiphgbhlhkaa.Ev
end
