/-
  What a function ends with, its memory as a list of objects.
-/
import Derived.Test.YtjibiphgbhlhkaaQ17
set_option linter.unusedVariables false
set_option linter.unusedSimpArgs false
section
namespace Go.Proofs.Ytjibiphgbhlhkaa.Ev
open Go Go.RowKit
def memL (st : ASt) : List (Option AObj) := (upto 0 st.next).map st.h.get
def outK (K : AE → List (Option AObj) → Prop) (r : AE) (st : ASt) : Prop := K r (memL st)
theorem memL_get {st : ASt} {k : Nat} {o : AObj} (h : (mkS (memL st)).h.get k = some o) : st.h.get k = some o := by
 rw [mkS_get] at h
 unfold memL at h
 rw [List.getElem?_map] at h
 rcases Nat.lt_or_ge k st.next with hk | hk
 ·rw [upto_get _ _ _ hk, Nat.zero_add] at h
  exact h
 ·rw [List.getElem?_eq_none (by rw [upto_len]; exact hk)] at h
  cases h
theorem PostE.mono {β : Bs} {K K' : AE → ASt → Prop} {e : Ending} {w' : World} (hK : ∀ r st, K r st → K' r st) (h : PostE β K e w') : PostE β K' e w' := by
 obtain ⟨⟨r, st', ρ', h1, h2, h3⟩, h4⟩ := h
 exact ⟨⟨r, st', ρ', h1, hK _ _ h2, h3⟩, h4⟩
def objsR (l l2 : List (Option AObj)) : Prop := l2.length = l.length ∧ ∀ (i : Nat) o2, l2[i]? = some (some o2) → ∃ o1, l[i]? = some (some o1) ∧ o1.isOwn = o2.isOwn ∧ ∀ ρ s w, ObjR ρ o1 s w → ObjR ρ o2 s w
theorem objsR.refl (l : List (Option AObj)) : objsR l l := ⟨rfl, fun i o h => ⟨o, h, rfl, fun _ _ _ h => h⟩⟩
def outR (K : AE → ASt → Prop) : AE → ASt → Prop := outK fun r l => ∃ l2, objsR l l2 ∧ K r (mkS l2)
theorem PostE.objs {β : Bs} {K : AE → ASt → Prop} {e : Ending} {w' : World} (h : PostE β (outR K) e w') : PostE β K e w' := by
 obtain ⟨⟨r, st', ρ', h1, ⟨l2, ⟨hlen, hobj⟩, hK⟩, hw, hwf, hfr, how, hfz⟩, hb⟩ := h
 have hn : (mkS l2).next = st'.next := by
  show l2.length = _
  rw [hlen]; simp [memL, upto_len]
 have hget : ∀ k o, (mkS l2).h.get k = some o → ∃ o1, st'.h.get k = some o1 ∧ o1.isOwn = o.isOwn ∧ ∀ ρ s w, ObjR ρ o1 s w → ObjR ρ o s w := by
  intro k o e
  rw [mkS_get] at e
  have e' : l2[k]? = some (some o) := by
   cases hq : l2[k]? with
   | none => rw [hq] at e; cases e
   | some u => rw [hq] at e; cases u with
    | none => cases e
    | some v => cases e; rfl
  obtain ⟨o1, h1, h2, h3⟩ := hobj k o e'
  exact ⟨o1, memL_get (by rw [mkS_get, h1]; rfl), h2, h3⟩
 have hown : ∀ b, Own (mkS l2).h.get ρ' b → Own st'.h.get ρ' b := fun b hb => by
  obtain ⟨k, o, t, e, e0, e2, e3⟩ := hb
  obtain ⟨o1, h1, h2, _⟩ := hget k o e
  exact ⟨k, o1, t, h1, by rw [h2]; exact e0, e2, e3⟩
 refine ⟨⟨r, mkS l2, ρ', h1, hK, ⟨hw.blk, fun k o e => ?_, fun x y oa ob sa sb ea eb eo ra rb va vb heq => ?_, fun b hb => ⟨(hw.fz b hb).1, fun hb2 => (hw.fz b hb).2 (hown b hb2)⟩⟩, fun k o e => ?_, by rw [hn]; exact hfr, fun b hb => how b (hown b hb), hfz⟩, hb⟩
 ·obtain ⟨o1, h1, _, h3⟩ := hget k o e
  obtain ⟨s, e1, e2⟩ := hw.obj k o1 h1
  exact ⟨s, e1, h3 _ _ _ e2⟩
 ·obtain ⟨oa', ea', qa, _⟩ := hget x oa ea
  obtain ⟨ob', eb', qb, _⟩ := hget y ob eb
  exact hw.inj x y oa' ob' sa sb ea' eb' (by rw [qa, qb]; exact eo) ra rb va vb heq
 ·rw [hn]
  obtain ⟨o1, h1, _⟩ := hget k o e
  exact hwf k o1 h1
theorem toldW_out {P : Program} {g : FuncId} {ts : List Ta} {a : Ans} (hm : P.follows .mixedOrders = true)
  (h : ∃ (C : Told) (fuel n : Nat) (un : Nat → Nat) (lvs : Nat → List Nat) (ex : Nat → Kt → Prop), ToldS P C ∧ ∀ β : Bs, β.X.length = (layA ts 0).2.length → lawE P C fuel n β un (cnOf (layA ts 0).2.length lvs) ex g (layA ts 0).1 (mkS ((layA ts 0).2.map some)) (outR (ansE a)))
  (w : World) (args' : Array Value) (F : Nat → Prop) (hF : ∀ b, F b → b < w.heap.size) (ha : PW (TaR w F) ts args'.toList) : Calls P g args' w fun e w' => AnsR w F a e w' := by
 obtain ⟨C, fuel, n, un, lvs, ex, hC, hl⟩ := h
 obtain ⟨S, s1, s2⟩ := layA_rel hF ha
 have hlen := (s1 0).len
 have hv := s2 S 0 (fun i s hs => by rw [Nat.zero_add]; exact hs)
 have hl' := hl ⟨w.heap.size, w, S, F, noW⟩ hlen
 rw [← hlen] at hl'
 refine (law_args (F := F) hm hC w hlen (fun k s o h1 h2 => ((s1 0).ok k s o h1 h2).1 _ _) (fun s hs hvd => ?_) (fun s hs b hb => ?_) hF hv hl').mono fun e w' he => he.objs.ans
 ·obtain ⟨i, hi⟩ := List.getElem?_of_mem hs
  have hil := (List.getElem?_eq_some_iff.1 hi).1
  exact ((s1 0).ok i s _ hi (List.getElem?_eq_getElem (by omega))).2.1 hvd
 ·obtain ⟨i, hi⟩ := List.getElem?_of_mem hs
  have hil := (List.getElem?_eq_some_iff.1 hi).1
  have := ((s1 0).ok i s _ hi (List.getElem?_eq_getElem (by omega))).2.2
  rw [this] at hb; exact hb
def atL (n k : Nat) (o : AObj) : List (Option AObj) := (List.replicate n none).set k (some o)
theorem outAt {l : List (Option AObj)} {k : Nat} {o1 o2 : AObj} (h : l[k]? = some (some o1)) (ho : o1.isOwn = o2.isOwn) (hr : ∀ ρ s w, ObjR ρ o1 s w → ObjR ρ o2 s w) : objsR l (atL l.length k o2) := by
 refine ⟨by simp [atL], fun i o e => ?_⟩
 unfold atL at e
 rw [List.getElem?_set] at e
 by_cases hk : k = i
 ·subst hk
  have hl := (List.getElem?_eq_some_iff.1 h).1
  simp [hl] at e
  subst e
  exact ⟨o1, h, ho, hr⟩
 ·rw [if_neg hk, List.getElem?_replicate] at e
  split at e <;> cases e
end Go.Proofs.Ytjibiphgbhlhkaa.Ev
end
section
namespace Go.Proofs.Ytjibiphgbhlhkaa.Ev
open Go Go.RowKit
theorem Seen.void {β : Bs} {f : AFr} {l : List (Option AObj)} (es : Nat) (e : Nat → Nat → Td) : Seen β f (mkS l) f (mkS (l ++ [some (.row .mine es 0 0 e)])) := by
 intro ρ a w hr
 have hfn : ρ l.length = none := hr.fresh _ (Nat.le_refl _)
 have m := Mv.rowVoid (w' := w) (es := es) (f := e) hr.wr hfn rfl rfl rfl rfl
 have hg : (mkS (l ++ [some (.row .mine es 0 0 e)])).h.get = upd (mkS l).h.get l.length (some (.row .mine es 0 0 e)) := by
  funext k
  rw [mkS_get]
  by_cases hk : k = l.length
  ·subst hk; rw [upd_same, List.getElem?_append_right (Nat.le_refl _)]; simp
  ·rw [upd_ne _ _ hk, mkS_get]
   rcases Nat.lt_or_ge k l.length with h1 | h1
   ·rw [List.getElem?_append_left h1]
   ·rw [List.getElem?_eq_none (by simp; omega), List.getElem?_eq_none h1]
 have hlo : LoS (mkS l) (mkS (l ++ [some (.row .mine es 0 0 e)])) := by
  refine ⟨by simp [mkS], Nat.le_refl _, fun x h1 _ => ?_, fun x o' e' => ?_⟩
  ·rw [hg]; exact upd_ne _ _ (by have : x < l.length := h1; omega)
  ·rw [hg] at e'
   by_cases hx : x = l.length
   ·exact .inr (by subst hx; simp [mkS])
   ·rw [upd_ne _ _ hx] at e'; exact .inl ⟨o', e'⟩
 have hnx : (mkS (l ++ [some (.row .mine es 0 0 e)])).next = (mkS l).next + 1 := by simp [mkS]
 exact ⟨_, hr.step hlo ⟨hr.fr.size, fun t v ht => by obtain ⟨v', h2, h3⟩ := hr.fr.tmp t v ht; exact ⟨v', h2, h3.mono m.ext⟩, hr.fr.defs.mono m.ext⟩ (by rw [hg, hnx]; exact m)⟩
end Go.Proofs.Ytjibiphgbhlhkaa.Ev
end
