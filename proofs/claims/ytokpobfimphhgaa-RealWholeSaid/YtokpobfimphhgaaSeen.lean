/-
  One memory seen as another: nothing as a row of none; loops seen so; what is owed of a round.
-/
import Derived.Test.YtokpobfimphhgaaTo
set_option linter.unusedVariables false
set_option linter.unusedSimpArgs false
namespace Go.Proofs.Ytokpobfimphhgaa.Ev
open Go Go.RowKit

theorem br_t (A B : Prop) : br true A B = A := rfl
theorem br_f (A B : Prop) : br false A B = B := rfl
theorem need_t (A : Prop) : need true A = A := rfl
theorem LoopJ.seen {P : Program} {β : Bs} {ex : Nat → Kt → Prop} {b : Nat} {c : Code} {f f1 : AFr} {st st1 : ASt} (hs : Seen β f st f1 st1) (h : LoopJ P β ex b c f1 st1) : LoopJ P β ex b c f st := ⟨fun K hK => J.seen hs (h.ok K hK)⟩
/-- what is owed of a round -/
def Nn (β : Bs) {α : Type} (I : α → Prop) (m : α → Nat) (F : α → AFr) (S : α → ASt) (p : α) (K : Kt) : Kt := fun x f st =>
  (x = .normal ∧ ∃ p', I p' ∧ m p' < m p ∧ Seen β f st (F p') (S p')) ∨ (x ≠ .normal ∧ (∀ v, x ≠ .panic v) ∧ ∃ f1 st1, Seen β f st f1 st1 ∧ K x f1 st1)
theorem Nn.next {β : Bs} {α : Type} {I : α → Prop} {m : α → Nat} {F : α → AFr} {S : α → ASt} {p : α} {K : Kt} (p' : α) (h : I p') (hm : m p' < m p) : Nn β I m F S p K .normal (F p') (S p') := .inl ⟨rfl, p', h, hm, Seen.refl _ _ _⟩
theorem Nn.exit {β : Bs} {α : Type} {I : α → Prop} {m : α → Nat} {F : α → AFr} {S : α → ASt} {p : α} {K : Kt} {b : Nat} {f : AFr} {st : ASt} (h : K (.exit b) f st) : Nn β I m F S p K (.exit b) f st := .inr ⟨by simp, by simp, f, st, Seen.refl _ _ _, h⟩
theorem Nn.ret {β : Bs} {α : Type} {I : α → Prop} {m : α → Nat} {F : α → AFr} {S : α → ASt} {p : α} {K : Kt} {f : AFr} {st : ASt} (h : K .ret f st) : Nn β I m F S p K .ret f st := .inr ⟨by simp, by simp, f, st, Seen.refl _ _ _, h⟩
/-- nothing, as a row of none -/
def nilRow (k : Nat) : Value := .slice (some ⟨k, 0, some 0⟩) 0 1
theorem Seen.void {β : Bs} {f : AFr} {l : List (Option AObj)} {i j : Nat} {cs : List Value} {ex : Bool} {es : Nat} (es' : Nat) (elem : Nat → List Value) (hi : l[i]? = some (some (.cells cs ex es))) (hj : cs[j]? = some (.slice none 0 0)) :
    Seen β f (mkS l) f (mkS (l.set i (some (.cells (cs.set j (nilRow l.length)) ex es)) ++ [some (.row true es' 0 0 elem)])) := by
  intro ρ a w hr
  have hil : i < l.length := (List.getElem?_eq_some_iff.1 hi).1
  have hjl : j < cs.length := (List.getElem?_eq_some_iff.1 hj).1
  have hfn : ρ l.length = none := hr.fresh _ (Nat.le_refl _)
  have hsub : Sub ρ (upd ρ l.length (some ⟨0, 0, false, es', 0, true⟩)) := Sub.upd _ hfn
  have hget : ∀ k o, (mkS (l.set i (some (.cells (cs.set j (nilRow l.length)) ex es)) ++ [some (.row true es' 0 0 elem)])).h.get k = some o →
      (k = i ∧ o = .cells (cs.set j (nilRow l.length)) ex es) ∨ (k ≠ i ∧ k ≠ l.length ∧ (mkS l).h.get k = some o) ∨ (k = l.length ∧ o = .row true es' 0 0 elem) := by
    intro k o e
    rw [mkS_get] at e
    rcases Nat.lt_or_ge k l.length with hk | hk
    · rw [List.getElem?_append_left (by simpa using hk)] at e
      by_cases hki : k = i
      · subst hki
        rw [List.getElem?_set_self hil] at e
        cases e; exact .inl ⟨rfl, rfl⟩
      · rw [List.getElem?_set_ne (Ne.symm hki)] at e
        exact .inr (.inl ⟨hki, by omega, by rw [mkS_get]; exact e⟩)
    · rw [List.getElem?_append_right (by simpa using hk)] at e
      have : k = l.length := by
        have h1 : k - (l.set i (some (.cells (cs.set j (nilRow l.length)) ex es))).length < 1 := by
          rcases Nat.lt_or_ge (k - (l.set i (some (.cells (cs.set j (nilRow l.length)) ex es))).length) 1 with h | h
          · exact h
          · rw [List.getElem?_eq_none (by simpa using h)] at e; cases e
        simp at h1; omega
      subst this
      simp at e
      exact .inr (.inr ⟨rfl, e.symm⟩)
  have hold : (mkS l).h.get i = some (.cells cs ex es) := by rw [mkS_get, hi]; rfl
  have hn : (mkS l).next = l.length := rfl
  have hρ : ∀ k, k ≠ l.length → upd ρ l.length (some ⟨0, 0, false, es', 0, true⟩) k = ρ k := fun k h => upd_ne _ _ h
  have back : ∀ k o s, (mkS (l.set i (some (.cells (cs.set j (nilRow l.length)) ex es)) ++ [some (.row true es' 0 0 elem)])).h.get k = some o → upd ρ l.length (some ⟨0, 0, false, es', 0, true⟩) k = some s → s.void = false → ∃ o', (mkS l).h.get k = some o' ∧ o'.isOwn = o.isOwn ∧ ρ k = some s := by
    intro k o s e1 e2 e3
    rcases hget k o e1 with ⟨rfl, rfl⟩ | ⟨h1, h2, h3⟩ | ⟨rfl, rfl⟩
    · exact ⟨_, hold, rfl, by rw [hρ k (by omega)] at e2; exact e2⟩
    · exact ⟨o, h3, rfl, by rw [hρ k h2] at e2; exact e2⟩
    · rw [upd_same] at e2; cases e2; cases e3
  refine ⟨_, ⟨hr.fr.mono hsub, ⟨fun k s e hv => ?_, fun k o e => ?_, fun x y oa ob sa sb ea eb eo ra rb va vb heq => ?_⟩, fun k o e => ?_, fun k hk => ?_, fun b hb => ?_, hr.bel, hr.size, fun k s e => hsub k s (hr.ext k s e)⟩⟩
  · by_cases hk : k = l.length
    · subst hk; rw [upd_same] at e; cases e; cases hv
    · rw [hρ k hk] at e; exact hr.wr.blk k s e hv
  · rcases hget k o e with ⟨rfl, rfl⟩ | ⟨h1, h2, h3⟩ | ⟨rfl, rfl⟩
    · obtain ⟨s, e1, x0, x1, x2, C, t, fr, y1, y2, y3, y4, y5⟩ := hr.wr.obj k _ hold
      refine ⟨s, by rw [hρ k (by omega)]; exact e1, x0, x1, x2, C, t, fr, y1, y2, y3, by simpa using y4, fun q x hx => ?_⟩
      by_cases hq : q = j
      · subst hq
        rw [List.getElem?_set_self hjl] at hx
        cases hx
        obtain ⟨y, hy, hv⟩ := y5 q _ hj
        cases hv
        exact ⟨_, hy, .sliceN _ _⟩
      · rw [List.getElem?_set_ne (Ne.symm hq)] at hx
        obtain ⟨y, hy, hv⟩ := y5 q x hx
        exact ⟨y, hy, hv.mono hsub⟩
    · obtain ⟨s, e1, e2⟩ := hr.wr.obj k o h3
      exact ⟨s, by rw [hρ k h2]; exact e1, e2.kept hsub (fun _ => rfl)⟩
    · exact ⟨_, upd_same _ _ _, rfl, fun _ => Nat.le_refl _, fun _ => ⟨rfl, rfl, fun h => by cases h⟩, fun i _ hi => by omega⟩
  · obtain ⟨oa', ea', qa, ra'⟩ := back x oa sa ea ra va
    obtain ⟨ob', eb', qb, rb'⟩ := back y ob sb eb rb vb
    exact hr.wr.inj x y oa' ob' sa sb ea' eb' (by rw [qa, qb]; exact eo) ra' rb' va vb heq
  · have hlen : (mkS (l.set i (some (.cells (cs.set j (nilRow l.length)) ex es)) ++ [some (.row true es' 0 0 elem)])).next = l.length + 1 := by simp [mkS]
    rw [hlen]
    rcases hget k o e with ⟨rfl, _⟩ | ⟨h1, h2, h3⟩ | ⟨rfl, _⟩
    · omega
    · have := hr.wf k o h3; rw [hn] at this; omega
    · omega
  · have hlen : (mkS (l.set i (some (.cells (cs.set j (nilRow l.length)) ex es)) ++ [some (.row true es' 0 0 elem)])).next = l.length + 1 := by simp [mkS]
    rw [hlen] at hk
    rw [hρ k (by omega)]
    exact hr.fresh k (by rw [hn]; omega)
  · obtain ⟨k, o, t, e, e0, e2, e3, e4⟩ := hb
    obtain ⟨o', h1, h2, h3⟩ := back k o t e e2 e3
    exact hr.own b ⟨k, o', t, h1, by rw [h2]; exact e0, h3, e3, e4⟩
end Go.Proofs.Ytokpobfimphhgaa.Ev
