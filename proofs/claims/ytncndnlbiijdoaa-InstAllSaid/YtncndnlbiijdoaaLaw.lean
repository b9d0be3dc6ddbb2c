/-
  Functions of trees: what has to hold for them to answer so.
-/
import Derived.Test.YtncndnlbiijdoaaCon
set_option linter.unusedVariables false
set_option linter.unusedSimpArgs false
namespace Go.Proofs.Ytncndnlbiijdoaa.Ev
open Go Go.RowKit

/-! ### what is given, laid -/
def lay1 (t : Td) (k : Nat) : Value × List AObj := match t with
  | .sc x => (x, [])
  | .fr es n c e => (.slice (some ⟨k, 0, some 0⟩) n c, [.row .look es 0 n e])
def lays : List Td → Nat → List Value × List AObj
  | [], _ => ([], [])
  | t :: l, k => ((lay1 t k).1 :: (lays l (k + (lay1 t k).2.length)).1, (lay1 t k).2 ++ (lays l (k + (lay1 t k).2.length)).2)
def layA1 (t : Ta) (k : Nat) : Value × List AObj := match t with
  | .cell t => lay1 t k
  | .agg ts => (.agg ⟨(lays ts k).1⟩, (lays ts k).2)
def layA : List Ta → Nat → List Value × List AObj
  | [], _ => ([], [])
  | t :: l, k => ((layA1 t k).1 :: (layA l (k + (layA1 t k).2.length)).1, (layA1 t k).2 ++ (layA l (k + (layA1 t k).2.length)).2)
structure LayR (w : World) (F : Nat → Prop) (objs : List AObj) (S : List Spot) : Prop where
  len : S.length = objs.length
  ok : ∀ (i : Nat) (s : Spot) (o : AObj), S[i]? = some s → objs[i]? = some o → (∀ X F', ExtOk ⟨w.heap.size, w, X, F'⟩ s o) ∧ (s.void = false → s.blk < w.heap.size) ∧ s.fz = F
theorem LayR.nil (w : World) (F : Nat → Prop) : LayR w F [] [] := ⟨rfl, fun i s o h => by simp at h⟩
theorem LayR.app {w : World} {F : Nat → Prop} {o1 o2 : List AObj} {S1 S2 : List Spot} (h : LayR w F o1 S1) (k : LayR w F o2 S2) : LayR w F (o1 ++ o2) (S1 ++ S2) := by
  refine ⟨by simp [h.len, k.len], fun i s o hs ho => ?_⟩
  rcases Nat.lt_or_ge i S1.length with hi | hi
  · rw [List.getElem?_append_left hi] at hs
    rw [List.getElem?_append_left (by have := h.len; omega)] at ho
    exact h.ok i s o hs ho
  · rw [List.getElem?_append_right hi] at hs
    rw [List.getElem?_append_right (by have := h.len; omega), ← h.len] at ho
    exact k.ok _ s o hs ho
def At (X S : List Spot) (k : Nat) : Prop := ∀ (i : Nat) (s : Spot), S[i]? = some s → X[k + i]? = some s
theorem At.app {X S1 S2 : List Spot} {k : Nat} (h : At X (S1 ++ S2) k) : At X S1 k ∧ At X S2 (k + S1.length) := by
  refine ⟨fun i s hs => h i s ?_, fun i s hs => ?_⟩
  · rw [List.getElem?_append_left ((List.getElem?_eq_some_iff.1 hs).1)]; exact hs
  · have := h (S1.length + i) s (by rw [List.getElem?_append_right (by omega)]; rw [show S1.length + i - S1.length = i by omega]; exact hs)
    rw [← Nat.add_assoc] at this
    exact this
theorem lay1_rel {w : World} {F : Nat → Prop} (hF : ∀ b, F b → b < w.heap.size) {t : Td} {y : Value} (h : TRo w F t y) : ∃ S, (∀ k, LayR w F (lay1 t k).2 S) ∧ ∀ X k, At X S k → VR (fun i => X[i]?) (lay1 t k).1 y := by
  have hno : ∀ {q : Prop}, true = false → q := by intro q h; cases h
  cases t with
  | sc x => exact ⟨[], fun k => LayR.nil w F, fun X k _ => VR.mono (noRho_sub _) h⟩
  | fr es n c e =>
    have mk : ∀ s : Spot, s.fz = F → (∀ X F', ExtOk ⟨w.heap.size, w, X, F'⟩ s (.row .look es 0 n e)) → (s.void = false → s.blk < w.heap.size) → ∀ k, LayR w F (lay1 (.fr es n c e) k).2 [s] := fun s h1 h2 h3 k => ⟨rfl, fun i s' o hs ho => by
      cases i with
      | zero => cases hs; cases ho; exact ⟨h2, h3, h1⟩
      | succ i => cases hs⟩
    rcases h with ⟨rfl, rfl, rfl⟩ | ⟨rfl, rfl, a, c', rfl⟩ | ⟨h0, b, o, c', rfl, h2, h3, h4⟩
    · exact ⟨[⟨0, 0, true, es, 0, true, F⟩], mk _ rfl (fun X F' => ⟨rfl, fun ρ w' hz hw => ⟨rfl, fun _ => Nat.le_refl _, (fun h => by cases h), (fun h => by cases h), fun i _ hi => by omega⟩⟩) (fun h => hno h), fun X k hX => .sliceN _ _⟩
    · exact ⟨[⟨0, 0, true, es, 0, true, F⟩], mk _ rfl (fun X F' => ⟨rfl, fun ρ w' hz hw => ⟨rfl, fun _ => Nat.le_refl _, (fun h => by cases h), (fun h => by cases h), fun i _ hi => by omega⟩⟩) (fun h => hno h), fun X k hX => .sliceE _ _ _ _ _ (hX 0 _ rfl) rfl⟩
    · refine ⟨[⟨b, o, true, es, 0, false, F⟩], mk _ rfl (fun X F' => ⟨rfl, fun ρ w' hz hw => ⟨rfl, (fun h => by cases h), (fun h => by cases h), (fun h => by cases h), fun i _ hi j hj => ?_⟩⟩) (fun _ => h3), fun X k hX => .sliceI k 0 ⟨b, o, true, es, 0, false, F⟩ n c c' o (hX 0 _ rfl) h2 (fun _ => h0) (fun h => by cases h) rfl (.inl (by simp))⟩
      obtain ⟨z, z1, z2, z3⟩ := h4 i hi j hj
      exact ⟨z, (hw.cell (p := ⟨b, o + i * es + j, none⟩) h3).trans z1, z2, z3.kept hz (fun b hb => by obtain ⟨_, _, _, _, hh⟩ := hw; exact hh b (hF b hb))⟩
theorem lays_rel {w : World} {F : Nat → Prop} (hF : ∀ b, F b → b < w.heap.size) : ∀ {ts : List Td} {ys : List Value}, PW (TRo w F) ts ys → ∃ S, (∀ k, LayR w F (lays ts k).2 S) ∧ ∀ X k, At X S k → VRL (fun i => X[i]?) (lays ts k).1 ys := by
  intro ts
  induction ts with
  | nil => intro ys h; have := h.nil_inv; subst this; exact ⟨[], fun k => LayR.nil w F, fun X k _ => VRL.nil _⟩
  | cons t ts ih =>
    intro ys h
    obtain ⟨y, m, rfl, hy, hm⟩ := h.uncons
    obtain ⟨S1, a1, a2⟩ := lay1_rel hF hy
    obtain ⟨S2, b1, b2⟩ := ih hm
    refine ⟨S1 ++ S2, fun k => (a1 k).app (b1 _), fun X k hX => ?_⟩
    obtain ⟨h1, h2⟩ := hX.app
    rw [(a1 k).len] at h2
    exact VRL.cons (a2 X k h1) (b2 X _ h2)
theorem layA1_rel {w : World} {F : Nat → Prop} (hF : ∀ b, F b → b < w.heap.size) {t : Ta} {y : Value} (h : TaR w F t y) : ∃ S, (∀ k, LayR w F (layA1 t k).2 S) ∧ ∀ X k, At X S k → VR (fun i => X[i]?) (layA1 t k).1 y := by
  cases t with
  | cell t => exact lay1_rel hF h
  | agg ts =>
    obtain ⟨a, rfl, h⟩ := h
    obtain ⟨S, h1, h2⟩ := lays_rel hF h
    refine ⟨S, h1, fun X k hX => ?_⟩
    have h3 := VR.agg' (h2 X k hX)
    have h4 : a.toList.toArray = a := by simp
    rw [h4] at h3
    exact h3
theorem layA_rel {w : World} {F : Nat → Prop} (hF : ∀ b, F b → b < w.heap.size) : ∀ {ts : List Ta} {ys : List Value}, PW (TaR w F) ts ys → ∃ S, (∀ k, LayR w F (layA ts k).2 S) ∧ ∀ X k, At X S k → VRL (fun i => X[i]?) (layA ts k).1 ys := by
  intro ts
  induction ts with
  | nil => intro ys h; have := h.nil_inv; subst this; exact ⟨[], fun k => LayR.nil w F, fun X k _ => VRL.nil _⟩
  | cons t ts ih =>
    intro ys h
    obtain ⟨y, m, rfl, hy, hm⟩ := h.uncons
    obtain ⟨S1, a1, a2⟩ := layA1_rel hF hy
    obtain ⟨S2, b1, b2⟩ := ih hm
    refine ⟨S1 ++ S2, fun k => (a1 k).app (b1 _), fun X k hX => ?_⟩
    obtain ⟨h1, h2⟩ := hX.app
    rw [(a1 k).len] at h2
    exact VRL.cons (a2 X k h1) (b2 X _ h2)

/-! ### what is answered, seen -/
/-- a value that is it; l: the names of what is its own -/
def raE (st : ASt) : Ra → Value → List Nat → Prop
  | .sc x, v, l => l = [] ∧ v = x ∧ scalT v = true
  | .still es n c e, v, l => l = [] ∧ ((v = .slice none 0 0 ∧ n = 0 ∧ c = 1) ∨ ∃ b i0 lo m g c0, v = .slice (some ⟨b, 0, some i0⟩) n c0 ∧ (n = 0 → c0 = c) ∧ st.h.get b = some (.row .still es lo m g) ∧ lo ≤ i0 ∧ i0 + n ≤ m ∧ ∀ i, i < n → ∀ j, j < es → g (i0 + i) j = e i j)
  | .own es n c e, v, l => (l = [] ∧ v = .slice none 0 0 ∧ n = 0 ∧ c = 1) ∨
      (∃ b i0 lo m g c0, l = [b] ∧ v = .slice (some ⟨b, 0, some i0⟩) n c0 ∧ (n = 0 → c0 = c) ∧ st.h.get b = some (.row .mine es lo m g) ∧ lo ≤ i0 ∧ i0 + n ≤ m ∧ ∀ i, i < n → ∀ j, j < es → g (i0 + i) j = e i j) ∨
      (∃ b o cap cs ex es', l = [b] ∧ v = .slice (some ⟨b, o, none⟩) n cap ∧ st.h.get b = some (.cells cs ex es') ∧ c = 0 ∧ (ex = false → es' = es) ∧ (ex = true → o + cap * es ≤ cs.length) ∧ ∀ i, i < n → ∀ j, j < es → ∃ x, cs[o + i * es + j]? = some x ∧ scalT x = true ∧ e i j = .sc x)
def rasE (st : ASt) : List Ra → List Value → List Nat → Prop
  | [], [], l => l = []
  | r :: rs, v :: vs, l => ∃ l1 l2, l = l1 ++ l2 ∧ raE st r v l1 ∧ rasE st rs vs l2
  | _, _, _ => False
def rvE (st : ASt) : Rv → Value → List Nat → Prop
  | .cell r, v, l => raE st r v l
  | .agg rs, v, l => ∃ a : Array Value, v = .agg a ∧ rasE st rs a.toList l
def rvsE (st : ASt) : List Rv → List Value → List Nat → Prop
  | [], [], l => l = []
  | r :: rs, v :: vs, l => ∃ l1 l2, l = l1 ++ l2 ∧ rvE st r v l1 ∧ rvsE st rs vs l2
  | _, _, _ => False
def ansE (a : Ans) (r : AE) (st : ASt) : Prop := match r with
  | .returned v => match a with
    | .ret q => ∃ l, rvE st q v l ∧ l.Nodup
    | .rets qs => ∃ (a : Array Value) (l : List Nat), v = .tuple a ∧ rvsE st qs a.toList l ∧ l.Nodup
    | .pan _ => False
  | .panicked v => match a with
    | .pan u => v = u ∧ ground 3 v = true
    | _ => False
/-- blocks of names -/
def Blks (ρ : Rho) (g : Mem) (l lb : List Nat) : Prop := ∀ b ∈ lb, ∃ a ∈ l, ∃ o s, g a = some o ∧ o.isOwn = true ∧ ρ a = some s ∧ s.void = false ∧ s.blk = b
theorem Blks.nil (ρ : Rho) (g : Mem) (l : List Nat) : Blks ρ g l [] := fun b h => by simp at h
theorem Blks.nodup {ρ : Rho} {g : Mem} {w : World} (hw : WR ρ g w) {l1 l2 b1 b2 : List Nat} (h1 : Blks ρ g l1 b1) (h2 : Blks ρ g l2 b2) (hn : (l1 ++ l2).Nodup) (n1 : b1.Nodup) (n2 : b2.Nodup) : (b1 ++ b2).Nodup := by
  refine List.nodup_append.2 ⟨n1, n2, fun x hx y hy hxy => ?_⟩
  subst hxy
  obtain ⟨a, ha, o, s, q1, q2, q3, q4, q5⟩ := h1 x hx
  obtain ⟨a', ha', o', s', p1, p2, p3, p4, p5⟩ := h2 x hy
  have := hw.inj a a' o o' s s' q1 p1 (.inl q2) q3 p3 q4 p4 (by omega)
  subst this
  exact (List.nodup_append.1 hn).2.2 a ha a ha' rfl
theorem Blks.app {ρ : Rho} {g : Mem} {l1 l2 b1 b2 : List Nat} (h1 : Blks ρ g l1 b1) (h2 : Blks ρ g l2 b2) : Blks ρ g (l1 ++ l2) (b1 ++ b2) := fun b hb => by
  rcases List.mem_append.1 hb with hb | hb
  · obtain ⟨a, ha, h⟩ := h1 b hb; exact ⟨a, List.mem_append_left _ ha, h⟩
  · obtain ⟨a, ha, h⟩ := h2 b hb; exact ⟨a, List.mem_append_right _ ha, h⟩
section
variable {ρ : Rho} {st : ASt} {w w' : World}
theorem raE_R (hw : WR ρ st.h.get w') (how : OwnB ρ st.h.get w.heap.size) {r : Ra} {v y : Value} {l : List Nat} (h : raE st r v l) (hv : VR ρ v y) : ∃ lb, RaR w w' (Frz ρ) r y lb ∧ Blks ρ st.h.get l lb ∧ lb.Nodup := by
  cases r with
  | sc x =>
    obtain ⟨rfl, rfl, h3⟩ := h
    exact ⟨[], ⟨rfl, (scalT_rel h3 hv).1⟩, Blks.nil _ _ _, List.nodup_nil⟩
  | still es n c e =>
    obtain ⟨rfl, h⟩ := h
    refine ⟨[], ⟨rfl, ?_⟩, Blks.nil _ _ _, List.nodup_nil⟩
    rcases h with ⟨rfl, rfl, rfl⟩ | ⟨b, i0, lo, m, g, c0, rfl, kc, hg, k1, k2, k3⟩
    · cases hv; exact .inl ⟨rfl, rfl, rfl⟩
    · obtain ⟨s, e1, f1, f2, f3, fz, f4⟩ := hw.obj _ _ hg
      cases hv with
      | sliceI _ _ s' _ _ c' o' hsp hnc hcc hro hvd ho =>
        rw [hsp] at e1; cases e1
        rcases Nat.eq_zero_or_pos n with h0 | h0
        · subst h0
          have hc0 : c = 0 := by
            have := kc rfl
            rcases Nat.eq_zero_or_pos c with h | h
            · exact h
            · have := hcc (by omega); omega
          exact .inr (.inl ⟨rfl, hc0, _, _, rfl⟩)
        · have ho' : o' = s.base + i0 * s.es := by rcases ho with ho | ho; exact ho; omega
          refine .inr (.inr ⟨h0, s.blk, o', c', rfl, hnc, fz rfl hvd, fun i hi j hj => ?_⟩)
          obtain ⟨z, z1, z2, z3⟩ := f4 (i0 + i) (by omega) (by omega) j hj
          rw [k3 i hi j hj] at z3
          refine ⟨z, ?_, z2, z3⟩
          rw [← z1, ho', f1]; congr 2; rw [Nat.add_mul]; omega
      | sliceE _ _ c' x s' hsx hex => exact .inr (.inl ⟨rfl, (kc rfl).symm, _, _, rfl⟩)
      | sliceN => exact .inl ⟨rfl, (kc rfl).symm, rfl⟩
      | sliceZ => exact .inr (.inl ⟨rfl, (kc rfl).symm, _, _, rfl⟩)
  | own es n c e =>
    rcases h with ⟨rfl, rfl, rfl, rfl⟩ | ⟨b, i0, lo, m, g, c0, rfl, rfl, kc, hg, k1, k2, k3⟩ | ⟨b, o, cap, cs, ex, es', rfl, rfl, hg, rfl, k1, k2, k3⟩
    · cases hv; exact ⟨[], .inl ⟨rfl, rfl, .inl ⟨rfl, rfl⟩⟩, Blks.nil _ _ _, List.nodup_nil⟩
    · obtain ⟨s, e1, f1, f2, f3, fz, f4⟩ := hw.obj _ _ hg
      obtain ⟨x1, x2, x3⟩ := f3 rfl
      cases hv with
      | sliceI _ _ s' _ _ c' o' hsp hnc hcc hro hvd ho =>
        rw [hsp] at e1; cases e1
        obtain ⟨C, t, fr, q1, q2, q3, q4⟩ := x3 hvd
        have hb : Blks ρ st.h.get [b] [s.blk] := fun x hx => by
          simp at hx; subst hx
          exact ⟨b, by simp, _, s, hg, rfl, hsp, hvd, rfl⟩
        have hro' := hro x1
        refine ⟨[s.blk], .inr ⟨s.blk, o', c', C, t, fr, rfl, rfl, hnc, (fun h => by rcases Nat.eq_zero_or_pos n with h0 | h0; exact hcc (by rw [kc h0]; exact h); exact h0), how _ ⟨b, _, s, hg, rfl, hsp, hvd, rfl⟩, q1, q3, by rw [← f1]; omega, fun hz => (hw.fz _ hz).2 ⟨b, _, s, hg, rfl, hsp, hvd, rfl⟩, fun i hi j hj => ?_⟩, hb, by simp⟩
        have ho' : o' = s.base + i0 * s.es := by rcases ho with ho | ho; exact ho; omega
        obtain ⟨z, z1, z2, z3⟩ := f4 (i0 + i) (by omega) (by omega) j hj
        rw [k3 i hi j hj] at z3
        rw [cell_row q1] at z1
        refine ⟨z, ?_, z2, z3⟩
        rw [← z1, ho', f1]; congr 1; rw [Nat.add_mul]; omega
      | sliceE _ _ c' x s' hsx hex => rw [hsx] at e1; cases e1; rw [x1] at hex; cases hex
      | sliceN => exact ⟨[], .inl ⟨rfl, rfl, .inl ⟨(kc rfl).symm, rfl⟩⟩, Blks.nil _ _ _, List.nodup_nil⟩
      | sliceZ => exact ⟨[], .inl ⟨rfl, rfl, .inr ⟨(kc rfl).symm, _, rfl⟩⟩, Blks.nil _ _ _, List.nodup_nil⟩
    · obtain ⟨s, e1, f0, f1, f2, C, t, fr, f3, f4, f5, f6, f7⟩ := hw.obj _ _ hg
      cases hv with
      | slice _ _ s' _ _ c' o' hsp hn hc hxx hro ho =>
        rw [hsp] at e1; cases e1
        rcases Nat.eq_zero_or_pos c' with h0 | h0
        · have hn0 : n = 0 := by omega
          subst hn0; subst h0
          exact ⟨[], .inl ⟨rfl, rfl, .inr ⟨rfl, _, rfl⟩⟩, Blks.nil _ _ _, List.nodup_nil⟩
        have hb : Blks ρ st.h.get [b] [s.blk] := fun x hx => by
          simp at hx; subst hx
          exact ⟨b, by simp, _, s, hg, rfl, hsp, f0, rfl⟩
        have ho' : o' = s.base + o := by rcases ho with ho | ho; exact ho; omega
        have hroom : o' + c' * es ≤ C.size := by
          cases hex : ex with
          | false =>
            rw [hex] at f1
            have h1 := hro f1
            rw [f2, k1 hex] at h1; omega
          | true =>
            rw [hex] at f1
            have h1 := hxx f1
            have h2 := k2 hex
            rw [h1, ho']; omega
        refine ⟨[s.blk], .inr ⟨s.blk, o', c', C, t, fr, rfl, rfl, by omega, fun h => absurd rfl h, how _ ⟨b, _, s, hg, rfl, hsp, f0, rfl⟩, f3, f5, hroom, fun hz => (hw.fz _ hz).2 ⟨b, _, s, hg, rfl, hsp, f0, rfl⟩, fun i hi j hj => ?_⟩, hb, by simp⟩
        obtain ⟨x, p1, p2, p3⟩ := k3 i hi j hj
        obtain ⟨z, z1, z2⟩ := f7 _ x p1
        obtain ⟨r1, r2⟩ := scalT_rel p2 z2
        refine ⟨z, ?_, r2, by rw [p3]; exact r1⟩
        rw [← z1, ho']; congr 1; omega
theorem rasE_R (hw : WR ρ st.h.get w') (how : OwnB ρ st.h.get w.heap.size) : ∀ {rs : List Ra} {vs ys : List Value} {l : List Nat}, rasE st rs vs l → l.Nodup → VRL ρ vs ys → ∃ lb, RasR w w' (Frz ρ) rs ys lb ∧ Blks ρ st.h.get l lb ∧ lb.Nodup := by
  intro rs
  induction rs with
  | nil =>
    intro vs ys l h hn hv
    cases vs with
    | nil =>
      have : l = [] := h
      subst this
      have := hv.nil_inv
      subst this
      exact ⟨[], rfl, Blks.nil _ _ _, List.nodup_nil⟩
    | cons => exact h.elim
  | cons r rs ih =>
    intro vs ys l h hn hv
    cases vs with
    | nil => exact h.elim
    | cons v vs =>
      obtain ⟨l1, l2, rfl, h1, h2⟩ := h
      obtain ⟨y, m, rfl, hy, hm⟩ := hv.uncons
      obtain ⟨b1, p1, p2, p3⟩ := raE_R hw how h1 hy
      obtain ⟨b2, q1, q2, q3⟩ := ih h2 (List.nodup_append.1 hn).2.1 hm
      exact ⟨b1 ++ b2, ⟨b1, b2, rfl, p1, q1⟩, p2.app q2, p2.nodup hw q2 hn p3 q3⟩
theorem rvE_R (hw : WR ρ st.h.get w') (how : OwnB ρ st.h.get w.heap.size) {r : Rv} {v y : Value} {l : List Nat} (h : rvE st r v l) (hn : l.Nodup) (hv : VR ρ v y) : ∃ lb, RvR w w' (Frz ρ) r y lb ∧ Blks ρ st.h.get l lb ∧ lb.Nodup := by
  cases r with
  | cell r => exact raE_R hw how h hv
  | agg rs =>
    obtain ⟨a, rfl, h⟩ := h
    cases hv with
    | agg _ a' ha hh =>
      obtain ⟨lb, p1, p2, p3⟩ := rasE_R hw how h hn (VRL.of_arrays ha hh)
      exact ⟨lb, ⟨a', rfl, p1⟩, p2, p3⟩
theorem rvsE_R (hw : WR ρ st.h.get w') (how : OwnB ρ st.h.get w.heap.size) : ∀ {rs : List Rv} {vs ys : List Value} {l : List Nat}, rvsE st rs vs l → l.Nodup → VRL ρ vs ys → ∃ lb, RvsR w w' (Frz ρ) rs ys lb ∧ Blks ρ st.h.get l lb ∧ lb.Nodup := by
  intro rs
  induction rs with
  | nil =>
    intro vs ys l h hn hv
    cases vs with
    | nil =>
      have : l = [] := h
      subst this
      have := hv.nil_inv
      subst this
      exact ⟨[], rfl, Blks.nil _ _ _, List.nodup_nil⟩
    | cons => exact h.elim
  | cons r rs ih =>
    intro vs ys l h hn hv
    cases vs with
    | nil => exact h.elim
    | cons v vs =>
      obtain ⟨l1, l2, rfl, h1, h2⟩ := h
      obtain ⟨y, m, rfl, hy, hm⟩ := hv.uncons
      obtain ⟨b1, p1, p2, p3⟩ := rvE_R hw how h1 (List.nodup_append.1 hn).1 hy
      obtain ⟨b2, q1, q2, q3⟩ := ih h2 (List.nodup_append.1 hn).2.1 hm
      exact ⟨b1 ++ b2, ⟨b1, b2, rfl, p1, q1⟩, p2.app q2, p2.nodup hw q2 hn p3 q3⟩
end
theorem PostE.ans {w w' : World} {X : List Spot} {F : Nat → Prop} {a : Ans} {e : Ending} (h : PostE ⟨w.heap.size, w, X, F⟩ (ansE a) e w') : AnsR w F a e w' := by
  obtain ⟨⟨r, st', ρ', h1, h2, hw, _, _, how, hfz⟩, h3⟩ := h
  refine ⟨h3, Frz ρ', fun b hb => ?_, ?_⟩
  · rcases hfz b hb with h | h
    · exact .inl ⟨h, (hw.fz b hb).1⟩
    · exact .inr h
  · unfold ansE at h2
    split at h2
    · rename_i v
      obtain ⟨y, rfl, hy⟩ := h1
      split at h2
      · obtain ⟨l, k1, k2⟩ := h2
        obtain ⟨lb, p1, p2, p3⟩ := rvE_R hw how k1 k2 hy
        exact ⟨y, lb, rfl, p1, p3⟩
      · obtain ⟨a, l, rfl, k1, k2⟩ := h2
        cases hy with
        | tuple _ a' ha hh =>
          obtain ⟨lb, p1, p2, p3⟩ := rvsE_R hw how k1 k2 (VRL.of_arrays ha hh)
          exact ⟨a', lb, rfl, p1, p3⟩
      · exact h2.elim
    · rename_i v
      split at h2
      · obtain ⟨rfl, hg⟩ := h2
        obtain ⟨v', rfl, hv⟩ := h1
        have := VR.ground 3 hg hv
        subst this
        exact ⟨v', rfl, VR.refl 3 hg⟩
      · exact h2.elim
/-- **a function of trees, by what its code comes to** -/
theorem toldW_at {P : Program} {g : FuncId} {ts : List Ta} {a : Ans} (hm : P.follows .mixedOrders = true)
    (h : ∃ (C : Told) (fuel n : Nat) (un : Nat → Nat) (lvs : Nat → List Nat) (ex : Nat → Kt → Prop), ToldS P C ∧ ∀ β : Bs, β.X.length = (layA ts 0).2.length → lawE P C fuel n β un (cnOf (layA ts 0).2.length lvs) ex g (layA ts 0).1 (mkS ((layA ts 0).2.map some)) (ansE a))
    (w : World) (args' : Array Value) (F : Nat → Prop) (hF : ∀ b, F b → b < w.heap.size) (ha : PW (TaR w F) ts args'.toList) : Calls P g args' w fun e w' => AnsR w F a e w' := by
  obtain ⟨C, fuel, n, un, lvs, ex, hC, hl⟩ := h
  obtain ⟨S, s1, s2⟩ := layA_rel hF ha
  have hlen := (s1 0).len
  have hv := s2 S 0 (fun i s hs => by rw [Nat.zero_add]; exact hs)
  have hl' := hl ⟨w.heap.size, w, S, F⟩ hlen
  rw [← hlen] at hl'
  refine (law_args (F := F) hm hC w hlen (fun k s o h1 h2 => ((s1 0).ok k s o h1 h2).1 _ _) (fun s hs hvd => ?_) (fun s hs b hb => ?_) hF hv hl').mono fun e w' he => he.ans
  · obtain ⟨i, hi⟩ := List.getElem?_of_mem hs
    have hil := (List.getElem?_eq_some_iff.1 hi).1
    exact ((s1 0).ok i s _ hi (List.getElem?_eq_getElem (by omega))).2.1 hvd
  · obtain ⟨i, hi⟩ := List.getElem?_of_mem hs
    have hil := (List.getElem?_eq_some_iff.1 hi).1
    have := ((s1 0).ok i s _ hi (List.getElem?_eq_getElem (by omega))).2.2
    rw [this] at hb; exact hb
end Go.Proofs.Ytncndnlbiijdoaa.Ev
