/-
  A region that draws its order: the walk of the one order gathers what holds of all.
-/
import Derived.Test.YtokpobfimphhgaaEvJ
set_option linter.unusedVariables false
set_option linter.unusedSimpArgs false
namespace Go.Proofs.Ytokpobfimphhgaa.Ev
open Go

def effD (n : Nat) (d : Option Nat) : Option Nat := match d with
  | some d => cond (Nat.blt d n) (some d) none
  | none => none
theorem effD_some {n t : Nat} {d : Option Nat} (h : effD n d = some t) : d = some t ∧ t < n := by
  unfold effD at h
  cases d with
  | none => cases h
  | some d =>
    simp only at h
    cases hb : Nat.blt d n with
    | true => rw [hb] at h; cases h; exact ⟨rfl, blt_lt hb⟩
    | false => rw [hb] at h; cases h
theorem put_slot (f : AFr) (d : Option Nat) (v : Value) : (f.put d v).n = f.n ∧ (f.put d v).defers = f.defers ∧ ∀ t, (f.put d v).tmps.get t = if effD f.n d = some t then some v else f.tmps.get t := by
  cases d with
  | none => exact ⟨rfl, rfl, fun t => by simp [AFr.put, effD]⟩
  | some d =>
    simp only [AFr.put, effD]
    rcases Bool.eq_false_or_eq_true (Nat.blt d f.n) with hb | hb
    · simp only [hb, cond_true]
      refine ⟨trivial, trivial, fun t => ?_⟩
      simp only [set_get, Option.some.injEq]
      by_cases ht : d = t
      · subst ht; rw [upd_same, if_pos rfl]
      · rw [upd_ne _ _ (Ne.symm ht), if_neg ht]
    · simp only [hb, cond_false]
      exact ⟨trivial, trivial, fun t => by simp⟩

def Wp (P : Program) (all : List Oper) (Q : Exit → Act → World → Prop) (o : Oper) (K : Act → World → Prop) (a : Act) (w : World) : Prop :=
  if Region.wanted o (yielded all.toArray a.tmps) then o.wp P a w K Q else K (a.put o.dst undef) w
def ItSem (P : Program) (all : List Oper) (i : It) (o : Oper) (sl : Nat → Option Value) (n : Nat) (ds : List ADef) : Prop :=
  ∀ (Q : Exit → Act → World → Prop) (ρ : Rho) (w : World) (a : Act) (K : Act → World → Prop), (∀ t ∈ i.looks, ∀ v, sl t = some v → ∃ v', a.tmps[t]? = some v' ∧ VR ρ v v') → a.tmps.size = n → DefsR ρ ds a.defers → WR ρ i.hb w → Fresh ρ i.s i.e →
    (∀ ρ' v' w', VR ρ' i.v v' → Mv ρ ρ' i.hb i.ha i.s i.e w w' → K (a.put o.dst v') w') → Wp P all Q o K a w

theorem gK_congr {it it' : Nat → It} {g0 : Mem} {L : Nat → Bool} : ∀ {n : Nat}, (∀ k, k < n → it k = it' k) → gK it g0 L n = gK it' g0 L n := by
  intro n
  induction n with
  | zero => intro _; rfl
  | succ n ih =>
    intro h
    simp only [gK]
    rw [ih (fun k hk => h k (by omega)), h n (by omega)]
theorem slK_congr {it it' : Nat → It} {s0 : Nat → Option Value} {L : Nat → Bool} : ∀ {n : Nat}, (∀ k, k < n → it k = it' k) → slK it s0 L n = slK it' s0 L n := by
  intro n
  induction n with
  | zero => intro _; rfl
  | succ n ih =>
    intro h
    funext t
    simp only [slK]
    rw [ih (fun k hk => h k (by omega)), h n (by omega)]

structure Tra (P : Program) (all : List Oper) (f0 : AFr) (st0 : ASt) (its : Nat → It) (j : Nat) (f : AFr) (st : ASt) (recs : List Rec) : Prop where
  heap : st.h.get = gK its st0.h.get allL j
  slot : f.tmps.get = slK its f0.tmps.get allL j
  fn : f.n = f0.n
  defs : f.defers = f0.defers
  eN : ∀ i, i < j → st0.next ≤ (its i).s ∧ (its i).e ≤ st.next
  run : Run its j st0.h.get (Anc all)
  sem : ∀ i o, i < j → all[i]? = some o → (its i).dst = effD f0.n o.dst ∧ (its i).looks = looksL all o ∧ ItSem P all (its i) o (slK its f0.tmps.get allL i) f0.n f0.defers
  recs : ∀ i, i < j → ((∀ x, (its i).hb x = none) ∧ (its i).s = (its i).e) ∨ ∃ r ∈ recs, r.j = i ∧ r.s = (its i).s ∧ r.e = (its i).e ∧ (r.wr = false → ∀ x o, (its i).hb x = some o → (its i).ha x = some o) ∧ ∀ l, r.fp = some l → ∀ x o, (its i).hb x = some o → x ∈ l
  wf : ∀ x o, st.h.get x = some o → x < st.next
  los : LoS st0 st

theorem Tra.step {P : Program} {all : List Oper} {f0 f : AFr} {st0 st st' : ASt} {its : Nat → It} {j : Nat} {recs recs' : List Rec} {o : Oper} {i : It} (T : Tra P all f0 st0 its j f st recs) (hsl : slotsOk all = true) (ho : all[j]? = some o)
    (hs : i.s = st.next) (he : i.s ≤ i.e) (hsub : ∀ x o, i.hb x = some o → st.h.get x = some o)
    (hind : ∀ k, k < j → ¬ Anc all j k → ∀ x o, i.hb x = some o → ¬ ((its k).s ≤ x ∧ x < (its k).e) ∧ ∀ o', (its k).hb x = some o' → (its k).ha x = (its k).hb x ∧ i.ha x = i.hb x)
    (hdst : i.dst = effD f0.n o.dst) (hlk : i.looks = looksL all o) (hsem : ItSem P all i o (slK its f0.tmps.get allL j) f0.n f0.defers)
    (hheap : st'.h.get = i.upd st.h.get) (hnx : st'.next = i.e) (hwf : ∀ x o, st'.h.get x = some o → x < st'.next) (hlos : LoS st st')
    (hr1 : ∀ r ∈ recs, r ∈ recs') (hr2 : ((∀ x, i.hb x = none) ∧ i.s = i.e) ∨ ∃ r ∈ recs', r.j = j ∧ r.s = i.s ∧ r.e = i.e ∧ (r.wr = false → ∀ x o, i.hb x = some o → i.ha x = some o) ∧ ∀ l, r.fp = some l → ∀ x o, i.hb x = some o → x ∈ l) :
    Tra P all f0 st0 (upd its j i) (j + 1) (f.put o.dst i.v) st' recs' := by
  have hlt : ∀ k, k < j → upd its j i k = its k := fun k hk => upd_ne _ _ (by omega)
  have hj : upd its j i j = i := upd_same _ _ _
  have hg : ∀ k, k ≤ j → gK (upd its j i) st0.h.get allL k = gK its st0.h.get allL k := fun k hk => gK_congr fun q hq => hlt q (by omega)
  have hsk : ∀ k, k ≤ j → slK (upd its j i) f0.tmps.get allL k = slK its f0.tmps.get allL k := fun k hk => slK_congr fun q hq => hlt q (by omega)
  obtain ⟨p1, p2, p3⟩ := put_slot f o.dst i.v
  have hsp := slotsOk_spec hsl
  refine ⟨?_, ?_, p1.trans T.fn, p2.trans T.defs, fun k hk => ?_, ⟨fun k hk => ?_, fun a b hab hb => ?_, fun k hk x o' hx => ?_, fun k hk x o' hx => ?_, fun a b hab hb hna x o' hx => ?_, fun a b hab hb hna => ?_⟩, fun k o' hk hok => ?_, fun k hk => ?_, hwf, T.los.trans hlos⟩
  · rw [hheap, gK_all, hj, hg j (Nat.le_refl _), T.heap]
  · funext t
    rw [p3]
    simp only [slK, allL, true_and, hj, hdst, T.fn]
    rw [T.slot, hsk j (Nat.le_refl _)]
  · rcases Nat.lt_or_ge k j with h | h
    · rw [hlt k h]
      obtain ⟨e1, e2⟩ := T.eN k h
      have := hlos.1
      exact ⟨e1, by omega⟩
    · have : k = j := by omega
      subst this
      rw [hj]
      have := T.los.1
      exact ⟨by omega, by omega⟩
  · rcases Nat.lt_or_ge k j with h | h
    · rw [hlt k h]; exact T.run.le k h
    · have : k = j := by omega
      subst this; rw [hj]; exact he
  · rcases Nat.lt_or_ge b j with h | h
    · rw [hlt a (by omega), hlt b h]; exact T.run.mono a b hab h
    · have : b = j := by omega
      subst this
      rw [hlt a hab, hj, hs]
      exact (T.eN a hab).2
  · rcases Nat.lt_or_ge k j with h | h
    · rw [hlt k h] at hx; rw [hg k (by omega)]; exact T.run.sub k h x o' hx
    · have : k = j := by omega
      subst this
      rw [hj] at hx; rw [hg k (Nat.le_refl _), ← T.heap]
      exact hsub x o' hx
  · rcases Nat.lt_or_ge k j with h | h
    · rw [hlt k h] at hx ⊢; exact T.run.low k h x o' hx
    · have : k = j := by omega
      subst this
      rw [hj] at hx ⊢
      rw [hs]; exact T.wf x o' (hsub x o' hx)
  · rcases Nat.lt_or_ge b j with h | h
    · rw [hlt a (by omega)]; rw [hlt b h] at hx ⊢; exact T.run.ind a b hab h hna x o' hx
    · have : b = j := by omega
      subst this
      rw [hlt a hab]; rw [hj] at hx ⊢
      exact hind a hab hna x o' hx
  · have hbl : b < all.length ∧ a < all.length := by
      have := (List.getElem?_eq_some_iff.1 ho).1
      omega
    have hoa : all[a]? = some all[a] := by simp [hbl.2]
    have hob : all[b]? = some all[b] := by simp [hbl.1]
    obtain ⟨q1, q2⟩ := hsp.2 a b _ _ hab hoa hob hna
    have key : ∀ k, k < j + 1 → ∀ ok, all[k]? = some ok → (upd its j i k).dst = effD f0.n ok.dst ∧ (upd its j i k).looks = looksL all ok := by
      intro k hk ok hok
      rcases Nat.lt_or_ge k j with h | h
      · rw [hlt k h]; obtain ⟨s1, s2, _⟩ := T.sem k ok h hok; exact ⟨s1, s2⟩
      · have : k = j := by omega
        subst this
        rw [hj]
        rw [ho] at hok; cases hok
        exact ⟨hdst, hlk⟩
    obtain ⟨ka1, ka2⟩ := key a (by omega) _ hoa
    obtain ⟨kb1, kb2⟩ := key b hb _ hob
    refine ⟨fun t ht => ?_, fun t ht => ?_⟩
    · rw [ka1] at ht
      obtain ⟨e1, e2⟩ := q1 t (effD_some ht).1
      rw [kb2, kb1]
      exact ⟨e1, fun h => e2 (effD_some h).1⟩
    · rw [kb1] at ht
      rw [ka2]
      exact q2 t (effD_some ht).1
  · rcases Nat.lt_or_ge k j with h | h
    · rw [hlt k h, hsk k (by omega)]; exact T.sem k o' h hok
    · have : k = j := by omega
      subst this
      rw [ho] at hok; cases hok
      rw [hj, hsk k (Nat.le_refl _)]
      exact ⟨hdst, hlk, hsem⟩
  · rcases Nat.lt_or_ge k j with h | h
    · rw [hlt k h]
      rcases T.recs k h with h1 | ⟨r, h1, h2⟩
      · exact .inl h1
      · exact .inr ⟨r, hr1 r h1, h2⟩
    · have : k = j := by omega
      subst this
      rw [hj]; exact hr2

/-- the guard of an operation -/
theorem wanted_rel {all : List Oper} {f : AFr} {o : Oper} {b : Bool} {ρ : Rho} {a : Act} (h : wantedA all f o = some b) (hr : ∀ t ∈ looksL all o, ∀ v, f.tmps.get t = some v → ∃ v', a.tmps[t]? = some v' ∧ VR ρ v v') : Region.wanted o (yielded all.toArray a.tmps) = b := by
  unfold wantedA at h
  unfold Region.wanted
  cases hg : o.guard with
  | none => rw [hg] at h; cases h; rfl
  | some p =>
    obtain ⟨j, want⟩ := p
    rw [hg] at h
    simp only at h ⊢
    cases ho : all[j]? with
    | none => rw [ho] at h; cases h; simp [yielded, ho]
    | some oj =>
      rw [ho] at h
      simp only at h
      cases hd : oj.dst with
      | none => rw [hd] at h; cases h; simp [yielded, ho, hd]
      | some d =>
        rw [hd] at h
        simp only at h
        have hmem : d ∈ looksL all o := by
          unfold looksL
          rw [hg]
          simp [ho, hd]
        split at h
        · rename_i b' hb
          cases h
          obtain ⟨v', e1, e2⟩ := hr d hmem _ hb
          cases e2
          simp [yielded, ho, hd, e1]
        · rename_i vs hb
          cases h
          obtain ⟨v', e1, e2⟩ := hr d hmem _ hb
          cases e2
          simp [yielded, ho, hd, e1]
        · cases h

/-- one step of the walk of the one order -/
theorem draw_step {P : Program} {self : Self} (hself : SelfS P self) {all : List Oper} {f0 f : AFr} {st0 st st' : ASt} {its : Nat → It} {j : Nat} {recs : List Rec} {o : Oper} {v : Value} {fp : Option (List Nat)} (T : Tra P all f0 st0 its j f st recs) (hsl : slotsOk all = true) (ho : all[j]? = some o)
    (hw : wantedA all f o = some true) (he : evVal P self ⟨f.n, restr f (looksL all o), f.defers⟩ ⟨st.next, footOf (maskOf all j) recs st.h fp, big⟩ o = .ok (v, st')) (hfp : fp = none → st.next ≤ st'.lo) (hfree : freeOf (maskOf all j) recs (!(Nat.ble st.next st'.lo)) fp = true) :
    ∃ its', Tra P all f0 st0 its' (j + 1) (f.put o.dst v) ⟨st'.next, mergeOf (maskOf all j) recs st.h (footOf (maskOf all j) recs st.h fp) st'.h st.next st'.next fp, minN st.lo st'.lo⟩
      (cond (noRec fp st.next st'.next) recs (⟨j, st.next, st'.next, !(Nat.ble st.next st'.lo), fp⟩ :: recs)) := by
  have hwf0 : Wf ⟨st.next, footOf (maskOf all j) recs st.h fp, big⟩ := fun x o' hx => T.wf x o' (foot_get hx).1
  obtain ⟨hlo, hsem⟩ := evVal_sound hself hwf0 he
  have hlo0 := hlo
  obtain ⟨l1, l2, l3, l4⟩ := hlo
  simp only at l1 l2 l3 l4
  have hm := minN_le st.lo st'.lo
  have hmerge := merge_get hlo0 T.wf hfp (effD f0.n o.dst) v (looksL all o)
  have hreader : (!(Nat.ble st.next st'.lo)) = false → ∀ x o, (footOf (maskOf all j) recs st.h fp).get x = some o → st'.h.get x = some o := by
    intro h x o' hx
    have h1 : st.next ≤ st'.lo := ble_le (by simpa using h)
    have h2 := T.wf x o' (foot_get hx).1
    rw [l3 x h2 (by omega)]; exact hx
  refine ⟨_, Tra.step (i := ⟨st.next, st'.next, (footOf (maskOf all j) recs st.h fp).get, st'.h.get, effD f0.n o.dst, v, looksL all o⟩) T hsl ho rfl l1 (fun x o' hx => (foot_get hx).1) ?_ rfl rfl ?_ hmerge rfl ?_ ?_ ?_ ?_⟩
  · intro k hk hna x o' hx
    have hbit : hasBit (maskOf all j) k = false := by
      cases h : hasBit (maskOf all j) k with
      | true => exact absurd h hna
      | false => rfl
    rcases T.recs k hk with ⟨r1, r2⟩ | ⟨r, r1, r2, r3, r4, r5, r6⟩
    · exact ⟨by rw [r2]; omega, fun o2 h2 => by rw [r1 x] at h2; cases h2⟩
    · refine ⟨?_, fun o2 h2 => ?_⟩
      · have := (foot_get hx).2.1 r r1 (by rw [r2]; exact hbit)
        rw [← r3, ← r4]; exact this
      · unfold freeOf at hfree
        rw [List.all_eq_true] at hfree
        have := hfree r r1
        rw [r2, hbit] at this
        simp only [Bool.false_or, Bool.or_eq_true, Bool.not_eq_true', Bool.or_eq_false_iff] at this
        rcases this with ⟨w1, w2⟩ | ha
        · exact ⟨by rw [h2]; exact r5 w1 x o2 h2, (hreader w2 x o' hx).trans hx.symm⟩
        · exfalso
          unfold apartL at ha
          split at ha
          · rename_i la lb e1
            have m1 := r6 la e1 x o2 h2
            have m2 := (foot_get hx).2.2 lb rfl
            rw [List.all_eq_true] at ha
            have := ha x m1
            rw [List.all_eq_true] at this
            have := this x m2
            simp at this
          · cases ha
  · intro Q ρ w a K hs hsz hdf hwr hfr hK
    have hs' : ∀ t ∈ looksL all o, ∀ v, f.tmps.get t = some v → ∃ v', a.tmps[t]? = some v' ∧ VR ρ v v' := by
      intro t ht v hv
      rw [T.slot] at hv
      exact hs t ht v hv
    have hwant := wanted_rel hw hs'
    unfold Wp
    rw [hwant, if_pos rfl]
    exact hsem ρ w a (restr_rel (by rw [hsz, T.fn]) (by rw [T.defs]; exact hdf) hs') hwr hfr K Q hK
  · intro x o' hx
    simp only at hx ⊢
    rw [hmerge] at hx
    unfold It.upd at hx
    split at hx
    · rcases l4 x o' hx with ⟨o2, h2⟩ | h2
      · have := T.wf x o2 (foot_get h2).1; omega
      · omega
    · have := T.wf x o' hx; omega
  · refine ⟨l1, hm.1, fun x h1 h2 => ?_, fun x o' hx => ?_⟩
    · simp only at h2 ⊢
      rw [hmerge]
      unfold It.upd
      split
      · rename_i hd
        rcases hd with ⟨o2, hd⟩ | hd
        · simp only at hd ⊢
          rw [l3 x h1 (by omega), hd]
          exact ((foot_get hd).1).symm
        · simp only at hd; omega
      · rfl
    · simp only at hx ⊢
      rw [hmerge] at hx
      unfold It.upd at hx
      split at hx
      · rcases l4 x o' hx with ⟨o2, h2⟩ | h2
        · exact .inl ⟨o2, (foot_get h2).1⟩
        · exact .inr h2
      · exact .inl ⟨o', hx⟩
  · intro r hr
    cases noRec fp st.next st'.next with
    | true => exact hr
    | false => exact List.mem_cons_of_mem _ hr
  · cases hn : noRec fp st.next st'.next with
    | true =>
      left
      unfold noRec at hn
      split at hn
      · exact ⟨fun x => rfl, Nat.eq_of_beq_eq_true hn⟩
      · cases hn
    | false =>
      right
      exact ⟨_, List.mem_cons_self .., rfl, rfl, rfl, hreader, fun l hl x o' hx => (foot_get hx).2.2 l hl⟩
theorem draw_skip {P : Program} {all : List Oper} {f0 f : AFr} {st0 st : ASt} {its : Nat → It} {j : Nat} {recs : List Rec} {o : Oper} (T : Tra P all f0 st0 its j f st recs) (hsl : slotsOk all = true) (ho : all[j]? = some o)
    (hw : wantedA all f o = some false) : ∃ its', Tra P all f0 st0 its' (j + 1) (f.put o.dst undef) st recs := by
  refine ⟨_, Tra.step (i := ⟨st.next, st.next, fun _ => none, fun _ => none, effD f0.n o.dst, undef, looksL all o⟩) T hsl ho rfl (Nat.le_refl _) (fun x o' hx => by cases hx) (fun k hk hna x o' hx => by cases hx) rfl rfl ?_ ?_ rfl T.wf (LoS.refl _) (fun r hr => hr) (.inl ⟨fun _ => rfl, rfl⟩)⟩
  · intro Q ρ w a K hs hsz hdf hwr hfr hK
    have hs' : ∀ t ∈ looksL all o, ∀ v, f.tmps.get t = some v → ∃ v', a.tmps[t]? = some v' ∧ VR ρ v v' := by
      intro t ht v hv
      rw [T.slot] at hv
      exact hs t ht v hv
    unfold Wp
    rw [wanted_rel hw hs', if_neg (by simp)]
    exact hK ρ undef w (.tuple _ _ rfl (fun i x y hx => by simp at hx)) (Mv.refl hwr _)
  · refine upd_eq _ _ _ (fun x hd => ?_) (fun x hd => rfl)
    rcases hd with ⟨o', hd⟩ | hd
    · cases hd
    · simp only at hd; omega
/-- the whole walk of the one order -/
theorem draw_walk {P : Program} {self : Self} (hself : SelfS P self) {all : List Oper} {f0 : AFr} {st0 : ASt} (hsl : slotsOk all = true) : ∀ (l : List (Oper × Nat)) (j : Nat) (recs : List Rec) (f : AFr) (st : ASt) (its : Nat → It) (x : AX) (f' : AFr) (st' : ASt),
    (∀ (k : Nat) (o : Oper) (m : Nat), l[k]? = some (o, m) → all[j + k]? = some o ∧ m = maskOf all (j + k)) → Tra P all f0 st0 its j f st recs → evDraw P self all l j recs f st = .ok (x, f', st') →
    x = .normal ∧ ∃ its' recs', Tra P all f0 st0 its' (j + l.length) f' st' recs' := by
  intro l
  induction l with
  | nil =>
    intro j recs f st its x f' st' _ T h
    cases h
    exact ⟨rfl, its, recs, T⟩
  | cons p l ih =>
    intro j recs f st its x f' st' hl T h
    obtain ⟨o, m⟩ := p
    obtain ⟨ho, hm⟩ := hl 0 o m rfl
    simp only [Nat.add_zero] at ho hm
    subst hm
    have hl' : ∀ (k : Nat) (o : Oper) (m : Nat), l[k]? = some (o, m) → all[j + 1 + k]? = some o ∧ m = maskOf all (j + 1 + k) := by
      intro k o' m' hk
      have := hl (k + 1) o' m' (by simpa using hk)
      rw [show j + 1 + k = j + (k + 1) by omega]; exact this
    have hlen : j + (((o, maskOf all j) : Oper × Nat) :: l).length = j + 1 + l.length := by simp; omega
    rw [hlen]
    have step : ∀ (fp : Option (List Nat)) (v : Value) (st1 : ASt), wantedA all f o = some true → evVal P self ⟨f.n, restr f (looksL all o), f.defers⟩ ⟨st.next, footOf (maskOf all j) recs st.h fp, big⟩ o = .ok (v, st1) → (fp = none → st.next ≤ st1.lo) →
        (cond (freeOf (maskOf all j) recs (!(Nat.ble st.next st1.lo)) fp)
          (evDraw P self all l (j + 1) (cond (noRec fp st.next st1.next) recs (⟨j, st.next, st1.next, !(Nat.ble st.next st1.lo), fp⟩ :: recs)) (f.put o.dst v)
            ⟨st1.next, mergeOf (maskOf all j) recs st.h (footOf (maskOf all j) recs st.h fp) st1.h st.next st1.next fp, minN st.lo st1.lo⟩)
          (.er "draw: not apart" o.pos)) = .ok (x, f', st') → x = .normal ∧ ∃ its' recs', Tra P all f0 st0 its' (j + 1 + l.length) f' st' recs' := by
      intro fp v st1 hw he hfp hc
      obtain ⟨hfree, h1⟩ := cond_ok hc
      obtain ⟨its1, T1⟩ := draw_step hself T hsl ho hw he hfp hfree
      exact ih (j + 1) _ _ _ its1 x f' st' hl' T1 h1
    unfold evDraw at h
    simp only at h
    split at h
    · rename_i hw
      split at h
      · rename_i lst hfp
        split at h
        · rename_i v st1 he
          exact step (some lst) v st1 hw he (fun e => by cases e) h
        · cases h
      · split at h
        · rename_i v st1 he
          cases hb : Nat.ble st.next st1.lo with
          | true =>
            rw [hb] at h
            simp only [cond_true] at h
            exact step none v st1 hw he (fun _ => ble_le hb) (by rw [hb]; exact h)
          | false =>
            rw [hb] at h
            simp only [cond_false] at h
            split at h
            · rename_i v2 st2 he2
              exact step _ v2 st2 hw he2 (fun e => by cases e) h
            · cases h
        · cases h
    · rename_i hw
      obtain ⟨its1, T1⟩ := draw_skip T hsl ho hw
      exact ih (j + 1) _ _ _ its1 x f' st' hl' T1 h
    · cases h
theorem Tra.start (P : Program) (all : List Oper) (f : AFr) (st : ASt) (hwf : ∀ x o, st.h.get x = some o → x < st.next) (its : Nat → It) : Tra P all f st its 0 f st [] :=
  ⟨rfl, rfl, rfl, rfl, fun i h => by omega, ⟨fun k h => by omega, fun i j _ h => by omega, fun k h => by omega, fun k h => by omega, fun i j _ h => by omega, fun i j _ h => by omega⟩, fun i o h => by omega, fun i h => by omega, hwf, LoS.refl _⟩
end Go.Proofs.Ytokpobfimphhgaa.Ev
