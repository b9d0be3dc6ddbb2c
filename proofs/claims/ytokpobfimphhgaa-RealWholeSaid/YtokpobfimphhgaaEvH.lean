/-
  The checks that the evaluator makes of a region that draws its order, and what they give.
-/
import Derived.Test.YtokpobfimphhgaaEvF
import Derived.Test.YtokpobfimphhgaaEvG
import Derived.Orders
set_option linter.unusedVariables false
set_option linter.unusedSimpArgs false
namespace Go.Proofs.Ytokpobfimphhgaa.Ev
open Go

theorem hasBit_iff (m j : Nat) : hasBit m j = m.testBit j := by
  unfold hasBit Nat.testBit
  rw [Nat.and_comm, Nat.and_one_is_mod]
  rcases Nat.mod_two_eq_zero_or_one (m >>> j) with h | h <;> rw [h] <;> rfl
theorem bindsA_iff (e : Edge) : bindsA e = Region.binds .any e := by
  unfold bindsA Region.binds
  cases e.ground <;> rfl
theorem maskL_bit {k : Nat} : ∀ {es : List Edge} {acc : List Nat}, hasBit (maskL es acc) k = true → ∃ e ∈ es, bindsA e = true ∧ (k = e.on ∨ hasBit (acc.getD e.on 0) k = true) := by
  intro es
  induction es with
  | nil => intro acc h; simp [maskL, hasBit_iff] at h
  | cons e es ih =>
    intro acc h
    simp only [maskL] at h
    cases hb : bindsA e with
    | false =>
      rw [hb] at h
      obtain ⟨e', h1, h2⟩ := ih h
      exact ⟨e', by simp [h1], h2⟩
    | true =>
      rw [hb] at h
      simp only [cond_true] at h
      rw [hasBit_iff, Nat.testBit_or, Nat.testBit_or, Bool.or_eq_true, Bool.or_eq_true] at h
      rcases h with (h | h) | h
      · obtain ⟨e', h1, h2⟩ := ih (acc := acc) (by rw [hasBit_iff]; exact h)
        exact ⟨e', by simp [h1], h2⟩
      · have : e.on = k := by simpa [Nat.testBit_two_pow] using h
        exact ⟨e, by simp, hb, .inl this.symm⟩
      · exact ⟨e, by simp, hb, .inr (by rw [hasBit_iff]; exact h)⟩
/-- the masks, one by one -/
theorem ancL_spec : ∀ (l : List Oper) (acc : List Nat), (ancL l acc).length = acc.length + l.length ∧ (∀ i, i < acc.length → (ancL l acc)[i]? = acc[i]?) ∧
    ∀ (k : Nat) (o : Oper), l[k]? = some o → ∃ pre, pre.length = acc.length + k ∧ (∀ i, i < pre.length → (ancL l acc)[i]? = pre[i]?) ∧ (ancL l acc)[acc.length + k]? = some (maskL o.after.toList pre) := by
  intro l
  induction l with
  | nil => intro acc; exact ⟨by simp [ancL], fun i _ => rfl, fun k o h => by simp at h⟩
  | cons o l ih =>
    intro acc
    obtain ⟨h1, h2, h3⟩ := ih (acc ++ [maskL o.after.toList acc])
    simp only [ancL]
    refine ⟨by rw [h1]; simp; omega, fun i hi => ?_, fun k o' hk => ?_⟩
    · rw [h2 i (by simp; omega), List.getElem?_append_left hi]
    · cases k with
      | zero =>
        simp only [List.getElem?_cons_zero, Option.some.injEq] at hk
        subst hk
        refine ⟨acc, by simp, fun i hi => ?_, ?_⟩
        · rw [h2 i (by simp; omega), List.getElem?_append_left hi]
        · rw [h2 _ (by simp), List.getElem?_append_right (by omega)]; simp
      | succ k =>
        obtain ⟨pre, p1, p2, p3⟩ := h3 k o' (by simpa using hk)
        refine ⟨pre, by rw [p1]; simp; omega, p2, ?_⟩
        rw [← p3]
        congr 1
        simp; omega
def maskOf (all : List Oper) (j : Nat) : Nat := (ancL all []).getD j 0
def Anc (all : List Oper) (j i : Nat) : Prop := hasBit (maskOf all j) i = true
theorem anc_edge {all : List Oper} {j k : Nat} {o : Oper} (ho : all[j]? = some o) (h : Anc all j k) (hb : ∀ e ∈ o.after.toList, bindsA e = true → e.on < j) : ∃ e ∈ o.after.toList, bindsA e = true ∧ (k = e.on ∨ Anc all e.on k) := by
  obtain ⟨h1, h2, h3⟩ := ancL_spec all []
  obtain ⟨pre, p1, p2, p3⟩ := h3 j o ho
  simp only [List.length_nil, Nat.zero_add] at p1 p3
  unfold Anc maskOf at h ⊢
  rw [List.getD_eq_getElem?_getD, p3] at h
  obtain ⟨e, e1, e2, e3⟩ := maskL_bit (by simpa using h)
  refine ⟨e, e1, e2, ?_⟩
  rcases e3 with e3 | e3
  · exact .inl e3
  · right
    have := hb e e1 e2
    rw [List.getD_eq_getElem?_getD] at e3 ⊢
    rw [p2 e.on (by omega)]
    exact e3
theorem zip_get {all : List Oper} {j : Nat} {o : Oper} (ho : all[j]? = some o) : (all.zip (ancL all []))[j]? = some (o, maskOf all j) := by
  obtain ⟨h1, h2, h3⟩ := ancL_spec all []
  obtain ⟨pre, p1, p2, p3⟩ := h3 j o ho
  simp only [List.length_nil, Nat.zero_add] at p3
  rw [List.getElem?_zip_eq_some]
  exact ⟨ho, by unfold maskOf; rw [List.getD_eq_getElem?_getD, p3]; simp⟩
theorem backOk_spec {all : List Oper} : ∀ {n : Nat}, backOk all n = true → ∀ (j : Nat) (o : Oper), j < n → all[j]? = some o → (∀ e ∈ o.after.toList, bindsA e = true → e.on < j) ∧ (∀ cs b, o.op ≠ .select cs b) ∧ ∀ c, o.op ≠ .defer c := by
  intro n
  induction n with
  | zero => intro _ j o h; omega
  | succ n ih =>
    intro h j o hj ho
    simp only [backOk, Bool.and_eq_true] at h
    rcases Nat.lt_or_ge j n with hl | hl
    · exact ih h.2 j o hl ho
    · have : j = n := by omega
      subst this
      have h1 := h.1
      rw [ho] at h1
      simp only [Bool.and_eq_true, List.all_eq_true, Bool.or_eq_true, Bool.not_eq_true'] at h1
      refine ⟨fun e he hb => ?_, fun cs b e => ?_, fun c e => ?_⟩
      · rcases h1.1 e he with h2 | h2
        · rw [hb] at h2; cases h2
        · exact blt_lt h2
      · rw [e] at h1; simp at h1
      · rw [e] at h1; simp at h1
theorem anc_lt {all : List Oper} {n : Nat} (hb : backOk all n = true) : ∀ j, j < n → ∀ k, Anc all j k → k < j := by
  intro j
  induction j using Nat.strongRecOn with
  | _ j ih =>
    intro hj k h
    cases ho : all[j]? with
    | none =>
      exfalso
      obtain ⟨h1, _, _⟩ := ancL_spec all []
      unfold Anc maskOf at h
      rw [List.getD_eq_getElem?_getD, List.getElem?_eq_none (by rw [h1]; have := List.getElem?_eq_none_iff.1 ho; simpa using this)] at h
      simp [hasBit_iff] at h
    | some o =>
      have hbk := (backOk_spec hb j o hj ho).1
      obtain ⟨e, e1, e2, e3⟩ := anc_edge ho h hbk
      have := hbk e e1 e2
      rcases e3 with e3 | e3
      · omega
      · have := ih e.on (by omega) (by omega) k e3; omega
theorem hasN_iff (l : List Nat) (d : Option Nat) : hasN l d = true ↔ ∃ t, d = some t ∧ t ∈ l := by
  unfold hasN
  cases d with
  | none => simp
  | some d =>
    simp only [List.any_eq_true, Option.some.injEq, exists_eq_left']
    constructor
    · rintro ⟨x, h1, h2⟩
      have := Nat.eq_of_beq_eq_true h2
      subst this; exact h1
    · intro h; exact ⟨d, h, Nat.beq_refl d⟩
theorem sameD_iff (a b : Option Nat) : sameD a b = true ↔ ∃ t, a = some t ∧ b = some t := by
  unfold sameD
  split
  · rename_i x y
    constructor
    · intro h; have := Nat.eq_of_beq_eq_true h; subst this; exact ⟨x, rfl, rfl⟩
    · rintro ⟨t, h1, h2⟩; cases h1; cases h2; exact Nat.beq_refl _
  · rename_i hne
    constructor
    · intro h; cases h
    · rintro ⟨t, h1, h2⟩; exact absurd h2 (by subst h1; intro h3; exact hne t t rfl h3)
theorem slotsGo_spec {ops : List Oper} : ∀ {l : List (Oper × Nat)} {seen : List (Nat × List Nat × Option Nat)} {j0 : Nat}, slotsGo ops l seen j0 = true →
    (∀ (k : Nat) (o : Oper) (m : Nat), l[k]? = some (o, m) → ∀ r ∈ seen, hasBit m r.1 = true ∨ (¬ hasN (looksL ops o) r.2.2 = true ∧ ¬ hasN r.2.1 o.dst = true ∧ ¬ sameD o.dst r.2.2 = true)) ∧
    ∀ (i k : Nat) (oi : Oper) (mi : Nat) (o : Oper) (m : Nat), i < k → l[i]? = some (oi, mi) → l[k]? = some (o, m) → hasBit m (j0 + i) = true ∨ (¬ hasN (looksL ops o) oi.dst = true ∧ ¬ hasN (looksL ops oi) o.dst = true ∧ ¬ sameD o.dst oi.dst = true) := by
  intro l
  induction l with
  | nil => intro seen j0 _; exact ⟨fun k o m h => by simp at h, fun i k oi mi o m _ h => by simp at h⟩
  | cons p l ih =>
    intro seen j0 h
    obtain ⟨o0, m0⟩ := p
    simp only [slotsGo, Bool.and_eq_true] at h
    obtain ⟨h1, h2⟩ := h
    obtain ⟨i1, i2⟩ := ih h2
    have key : ∀ r ∈ seen, hasBit m0 r.1 = true ∨ (¬ hasN (looksL ops o0) r.2.2 = true ∧ ¬ hasN r.2.1 o0.dst = true ∧ ¬ sameD o0.dst r.2.2 = true) := by
      intro r hr
      rw [List.all_eq_true] at h1
      have := h1 r hr
      rw [Bool.or_eq_true] at this
      rcases this with h | h
      · exact .inl h
      · right
        simp only [Bool.not_eq_true', Bool.or_eq_false_iff] at h
        exact ⟨by rw [h.1.1]; simp, by rw [h.1.2]; simp, by rw [h.2]; simp⟩
    refine ⟨fun k o m hk r hr => ?_, fun i k oi mi o m hik hi hk => ?_⟩
    · cases k with
      | zero => simp at hk; obtain ⟨rfl, rfl⟩ := hk; exact key r hr
      | succ k => exact i1 k o m (by simpa using hk) r (by simp [hr])
    · cases k with
      | zero => omega
      | succ k =>
        cases i with
        | zero =>
          simp at hi; obtain ⟨rfl, rfl⟩ := hi
          exact i1 k o m (by simpa using hk) (j0, looksL ops o0, o0.dst) (by simp)
        | succ i =>
          have := i2 i k oi mi o m (by omega) (by simpa using hi) (by simpa using hk)
          rw [show j0 + (i + 1) = j0 + 1 + i by omega]
          exact this
/-- what 'slotsOk' gives -/
theorem slotsOk_spec {all : List Oper} (h : slotsOk all = true) : backOk all all.length = true ∧
    ∀ (i j : Nat) (oi oj : Oper), i < j → all[i]? = some oi → all[j]? = some oj → ¬ Anc all j i → (∀ t, oi.dst = some t → t ∉ looksL all oj ∧ oj.dst ≠ some t) ∧ ∀ t, oj.dst = some t → t ∉ looksL all oi := by
  unfold slotsOk at h
  simp only [Bool.and_eq_true] at h
  refine ⟨h.2, fun i j oi oj hij hi hj hna => ?_⟩
  have := (slotsGo_spec h.1).2 i j oi _ oj _ hij (zip_get hi) (zip_get hj)
  rw [Nat.zero_add] at this
  rcases this with h1 | ⟨h1, h2, h3⟩
  · exact absurd h1 hna
  · refine ⟨fun t ht => ⟨fun hm => h1 ((hasN_iff _ _).2 ⟨t, ht, hm⟩), fun he => h3 ((sameD_iff _ _).2 ⟨t, he, ht⟩)⟩, fun t ht hm => h2 ((hasN_iff _ _).2 ⟨t, ht, hm⟩)⟩
end Go.Proofs.Ytokpobfimphhgaa.Ev
