/-
  Rows as lists of data; functions of such rows.
-/
import Derived.Test.YtncndnlbiijdoaaLaw
set_option linter.unusedVariables false
set_option linter.unusedSimpArgs false
namespace Go.Proofs.Ytncndnlbiijdoaa.Ev
open Go Go.RowKit

/-- data that lie in cells -/
class Enc (α : Type) where
  es : Nat
  enc : α → Nat → Td
  dec : (Nat → Td) → α
  ok : (Nat → Td) → Bool
  dflt : α
  good : (Nat → Td) → Prop
  okgood : ∀ c, ok c = true → good c
  law : ∀ (c : Nat → Td), good c → ∀ (w : World) F j y, j < es → TR w F (c j) y → TR w F (enc (dec c) j) y
  back : ∀ a, dec (enc a) = a
  mrg : ∀ (a b : α) (w : World) F j y, j < es → (TR w F (mrgT true (enc a j) (enc b j)) y → TR w F (enc a j) y) ∧ (TR w F (mrgT false (enc a j) (enc b j)) y → TR w F (enc b j) y)
def encL {α : Type} [Enc α] (l : List α) (i j : Nat) : Td := Enc.enc (l.getD i Enc.dflt) j
def decL {α : Type} [Enc α] (n : Nat) (e : Nat → Nat → Td) : List α := (List.range n).map fun i => Enc.dec (e i)
def okL (α : Type) [Enc α] (n : Nat) (e : Nat → Nat → Td) : Bool := (List.range n).all fun i => Enc.ok α (e i)
def tdL {α : Type} [Enc α] (l : List α) (c : Nat) : Td := .fr (Enc.es α) l.length c (encL l)
def okT (α : Type) [Enc α] (t : Td) : Bool := match t with
  | .fr es n c e => (Nat.beq es (Enc.es α) && okL α n e && Nat.ble c 1 && Nat.ble n 1000000) || (Nat.beq n 0 && Nat.beq c 1)
  | _ => false
def listT (α : Type) [Enc α] (t : Td) : List α := match t with
  | .fr _ n _ e => decL n e
  | _ => []
def nilT (t : Td) : Nat := match t with
  | .fr _ _ c _ => c
  | _ => 0
def okA (α : Type) [Enc α] (a : α) : Bool := Enc.ok α (Enc.enc a)
theorem decL_encL {α : Type} [Enc α] (l : List α) : decL l.length (encL l) = l := by
  apply List.ext_getElem?
  intro i
  unfold decL
  rw [List.getElem?_map]
  rcases Nat.lt_or_ge i l.length with h | h
  · rw [List.getElem?_range h]
    simp only [Option.map_some]
    have : Enc.dec (encL l i) = l.getD i Enc.dflt := Enc.back _
    rw [this]
    simp [List.getD, h]
  · rw [List.getElem?_eq_none (by simpa using h), List.getElem?_eq_none h]; rfl
theorem decL_len {α : Type} [Enc α] (n : Nat) (e : Nat → Nat → Td) : (decL n e : List α).length = n := by simp [decL]
theorem decL_get {α : Type} [Enc α] {n : Nat} {e : Nat → Nat → Td} {i : Nat} (h : i < n) : (decL n e : List α).getD i Enc.dflt = Enc.dec (e i) := by
  simp [decL, List.getD, List.getElem?_map, List.getElem?_range h]
theorem okL_at {α : Type} [Enc α] {n : Nat} {e : Nat → Nat → Td} (h : okL α n e = true) {i : Nat} (hi : i < n) : Enc.ok α (e i) = true := by
  unfold okL at h
  rw [List.all_eq_true] at h
  exact h i (List.mem_range.2 hi)
theorem okL_of {α : Type} [Enc α] {n : Nat} {e : Nat → Nat → Td} (h : ∀ i, i < n → Enc.ok α (e i) = true) : okL α n e = true := by
  unfold okL
  rw [List.all_eq_true]
  exact fun i hi => h i (List.mem_range.1 hi)
theorem okL_encL {α : Type} [Enc α] {l : List α} (h : l.all (okA α) = true) : okL α l.length (encL l) = true := okL_of fun i hi => by
  rw [List.all_eq_true] at h
  have := h (l.getD i Enc.dflt) (by simp [List.getD, hi])
  exact this
theorem okL_all {α : Type} [Enc α] {n : Nat} {e : Nat → Nat → Td} (hb : ∀ c, Enc.ok α c = true → okA α (Enc.dec c) = true) (h : okL α n e = true) : (decL n e : List α).all (okA α) = true := by
  rw [List.all_eq_true]
  intro a ha
  obtain ⟨i, hi, rfl⟩ := List.mem_map.1 ha
  exact hb _ (okL_at h (List.mem_range.1 hi))
theorem encL_app_lt {α : Type} [Enc α] (l m : List α) {i : Nat} (h : i < l.length) (j : Nat) : encL (l ++ m) i j = encL l i j := by
  simp [encL, List.getD, List.getElem?_append_left h]
theorem encL_app_ge {α : Type} [Enc α] (l m : List α) {i : Nat} (h : l.length ≤ i) (j : Nat) : encL (l ++ m) i j = encL m (i - l.length) j := by
  simp [encL, List.getD, List.getElem?_append_right h]
theorem TRo.congr {w : World} {F : Nat → Prop} {es n c : Nat} {e e' : Nat → Nat → Td} {y : Value} (he : ∀ i, i < n → ∀ j, j < es → ∀ z, TR w F (e i j) z → TR w F (e' i j) z) (h : TRo w F (.fr es n c e) y) : TRo w F (.fr es n c e') y := by
  rcases h with h | h | ⟨h0, b, o, c', h1, h2, h3, h4⟩
  · exact .inl h
  · exact .inr (.inl h)
  · refine .inr (.inr ⟨h0, b, o, c', h1, h2, h3, fun i hi j hj => ?_⟩)
    obtain ⟨z, z1, z2, z3⟩ := h4 i hi j hj
    exact ⟨z, z1, z2, he i hi j hj z z3⟩
theorem TR.congr {w : World} {F : Nat → Prop} {es n c : Nat} {e e' : Nat → Nat → Td} {y : Value} (he : ∀ i, i < n → ∀ j, j < es → ∀ z, TR w F (e i j) z → TR w F (e' i j) z) (h : TR w F (.fr es n c e) y) : TR w F (.fr es n c e') y := by
  rcases h with h | h | ⟨h0, b, o, c', h1, h2, h3, h4⟩
  · exact .inl h
  · exact .inr (.inl h)
  · refine .inr (.inr ⟨h0, b, o, c', h1, h2, h3, fun i hi j hj => ?_⟩)
    obtain ⟨z, z1, z2, z3⟩ := h4 i hi j hj
    exact ⟨z, z1, z2, he i hi j hj z z3⟩
theorem encL_decL {α : Type} [Enc α] {n : Nat} {e : Nat → Nat → Td} (h : okL α n e = true) {w : World} {F : Nat → Prop} : ∀ i, i < n → ∀ j, j < Enc.es α → ∀ z, TR w F (e i j) z → TR w F (encL (decL n e : List α) i j) z := fun i hi j hj z hz => by
  unfold encL
  rw [decL_get hi]
  exact Enc.law _ (Enc.okgood _ (okL_at h hi)) w F j z hj hz
/-- a slice of such data, however long -/
def goodT (α : Type) [Enc α] (t : Td) : Prop := match t with
  | .fr es n c e => (es = Enc.es α ∧ (∀ i, i < n → Enc.good α (e i)) ∧ c ≤ 1) ∨ (n = 0 ∧ c = 1)
  | _ => False
theorem goodT_TR {α : Type} [Enc α] {t : Td} (h : goodT α t) {w : World} {F : Nat → Prop} {y : Value} (ht : TR w F t y) : TR w F (tdL (listT α t) (nilT t)) y := by
  cases t with
  | sc x => exact h.elim
  | fr es n c e =>
    show TR w F (.fr (Enc.es α) (decL n e : List α).length c (encL (decL n e : List α))) y
    rw [decL_len]
    rcases h with ⟨rfl, h2, h3⟩ | ⟨rfl, rfl⟩
    · refine ht.congr fun i hi j hj z hz => ?_
      unfold encL
      rw [decL_get hi]
      exact Enc.law _ (h2 i hi) w F j z hj hz
    · rcases ht with ht | ht | ht
      · exact .inl ht
      · exact absurd ht.2.1 (by simp)
      · exact absurd ht.1 (by simp)
theorem goodT_nil {α : Type} [Enc α] {t : Td} (h : goodT α t) : nilT t ≤ 1 := by
  cases t with
  | sc x => exact h.elim
  | fr es n c e =>
    show c ≤ 1
    rcases h with ⟨_, _, h3⟩ | ⟨rfl, rfl⟩
    · exact h3
    · exact Nat.le_refl _
theorem okT_good {α : Type} [Enc α] {t : Td} (h : okT α t = true) : goodT α t := by
  cases t with
  | sc x => cases h
  | fr es n c e =>
    simp only [okT, Bool.or_eq_true, Bool.and_eq_true] at h
    rcases h with ⟨⟨⟨h1, h2⟩, h3⟩, h4⟩ | ⟨h1, h2⟩
    · exact .inl ⟨Nat.eq_of_beq_eq_true h1, fun i hi => Enc.okgood _ (okL_at h2 hi), Nat.le_of_ble_eq_true h3⟩
    · exact .inr ⟨Nat.eq_of_beq_eq_true h1, Nat.eq_of_beq_eq_true h2⟩
theorem goodT_of {α : Type} [Enc α] {sh : Nat → Sh} {n cc : Nat} {el : Nat → Nat → Td} (hs : ∀ c : Nat → Td, (∀ j, j < Enc.es α → ShOk (sh j) (c j)) → Enc.good α c) (h : ShOk (.sl (Enc.es α) sh) (.fr (Enc.es α) n cc el)) : goodT α (.fr (Enc.es α) n cc el) := .inl ⟨rfl, fun i hi => hs _ fun j hj => h.2.2.2 i hi j hj, h.2.1⟩
theorem goodT_sh {α : Type} [Enc α] {sh : Nat → Sh} {t : Td} (hs : ∀ c : Nat → Td, (∀ j, j < Enc.es α → ShOk (sh j) (c j)) → Enc.good α c) (h : ShOk (.sl (Enc.es α) sh) t) : goodT α t := by
  cases t with
  | sc x => exact h.elim
  | fr es n cc el =>
    have he : es = Enc.es α := h.1
    subst he
    exact goodT_of hs h
/-- of what each of such data is -/
theorem goodT_all {α : Type} [Enc α] {p : α → Prop} (hp : ∀ c, Enc.good α c → p (Enc.dec c)) {t : Td} (h : goodT α t) : ∀ a ∈ (listT α t), p a := by
  cases t with
  | sc x => exact h.elim
  | fr es n c e =>
    intro a ha
    obtain ⟨i, hi, rfl⟩ := List.mem_map.1 (show a ∈ (decL n e : List α) from ha)
    have hi := List.mem_range.1 hi
    rcases h with ⟨_, h2, _⟩ | ⟨rfl, rfl⟩
    · exact hp _ (h2 i hi)
    · omega
/-- part of a row -/
theorem decL_take {α : Type} [Enc α] (l : List α) {k : Nat} (h : k ≤ l.length) : decL k (encL l) = l.take k := by
  apply List.ext_getElem?
  intro i
  unfold decL
  rw [List.getElem?_map, List.getElem?_take]
  rcases Nat.lt_or_ge i k with hi | hi
  · rw [List.getElem?_range hi, if_pos hi]
    simp only [Option.map_some]
    have : Enc.dec (encL l i) = l.getD i Enc.dflt := Enc.back _
    rw [this]
    simp [List.getD, show i < l.length by omega]
  · rw [List.getElem?_eq_none (by simpa using hi), if_neg (by omega)]; rfl
theorem decL_drop {α : Type} [Enc α] (l : List α) {k n : Nat} (h : k + n = l.length) : decL n (fun i => encL l (k + i)) = l.drop k := by
  apply List.ext_getElem?
  intro i
  unfold decL
  rw [List.getElem?_map, List.getElem?_drop]
  rcases Nat.lt_or_ge i n with hi | hi
  · rw [List.getElem?_range hi]
    simp only [Option.map_some]
    have : Enc.dec (encL l (k + i)) = l.getD (k + i) Enc.dflt := Enc.back _
    rw [this]
    simp [List.getD, show k + i < l.length by omega]
  · rw [List.getElem?_eq_none (by simpa using hi), List.getElem?_eq_none (by omega)]; rfl
theorem okL_take {α : Type} [Enc α] {l : List α} (hl : l.all (okA α) = true) {k n : Nat} (h : k + n ≤ l.length) : okL α n (fun i => encL l (k + i)) = true := okL_of fun i hi => by
  rw [List.all_eq_true] at hl
  exact hl (l.getD (k + i) Enc.dflt) (by simp [List.getD, show k + i < l.length by omega])
theorem okT_TR {α : Type} [Enc α] {t : Td} (h : okT α t = true) {w : World} {F : Nat → Prop} {y : Value} (ht : TR w F t y) : TR w F (tdL (listT α t) (nilT t)) y := by
  cases t with
  | sc x => cases h
  | fr es n c e =>
    simp only [okT, Bool.or_eq_true, Bool.and_eq_true] at h
    show TR w F (.fr (Enc.es α) (decL n e : List α).length c (encL (decL n e : List α))) y
    rw [decL_len]
    rcases h with ⟨⟨⟨h1, h2⟩, h3⟩, h4⟩ | ⟨h1, h2⟩
    · have := Nat.eq_of_beq_eq_true h1
      subst this
      exact ht.congr (encL_decL h2)
    · have h1 := Nat.eq_of_beq_eq_true h1
      have h2 := Nat.eq_of_beq_eq_true h2
      subst h1 h2
      rcases ht with ht | ht | ht
      · exact .inl ht
      · exact absurd ht.2.1 (by simp)
      · exact absurd ht.1 (by simp)
theorem okT_TRo {α : Type} [Enc α] {t : Td} (h : okT α t = true) {w : World} {F : Nat → Prop} {y : Value} (ht : TRo w F t y) : TRo w F (tdL (listT α t) (nilT t)) y := by
  cases t with
  | sc x => cases h
  | fr es n c e =>
    simp only [okT, Bool.or_eq_true, Bool.and_eq_true] at h
    show TRo w F (.fr (Enc.es α) (decL n e : List α).length c (encL (decL n e : List α))) y
    rw [decL_len]
    rcases h with ⟨⟨⟨h1, h2⟩, h3⟩, h4⟩ | ⟨h1, h2⟩
    · have := Nat.eq_of_beq_eq_true h1
      subst this
      exact ht.congr (encL_decL h2)
    · have h1 := Nat.eq_of_beq_eq_true h1
      have h2 := Nat.eq_of_beq_eq_true h2
      subst h1 h2
      rcases ht with ht | ht | ht
      · exact .inl ht
      · exact absurd ht.2.1 (by simp)
      · exact absurd ht.1 (by simp)
theorem okT_len {α : Type} [Enc α] {t : Td} (h : okT α t = true) : (listT α t).length ≤ 1000000 ∧ nilT t ≤ 1 := by
  cases t with
  | sc x => cases h
  | fr es n c e =>
    simp only [okT, Bool.or_eq_true, Bool.and_eq_true] at h
    show (decL n e : List α).length ≤ 1000000 ∧ c ≤ 1
    rw [decL_len]
    rcases h with ⟨⟨⟨h1, h2⟩, h3⟩, h4⟩ | ⟨h1, h2⟩
    · exact ⟨Nat.le_of_ble_eq_true h4, Nat.le_of_ble_eq_true h3⟩
    · have h1 := Nat.eq_of_beq_eq_true h1
      have h2 := Nat.eq_of_beq_eq_true h2
      omega
theorem okT_tdL {α : Type} [Enc α] {l : List α} {c : Nat} (h : l.all (okA α) = true) (hl : l.length ≤ 1000000) (hc : c ≤ 1) : okT α (tdL l c) = true := by
  simp only [tdL, okT, Bool.or_eq_true, Bool.and_eq_true]
  exact .inl ⟨⟨⟨Nat.beq_refl _, okL_encL h⟩, Nat.ble_eq_true_of_le hc⟩, Nat.ble_eq_true_of_le hl⟩
theorem listT_tdL {α : Type} [Enc α] (l : List α) (c : Nat) : listT α (tdL l c) = l := decL_encL l
theorem nilT_tdL {α : Type} [Enc α] (l : List α) (c : Nat) : nilT (tdL l c) = c := rfl
theorem okT_all {α : Type} [Enc α] {t : Td} (hb : ∀ c, Enc.ok α c = true → okA α (Enc.dec c) = true) (h : okT α t = true) : (listT α t).all (okA α) = true := by
  cases t with
  | sc x => cases h
  | fr es n c e =>
    simp only [okT, Bool.or_eq_true, Bool.and_eq_true] at h
    rcases h with ⟨⟨⟨h1, h2⟩, h3⟩, h4⟩ | ⟨h1, h2⟩
    · exact okL_all hb h2
    · have h1 := Nat.eq_of_beq_eq_true h1
      subst h1
      rfl
/-- one of two rows -/
theorem mrgL_true' {α : Type} [Enc α] (h0 : Enc.es α ≠ 0) {l m : List α} {c d : Nat} {w : World} {F : Nat → Prop} {y : Value} (h : TR w F (mrgT true (.fr (Enc.es α) l.length c (encL l)) (.fr (Enc.es α) m.length d (encL m))) y) : TR w F (.fr (Enc.es α) l.length c (encL l)) y := by
  have hs : sameEs (Enc.es α) l.length (Enc.es α) m.length = true := by simp [sameEs, Nat.beq_refl]
  simp only [mrgT, hs, cond_true, beq_false h0, cond_false] at h
  exact h.congr fun i hi j hj z hz => (Enc.mrg _ _ w F j z hj).1 hz
theorem mrgL_false' {α : Type} [Enc α] (h0 : Enc.es α ≠ 0) {l m : List α} {c d : Nat} {w : World} {F : Nat → Prop} {y : Value} (h : TR w F (mrgT false (.fr (Enc.es α) l.length c (encL l)) (.fr (Enc.es α) m.length d (encL m))) y) : TR w F (.fr (Enc.es α) m.length d (encL m)) y := by
  have hs : sameEs (Enc.es α) l.length (Enc.es α) m.length = true := by simp [sameEs, Nat.beq_refl]
  simp only [mrgT, hs, cond_true, beq_false h0, cond_false] at h
  exact h.congr fun i hi j hj z hz => (Enc.mrg _ _ w F j z hj).2 hz
theorem ObjR.row_TR {ρ : Rho} {k : Rk} {es lo n n' : Nat} {e e' : Nat → Nat → Td} {s : Spot} {w : World} (hn : n' = n) (he : ∀ i, lo ≤ i → i < n → ∀ j, j < es → ∀ F y, TR w F (e i j) y → TR w F (e' i j) y) (h : ObjR ρ (.row k es lo n e) s w) : ObjR ρ (.row k es lo n' e') s w := by
  subst hn
  obtain ⟨k1, k2, k3, kz, k4⟩ := h
  refine ⟨k1, k2, k3, kz, fun i h1 h2 j hj => ?_⟩
  obtain ⟨y, y1, y2, y3⟩ := k4 i h1 h2 j hj
  exact ⟨y, y1, y2, he i h1 h2 j hj _ _ y3⟩
theorem getD_app_lt {α : Type} (l m : List α) (d : α) {i : Nat} (h : i < l.length) : (l ++ m).getD i d = l.getD i d := by simp [List.getD, List.getElem?_append_left h]
theorem getD_app_ge {α : Type} (l m : List α) (d : α) {i : Nat} (h : l.length ≤ i) : (l ++ m).getD i d = m.getD (i - l.length) d := by simp [List.getD, List.getElem?_append_right h]
/-- a row with one more behind it -/
theorem row_app {α : Type} [Enc α] {k : Rk} {l : List α} {a : α} {ts : List Td} {es n : Nat} {g : Nat → Nat → Td} {ρ : Rho} {s : Spot} {w : World} (hes : es = Enc.es α) (hn : n = l.length) (hg : ∀ i j, g i j = encL l i j) (h : ∀ j, j < Enc.es α → nthT ts j = Enc.enc a j)
    (ho : ObjR ρ (.row k es 0 (n + 1) fun i j => mrgT (Nat.blt i n) (g (0 + i) j) (selT es 1 ts (i - n) j)) s w) : ObjR ρ (.row k (Enc.es α) 0 (l ++ [a]).length (encL (l ++ [a]))) s w := by
  subst hes hn
  refine ho.row_TR (by simp) fun i _ hi j hj F y ht => ?_
  have e1 : selT (Enc.es α) 1 ts (i - l.length) j = Enc.enc a j := h j hj
  rw [e1, hg, Nat.zero_add] at ht
  by_cases hil : i < l.length
  · have hb : Nat.blt i l.length = true := by simpa using hil
    rw [hb] at ht
    show TR w F (Enc.enc ((l ++ [a]).getD i Enc.dflt) j) y
    rw [getD_app_lt _ _ _ hil]
    exact (Enc.mrg _ _ w F j y hj).1 ht
  · rw [blt_false hil] at ht
    have : i = l.length := by omega
    subst this
    show TR w F (Enc.enc ((l ++ [a]).getD l.length Enc.dflt) j) y
    rw [getD_app_ge _ _ _ (Nat.le_refl _), Nat.sub_self]
    exact (Enc.mrg _ _ w F j y hj).2 ht
theorem take_succ {α : Type} {l : List α} {k : Nat} (h : k < l.length) (d : α) : l.take (k + 1) = l.take k ++ [l.getD k d] := by
  rw [List.take_add_one]
  simp [List.getD, h]
/-- objects one by one -/
theorem Seen.two {β : Bs} {f : AFr} {a b a' b' : AObj} (ha : a.isOwn = a'.isOwn) (hb : b.isOwn = b'.isOwn) (h1 : ∀ ρ s w, ObjR ρ a s w → ObjR ρ a' s w) (h2 : ∀ ρ s w, ObjR ρ b s w → ObjR ρ b' s w) : Seen β f (mkS [some a, some b]) f (mkS [some a', some b']) :=
  Seen.objs rfl fun i o2 h => match i with
    | 0 => by cases h; exact ⟨a, rfl, ha, h1⟩
    | 1 => by cases h; exact ⟨b, rfl, hb, h2⟩
    | _ + 2 => by cases h
theorem Seen.three {β : Bs} {f : AFr} {a b c a' b' c' : AObj} (ha : a.isOwn = a'.isOwn) (hb : b.isOwn = b'.isOwn) (hc : c.isOwn = c'.isOwn) (h1 : ∀ ρ s w, ObjR ρ a s w → ObjR ρ a' s w) (h2 : ∀ ρ s w, ObjR ρ b s w → ObjR ρ b' s w) (h3 : ∀ ρ s w, ObjR ρ c s w → ObjR ρ c' s w) : Seen β f (mkS [some a, some b, some c]) f (mkS [some a', some b', some c']) :=
  Seen.objs rfl fun i o2 h => match i with
    | 0 => by cases h; exact ⟨a, rfl, ha, h1⟩
    | 1 => by cases h; exact ⟨b, rfl, hb, h2⟩
    | 2 => by cases h; exact ⟨c, rfl, hc, h3⟩
    | _ + 3 => by cases h
/-- a row of one's own -/
def ownL {α : Type} [Enc α] (l : List α) (c : Nat) : Ra := .own (Enc.es α) l.length c (encL l)
def rowO {α : Type} [Enc α] (k : Rk) (l : List α) : AObj := .row k (Enc.es α) 0 l.length (encL l)

/-! ### functions of one row, of two -/
def LawOf (P : Program) (g : FuncId) (args : List Value) (objs : List (Option AObj)) (a : Ans) : Prop := ∃ (C : Told) (fuel n : Nat) (un : Nat → Nat) (lvs : Nat → List Nat) (ex : Nat → Kt → Prop), ToldS P C ∧ ∀ β : Bs, β.X.length = objs.length → lawE P C fuel n β un (cnOf objs.length lvs) ex g args (mkS objs) (ansE a)
def ok1 (α : Type) [Enc α] (p : List α → Nat → Bool) (ts : List Ta) : Bool := match ts with
  | [.cell t] => okT α t && p (listT α t) (nilT t)
  | _ => false
def ans1 (α : Type) [Enc α] (A : List α → Nat → Ans) (ts : List Ta) : Ans := match ts with
  | [.cell t] => A (listT α t) (nilT t)
  | _ => .pan .nilIface
theorem told1 {P : Program} {g : FuncId} {α : Type} [Enc α] {p : List α → Nat → Bool} {A : List α → Nat → Ans} (hm : P.follows .mixedOrders = true)
    (h : ∀ (l : List α) (c : Nat), l.length ≤ 1000000 → c ≤ 1 → p l c = true → LawOf P g [.slice (some ⟨0, 0, some 0⟩) l.length c] [some (rowO .look l)] (A l c)) : ToldW P g (ok1 α p) (ans1 α A) := by
  intro ts hok w args' F hF ha
  unfold ok1 at hok
  split at hok
  · rename_i t
    simp only [Bool.and_eq_true] at hok
    obtain ⟨h1, h2⟩ := okT_len hok.1
    obtain ⟨y, m, e, hy, hm'⟩ := ha.uncons
    have := hm'.nil_inv
    subst this
    have ha' : PW (TaR w F) [.cell (tdL (listT α t) (nilT t))] args'.toList := by rw [e]; exact PW.cons (okT_TRo hok.1 hy) (PW.nil _)
    exact toldW_at (ts := [.cell (tdL (listT α t) (nilT t))]) hm (h _ _ h1 h2 hok.2) w args' F hF ha'
  · cases hok
def ok2 (α β : Type) [Enc α] [Enc β] (p : List α → Nat → List β → Nat → Bool) (ts : List Ta) : Bool := match ts with
  | [.cell t, .cell u] => okT α t && okT β u && p (listT α t) (nilT t) (listT β u) (nilT u)
  | _ => false
def ans2 (α β : Type) [Enc α] [Enc β] (A : List α → Nat → List β → Nat → Ans) (ts : List Ta) : Ans := match ts with
  | [.cell t, .cell u] => A (listT α t) (nilT t) (listT β u) (nilT u)
  | _ => .pan .nilIface
theorem told2 {P : Program} {g : FuncId} {α β : Type} [Enc α] [Enc β] {p : List α → Nat → List β → Nat → Bool} {A : List α → Nat → List β → Nat → Ans} (hm : P.follows .mixedOrders = true)
    (h : ∀ (l : List α) (c : Nat) (m : List β) (d : Nat), l.length ≤ 1000000 → c ≤ 1 → m.length ≤ 1000000 → d ≤ 1 → p l c m d = true → LawOf P g [.slice (some ⟨0, 0, some 0⟩) l.length c, .slice (some ⟨1, 0, some 0⟩) m.length d] [some (rowO .look l), some (rowO .look m)] (A l c m d)) : ToldW P g (ok2 α β p) (ans2 α β A) := by
  intro ts hok w args' F hF ha
  unfold ok2 at hok
  split at hok
  · rename_i t u
    simp only [Bool.and_eq_true] at hok
    obtain ⟨⟨o1, o2⟩, o3⟩ := hok
    obtain ⟨h1, h2⟩ := okT_len o1
    obtain ⟨h3, h4⟩ := okT_len o2
    obtain ⟨y, m, e, hy, hm'⟩ := ha.uncons
    obtain ⟨z, m', rfl, hz, hm2⟩ := hm'.uncons
    have := hm2.nil_inv
    subst this
    have ha' : PW (TaR w F) [.cell (tdL (listT α t) (nilT t)), .cell (tdL (listT β u) (nilT u))] args'.toList := by rw [e]; exact PW.cons (okT_TRo o1 hy) (PW.cons (okT_TRo o2 hz) (PW.nil _))
    exact toldW_at (ts := [.cell (tdL (listT α t) (nilT t)), .cell (tdL (listT β u) (nilT u))]) hm (h _ _ _ _ h1 h2 h3 h4 o3) w args' F hF ha'
  · cases hok
/-! ### slices.Clone -/
def okC (es : Nat) (ts : List Ta) : Bool := match ts with
  | [.cell (.fr es' n c e)] => (Nat.beq es' es || (Nat.beq n 0 && Nat.beq c 1)) && Nat.ble n 1000000 && Nat.ble c 1
  | _ => false
def ansC (es : Nat) (ts : List Ta) : Ans := match ts with
  | [.cell (.fr _ n c e)] => .ret (.cell (.own es n c e))
  | _ => .pan .nilIface
theorem clone_told {P : Program} {g : FuncId} {es : Nat} (hm : P.follows .mixedOrders = true)
    (hk : ∀ (n c : Nat) (f : Nat → Nat → Td) (β : Bs) (K : AE → ASt → Prop), lawE P noTold 100 20 β (fun _ => 0) (cnOf 1 fun _ => []) (fun _ _ => False) g [.slice (some ⟨0, 0, some 0⟩) n c] (mkS [some (.row .look es 0 n f)]) K =
      br ((Nat.beq n 0 && Nat.beq c 1) == true) (K (.returned (.slice none 0 0)) (mkS [some (.row .look es 0 n f)])) (need (Nat.ble 0 0 && Nat.ble (0 + n) n) (need (Nat.ble (0 + n) 1000000)
        (K (.returned (.slice (some ⟨2, 0, some 0⟩) n 0)) (((mkS [some (.row .look es 0 n f)]).new (.cells [] true es)).new (.row .mine es 0 n fun j => f (0 + j)))))))
    (hk0 : ∀ (es' : Nat) (f : Nat → Nat → Td) (β : Bs) (K : AE → ASt → Prop), lawE P noTold 100 20 β (fun _ => 0) (cnOf 1 fun _ => []) (fun _ _ => False) g [.slice (some ⟨0, 0, some 0⟩) 0 1] (mkS [some (.row .look es' 0 0 f)]) K = K (.returned (.slice none 0 0)) (mkS [some (.row .look es' 0 0 f)])) : ToldW P g (okC es) (ansC es) := by
  intro ts hok w args' F hF ha
  unfold okC at hok
  split at hok
  · rename_i es' n c e
    simp only [Bool.and_eq_true] at hok
    obtain ⟨⟨h1, h2⟩, h3⟩ := hok
    have h2 := Nat.le_of_ble_eq_true h2
    refine toldW_at hm ⟨noTold, 100, 20, fun _ => 0, fun _ => [], fun _ _ => False, noTold_ok P, fun β hβ => ?_⟩ w args' F hF ha
    by_cases h0 : n = 0 ∧ c = 1
    · obtain ⟨rfl, rfl⟩ := h0
      show lawE P noTold 100 20 β (fun _ => 0) (cnOf 1 fun _ => []) (fun _ _ => False) g [.slice (some ⟨0, 0, some 0⟩) 0 1] (mkS [some (.row .look es' 0 0 e)]) (ansE (.ret (.cell (.own es 0 1 e))))
      rw [hk0]
      exact ⟨[], .inl ⟨rfl, rfl, rfl, rfl⟩, List.nodup_nil⟩
    · have h1 : es' = es := by
        rw [Bool.or_eq_true, Bool.and_eq_true] at h1
        rcases h1 with h1 | h1
        · exact Nat.eq_of_beq_eq_true h1
        · exact absurd ⟨Nat.eq_of_beq_eq_true h1.1, Nat.eq_of_beq_eq_true h1.2⟩ h0
      subst h1
      have hb : ((Nat.beq n 0 && Nat.beq c 1) == true) = false := by
        cases hq : (Nat.beq n 0 && Nat.beq c 1) with
        | false => rfl
        | true =>
          rw [Bool.and_eq_true] at hq
          exact absurd ⟨Nat.eq_of_beq_eq_true hq.1, Nat.eq_of_beq_eq_true hq.2⟩ h0
      have hc := Nat.le_of_ble_eq_true h3
      show lawE P noTold 100 20 β (fun _ => 0) (cnOf 1 fun _ => []) (fun _ _ => False) g [.slice (some ⟨0, 0, some 0⟩) n c] (mkS [some (.row .look es' 0 n e)]) (ansE (.ret (.cell (.own es' n c e))))
      rw [hk, hb]
      refine need_of (by simp) (need_of (by simpa using h2) ?_)
      exact ⟨[2], .inr (.inl ⟨2, 0, 0, n, _, 0, rfl, rfl, fun hn => by omega, by simp only [ASt.new, set_get]; exact upd_same _ _ _, Nat.le_refl _, by omega, fun i hi j hj => by simp only [Nat.zero_add]⟩), by simp⟩
  · cases hok
/-! ### answers that are truths; small facts -/
def bAns (b : Bool) : Ans := .ret (.cell (.sc (.bool b)))
theorem bAns_ok (b : Bool) (st : ASt) : ansE (bAns b) (.returned (.bool b)) st := ⟨[], ⟨rfl, rfl, rfl⟩, List.nodup_nil⟩
theorem bAns_any (b : Bool) : ansE (bAns b) = fun r _ => ansE (bAns b) r st0 := by funext r st; cases r <;> rfl
theorem okC_of {es n c : Nat} {e : Nat → Nat → Td} (hn : n ≤ 1000000) (hc : c ≤ 1) : okC es [Ta.cell (Td.fr es n c e)] = true := by
  simp only [okC, Bool.and_eq_true, Bool.or_eq_true]
  exact ⟨⟨.inl (Nat.beq_refl _), Nat.ble_eq_true_of_le hn⟩, Nat.ble_eq_true_of_le hc⟩
theorem bleS (n : Nat) : Nat.ble n n = true := by simp
theorem ble0 (n : Nat) : Nat.ble (0 + n) n = true := by simp
theorem encZ {α : Type} [Enc α] (l : List α) : (fun i => encL l (0 + i)) = encL l := by funext i; rw [Nat.zero_add]
theorem nFr (es n c : Nat) (e : Nat → Nat → Td) : nilT (Td.fr es n c e) = c := rfl
theorem lstT {α : Type} [Enc α] (l : List α) (c : Nat) : listT α (Td.fr (Enc.es α) l.length c (encL l)) = l := listT_tdL l c
end Go.Proofs.Ytncndnlbiijdoaa.Ev
