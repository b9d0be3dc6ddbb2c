/-
  Data that came in, read as trees; a law over such data.
-/
import Derived.Test.YtpogcoolgnjejaaGreatDoorGh
import Derived.Deep.Slices
import Derived.WideShapes
set_option linter.unusedVariables false
set_option linter.unusedSimpArgs false
namespace Go.Proofs.YtpogcoolgnjejaaGreatDoor.Ev
open Go Go.RowKit

/-! ### shapes -/
inductive Sh where
  | bool
  | int (k : IntKind)
  | flt (k : FloatKind)
  | str
  | sl (es : Nat) (c : Nat → Sh)
def ShOk : Sh → Td → Prop
  | .bool, .sc (.bool _) => True
  | .int k, .sc (.int k' n) => k' = k ∧ (Lit.int k n).wf = true
  | .flt k, .sc (.float k' b) => k' = k ∧ (Lit.float k b).wf = true
  | .str, .sc (.string s) => s.size ≤ maxLen
  | .sl es c, .fr es' n cc e => es' = es ∧ cc ≤ 1 ∧ n ≤ maxLen ∧ ∀ i, i < n → ∀ j, j < es → ShOk (c j) (e i j)
  | _, _ => False
def ShTL (l : List Sh) (ts : List Td) : Prop := l.length = ts.length ∧ ∀ (j : Nat) s t, l[j]? = some s → ts[j]? = some t → ShOk s t
theorem ShTL.nil : ShTL [] [] := ⟨rfl, fun j s t h => by simp at h⟩
theorem ShTL.one {s : Sh} {t : Td} (h : ShOk s t) : ShTL [s] [t] := ⟨rfl, fun j s' t' h1 h2 => by
  cases j with
  | zero => simp at h1 h2; subst h1 h2; exact h
  | succ j => simp at h1⟩
theorem ShTL.app {l l' : List Sh} {m m' : List Td} (h : ShTL l m) (k : ShTL l' m') : ShTL (l ++ l') (m ++ m') := by
  refine ⟨by simp [h.1, k.1], fun j s t hs ht => ?_⟩
  rcases Nat.lt_or_ge j l.length with hj | hj
  · rw [List.getElem?_append_left hj] at hs
    rw [List.getElem?_append_left (by have := h.1; omega)] at ht
    exact h.2 j s t hs ht
  · rw [List.getElem?_append_right hj] at hs
    rw [List.getElem?_append_right (by have := h.1; omega), ← h.1] at ht
    exact k.2 _ s t hs ht
theorem TRL.app {w : World} {F : Nat → Prop} {l l' : List Td} {m m' : List Value} (h : TRL w F l m) (k : TRL w F l' m') : TRL w F (l ++ l') (m ++ m') := by
  refine ⟨by simp [h.1, k.1], fun j s t hs ht => ?_⟩
  rcases Nat.lt_or_ge j l.length with hj | hj
  · rw [List.getElem?_append_left hj] at hs
    rw [List.getElem?_append_left (by have := h.1; omega)] at ht
    exact h.2 j s t hs ht
  · rw [List.getElem?_append_right hj] at hs
    rw [List.getElem?_append_right (by have := h.1; omega), ← h.1] at ht
    exact k.2 _ s t hs ht
theorem TRL.one {w : World} {F : Nat → Prop} {t : Td} {y : Value} (h : TR w F t y) : TRL w F [t] [y] := TRL.cons h (TRL.nil w F)

def fieldsB (P : Program) (fl : TypeId → List Sh → Bool) : List Field → Nat → List Sh → Bool
  | [], _, [] => true
  | f :: fs, off, l => Nat.beq f.offset off && fl f.type (l.take (P.cellsOf f.type)) && Nat.ble (P.cellsOf f.type) l.length && fieldsB P fl fs (off + P.cellsOf f.type) (l.drop (P.cellsOf f.type))
  | [], _, _ :: _ => false
def elemsB (P : Program) (fl : List Sh → Bool) (c : Nat) : Nat → List Sh → Bool
  | 0, [] => true
  | n + 1, l => fl (l.take c) && Nat.ble c l.length && elemsB P fl c n (l.drop c)
  | 0, _ :: _ => false
/-- of what a type's cells are -/
def flatB (P : Program) : Nat → TypeId → List Sh → Bool
  | 0, _, _ => false
  | n + 1, t, l => match P.underlying t with
    | some .bool => match l with | [.bool] => true | _ => false
    | some (.int k) => match l with | [.int k'] => decide (k = k') | _ => false
    | some (.float k) => match l with | [.flt k'] => decide (k = k') | _ => false
    | some .string => match l with | [.str] => true | _ => false
    | some (.slice e) => match l with | [.sl es c] => Nat.beq es (P.cellsOf e) && Nat.blt 0 es && flatB P n e ((upto 0 es).map c) | _ => false
    | some (.struct fs) => Nat.beq l.length (P.cellsOf t) && fieldsB P (flatB P n) fs.toList 0 l
    | some (.array m e) => Nat.beq l.length (P.cellsOf t) && elemsB P (flatB P n e) (P.cellsOf e) m l
    | _ => false
theorem cell_lt {w : World} {a : Addr} {v : Value} (h : w.cell? a = some v) : a.block < w.heap.size := by
  unfold World.cell? at h
  split at h
  · rename_i hb
    exact (Array.getElem?_eq_some_iff.1 hb).1
  · cases h
section
variable {H : Type} {enc : TypeId × Value → H} {P : Program} {w : World} {base : Nat} {spare : Nat → Bool} {held : Bool}
theorem trod_float1 {fuel : Nat} {t : TypeId} {cs : List Value} {x : DataW H × List MemPlace} {k : FloatKind} (ht : P.underlying t = some (.float k)) (h : DataW.trod enc P w base spare held fuel t cs = some x) : ∃ b, cs = [.float k b] ∧ (Lit.float k b).wf = true := by
  cases fuel with
  | zero => simp [DataW.trod] at h
  | succ n =>
    unfold DataW.trod at h
    rw [ht] at h
    split at h <;> simp_all
theorem trod_array1 {fuel : Nat} {t e : TypeId} {m : Nat} {cs : List Value} {x : DataW H × List MemPlace} (ht : P.underlying t = some (.array m e)) (h : DataW.trod enc P w base spare held fuel t cs = some x) :
    ∃ n, cs.length = P.cellsOf t ∧ ∀ i, i < m → ∃ y, DataW.trod enc P w base spare held n e ((cs.drop (i * P.cellsOf e)).take (P.cellsOf e)) = some y := by
  cases fuel with
  | zero => simp [DataW.trod] at h
  | succ n =>
    unfold DataW.trod at h
    rw [ht] at h
    split at h <;> simp_all
    obtain ⟨hl, xs, hp, hd⟩ := h
    refine ⟨n, fun i hi => ?_⟩
    have h1 := mapM_some_get hp i i (by simp [hi])
    have h2 := mapM_some_length hp
    have : i < xs.length := by rw [h2]; simpa using hi
    rw [List.getElem?_eq_getElem this] at h1
    exact ⟨_, _, h1⟩
/-- what is there in the beginning -/
def There (w : World) (b : Nat) : Prop := b < w.heap.size
def FlatR (w : World) (l : List Sh) (cs : List Value) : Prop := ∃ ts, TRL w (There w) ts cs ∧ (∀ v ∈ cs, v.oneCell' = true) ∧ ShTL l ts
theorem FlatR.app {l l' : List Sh} {m m' : List Value} (h : FlatR w l m) (k : FlatR w l' m') : FlatR w (l ++ l') (m ++ m') := by
  obtain ⟨ts, h1, h2, h3⟩ := h
  obtain ⟨us, k1, k2, k3⟩ := k
  exact ⟨ts ++ us, h1.app k1, fun v hv => by rcases List.mem_append.1 hv with hv | hv; exact h2 v hv; exact k2 v hv, h3.app k3⟩
theorem FlatR.nil : FlatR w [] [] := ⟨[], TRL.nil _ _, fun v hv => by simp at hv, ShTL.nil⟩
theorem FlatR.one {s : Sh} {t : Td} {v : Value} (h : TR w (There w) t v) (h1 : v.oneCell' = true) (k : ShOk s t) : FlatR w [s] [v] := ⟨[t], TRL.one h, fun u hu => by simp at hu; subst hu; exact h1, ShTL.one k⟩
theorem flat_ok : ∀ (n : Nat) {fuel : Nat} {t : TypeId} {l : List Sh} {cs : List Value} {x : DataW H × List MemPlace}, flatB P n t l = true → DataW.trod enc P w base spare held fuel t cs = some x → FlatR w l cs := by
  intro n
  induction n with
  | zero => intro fuel t l cs x h; cases h
  | succ n ih =>
    intro fuel t l cs x h hx
    unfold flatB at h
    split at h
    · rename_i ht
      split at h
      · obtain ⟨b, rfl, _⟩ := DataW.trod_bool ht hx
        exact FlatR.one (t := .sc (.bool b)) (.bool b) rfl trivial
      · cases h
    · rename_i k ht
      split at h
      · have := of_decide_eq_true h
        subst this
        obtain ⟨b, rfl, _, hw⟩ := DataW.trod_int ht hx
        exact FlatR.one (t := .sc (.int k b)) (.int k b) rfl ⟨rfl, hw⟩
      · cases h
    · rename_i k ht
      split at h
      · have := of_decide_eq_true h
        subst this
        obtain ⟨b, rfl, hw⟩ := trod_float1 ht hx
        exact FlatR.one (t := .sc (.float k b)) (.float k b) rfl ⟨rfl, hw⟩
      · cases h
    · rename_i ht
      split at h
      · obtain ⟨s, rfl, _, hw⟩ := DataW.trod_string ht hx
        exact FlatR.one (t := .sc (.string s)) (.string s) rfl hw
      · cases h
    · rename_i e ht
      split at h
      · rename_i es c
        simp only [Bool.and_eq_true] at h
        obtain ⟨⟨he, hpos⟩, hfl⟩ := h
        have he := Nat.eq_of_beq_eq_true he
        have hpos : 0 < es := by simpa using hpos
        rcases Deep.open_slice ht hx with ⟨rfl, _⟩ | ⟨a, len, cap, m, n', D, Pl, rfl, _, hlc, hm, hmm, _, hcell⟩
        · exact FlatR.one (t := .fr es 0 1 noT) (.inl ⟨rfl, rfl, rfl⟩) rfl ⟨rfl, Nat.le_refl _, Nat.zero_le _, fun i hi => by omega⟩
        · have hlm : len ≤ m := by rw [hmm]; split <;> omega
          rcases Nat.eq_zero_or_pos len with h0 | hpl
          · subst h0
            exact FlatR.one (t := .fr es 0 0 noT) (.inr (.inl ⟨rfl, rfl, _, _, rfl⟩)) rfl ⟨rfl, Nat.zero_le _, Nat.zero_le _, fun i hi => by omega⟩
          rw [← he] at hcell
          have hex : ∀ i, i < len → ∃ cs' ts, w.cells? base (a.add (i * es)) es = some cs' ∧ TRL w (There w) ts cs' ∧ (∀ v ∈ cs', v.oneCell' = true) ∧ ShTL ((upto 0 es).map c) ts := fun i hi => by
            obtain ⟨cs', h1, h2⟩ := hcell i (by omega)
            obtain ⟨ts, h3, h4, h5⟩ := ih hfl h2
            exact ⟨cs', ts, h1, h3, h4, h5⟩
          let E : Nat → List Td := fun i => if h : i < len then Classical.choose (Classical.choose_spec (hex i h)) else []
          have hE : ∀ i, i < len → ∃ cs', w.cells? base (a.add (i * es)) es = some cs' ∧ TRL w (There w) (E i) cs' ∧ (∀ v ∈ cs', v.oneCell' = true) ∧ ShTL ((upto 0 es).map c) (E i) := fun i hi => by
            have := Classical.choose_spec (Classical.choose_spec (hex i hi))
            refine ⟨Classical.choose (hex i hi), ?_⟩
            simp only [E, dif_pos hi]
            exact this
          obtain ⟨b, o, sp⟩ := a
          have hspot : sp = none := by
            obtain ⟨cs', h1, _⟩ := hE 0 hpl
            obtain ⟨_, h2, h3⟩ := World.cells?_some h1
            have h4 := h3 0 (by omega)
            rw [List.getElem?_eq_getElem (by omega)] at h4
            simpa [Addr.add] using World.cell?_spot h4
          subst hspot
          have hblk : b < w.heap.size := by
            obtain ⟨cs', h1, _⟩ := hE 0 hpl
            obtain ⟨_, h2, h3⟩ := World.cells?_some h1
            have h4 := h3 0 (by omega)
            rw [List.getElem?_eq_getElem (by omega)] at h4
            simpa [Addr.add] using cell_lt h4
          have hup : ∀ j, j < es → ((upto 0 es).map c)[j]? = some (c j) := fun j hj => by
            rw [List.getElem?_map, upto_get es 0 j hj, Nat.zero_add]; rfl
          refine FlatR.one (t := .fr es len 0 fun i j => nthT (E i) j) (.inr (.inr ⟨hpl, b, o, cap, rfl, hlc, hblk, fun i hi j hj => ?_⟩)) rfl ⟨rfl, Nat.zero_le _, Nat.le_trans hlc hm, fun i hi j hj => ?_⟩
          · obtain ⟨cs', h1, h5, h6, h7⟩ := hE i hi
            obtain ⟨_, h2, h3⟩ := World.cells?_some h1
            have hjc : j < cs'.length := by omega
            have h4 := h3 j (by omega)
            rw [List.getElem?_eq_getElem hjc] at h4
            have htl : j < (E i).length := by rw [h5.1]; exact hjc
            refine ⟨cs'[j], ?_, h6 _ (List.getElem_mem hjc), ?_⟩
            · rw [← h4, add_at, add_at]
            · dsimp only
              rw [nthT_eq (E i) j _ (List.getElem?_eq_getElem htl)]
              exact h5.2 j _ _ (List.getElem?_eq_getElem htl) (List.getElem?_eq_getElem hjc)
          · obtain ⟨cs', h1, h5, h6, h7⟩ := hE i hi
            have htl : j < (E i).length := by have := h7.1; simp [upto_len] at this; omega
            dsimp only
            rw [nthT_eq (E i) j _ (List.getElem?_eq_getElem htl)]
            exact h7.2 j _ _ (hup j hj) (List.getElem?_eq_getElem htl)
      · cases h
    · rename_i fs ht
      simp only [Bool.and_eq_true] at h
      obtain ⟨xs, m, _, _, hl, hxl, hf⟩ := DataW.trod_struct ht hx
      have hlen : cs.length = l.length := by rw [hl]; exact (Nat.eq_of_beq_eq_true h.1).symm
      have key : ∀ (fl : List Field) (k : Nat) (off : Nat) (l : List Sh), (∀ i f, fl[i]? = some f → fs[k + i]? = some f) → fieldsB P (flatB P n) fl off l = true → cs.length = off + l.length → FlatR w l (cs.drop off) := by
        intro fl
        induction fl with
        | nil =>
          intro k off l _ h hl
          cases l with
          | nil => rw [List.drop_eq_nil_of_le (by simp at hl; omega)]; exact FlatR.nil
          | cons => cases h
        | cons f fl ihf =>
          intro k off l hfs h hl
          unfold fieldsB at h
          simp only [Bool.and_eq_true] at h
          obtain ⟨⟨⟨h1, h2⟩, h3⟩, h4⟩ := h
          have h1 := Nat.eq_of_beq_eq_true h1
          have h3 := Nat.le_of_ble_eq_true h3
          have e1 := hf k f (hfs 0 f rfl)
          have hk : k < xs.length := by
            have : k < fs.size := by
              have := hfs 0 f rfl
              exact (Array.getElem?_eq_some_iff.1 this).1
            omega
          rw [List.getElem?_eq_getElem hk, h1] at e1
          have e2 := ih h2 e1
          have e3 := ihf (k + 1) (off + P.cellsOf f.type) (l.drop (P.cellsOf f.type)) (fun i g hg => by rw [show k + 1 + i = k + (i + 1) by omega]; exact hfs (i + 1) g (by simpa using hg)) h4 (by rw [List.length_drop]; omega)
          have := e2.app e3
          rw [List.take_append_drop] at this
          rw [← List.drop_drop, List.take_append_drop] at this
          exact this
      have := key fs.toList 0 0 l (fun i f hf => by simpa using hf) h.2 (by omega)
      simpa using this
    · rename_i m e ht
      simp only [Bool.and_eq_true] at h
      obtain ⟨q, hl, hf⟩ := trod_array1 ht hx
      have hlen : cs.length = l.length := by rw [hl]; exact (Nat.eq_of_beq_eq_true h.1).symm
      have key : ∀ (r k : Nat) (l : List Sh), k + r = m → elemsB P (flatB P n e) (P.cellsOf e) r l = true → cs.length = k * P.cellsOf e + l.length → FlatR w l (cs.drop (k * P.cellsOf e)) := by
        intro r
        induction r with
        | zero =>
          intro k l _ h hl
          cases l with
          | nil => rw [List.drop_eq_nil_of_le (by simp at hl; omega)]; exact FlatR.nil
          | cons => cases h
        | succ r ihr =>
          intro k l hk h hl
          unfold elemsB at h
          simp only [Bool.and_eq_true] at h
          obtain ⟨⟨h2, h3⟩, h4⟩ := h
          have h3 := Nat.le_of_ble_eq_true h3
          obtain ⟨y, e1⟩ := hf k (by omega)
          have e2 := ih h2 e1
          have hm : (k + 1) * P.cellsOf e = k * P.cellsOf e + P.cellsOf e := Nat.succ_mul _ _
          have e3 := ihr (k + 1) (l.drop (P.cellsOf e)) (by omega) h4 (by rw [List.length_drop, hm]; omega)
          rw [hm] at e3
          have := e2.app e3
          rw [List.take_append_drop] at this
          rw [← List.drop_drop, List.take_append_drop] at this
          exact this
      have := key m 0 l (by omega) h.2 (by rw [Nat.zero_mul]; omega)
      simpa using this
    · cases h
end
/-- a slice that came in -/
theorem row_of_trod {H : Type} {enc : TypeId × Value → H} {P : Program} {w : World} {t : TypeId} {v : Value} {d : DataW H} {ps : List MemPlace} {b0 es : Nat} {c : Nat → Sh} {e : TypeId} (ht : P.underlying t = some (.slice e)) (hl : flatB P 9 t [.sl es c] = true)
    (hv : Value.okWide P w .any b0 t v) (h : DataW.Trod enc P w 0 (fun _ => true) true t v d ps) : ∃ n cc el, TR w (There w) (.fr es n cc el) v ∧ ShOk (.sl es c) (.fr es n cc el) := by
  obtain ⟨a, len, cap, rfl⟩ := WideShapes.okWide_slice ht hv
  obtain ⟨fuel, hf⟩ := h
  have hcs : (Value.slice a len cap).cells.toList = [.slice a len cap] := rfl
  rw [hcs] at hf
  obtain ⟨ts, h1, h2, h3⟩ := flat_ok 9 hl hf
  have hlen := h3.1
  cases ts with
  | nil => simp at hlen
  | cons t0 ts =>
    cases ts with
    | cons => simp at hlen
    | nil =>
      have k1 := h1.2 0 t0 _ rfl rfl
      have k2 := h3.2 0 _ t0 rfl rfl
      cases t0 with
      | sc x => exact k2.elim
      | fr es' n cc el =>
        obtain ⟨rfl, q⟩ := k2
        exact ⟨n, cc, el, k1, rfl, q⟩
/-- where a slice that came in lies -/
theorem arg_spot {w : World} {es n c : Nat} {e : Nat → Nat → Td} {v : Value} {F : Nat → Prop} (h : TR w F (.fr es n c e) v) (hF : ∀ b, F b → b < w.heap.size) :
    ∃ s : Spot, s.fz = F ∧ (s.void = false → s.blk < w.heap.size) ∧ (∀ (ρ : Rho) (k : Nat) s', ρ k = some s' → SameSpot s s' → VR ρ (.slice (some ⟨k, 0, some 0⟩) n c) v) ∧ ∀ X F', ExtOk ⟨w.heap.size, w, X, F', noW⟩ s (.row .still es 0 n e) := by
  have hno : ∀ {q : Prop}, true = false → q := by intro q h; cases h
  rcases h with ⟨rfl, rfl, rfl⟩ | ⟨rfl, rfl, a, c', rfl⟩ | ⟨h0, b, o, c', rfl, h2, h3, h4⟩
  · exact ⟨⟨0, 0, true, es, 0, true, F⟩, rfl, (fun h => hno h), fun ρ k s' hk hs => .sliceN _ _, fun X F' => ⟨rfl, fun ρ w' hz hw => ⟨rfl, fun _ => Nat.le_refl _, (fun h => by cases h), fun _ h => hno h, fun i _ hi => by omega⟩⟩⟩
  · exact ⟨⟨0, 0, true, es, 0, true, F⟩, rfl, (fun h => hno h), fun ρ k s' hk hs => .sliceE _ _ _ _ s' hk hs.ex, fun X F' => ⟨rfl, fun ρ w' hz hw => ⟨rfl, fun _ => Nat.le_refl _, (fun h => by cases h), fun _ h => hno h, fun i _ hi => by omega⟩⟩⟩
  · refine ⟨⟨b, o, true, es, 0, false, F⟩, rfl, fun _ => hF b h3, fun ρ k s' hk hs => ?_, fun X F' => ⟨rfl, fun ρ w' hz hw => ⟨rfl, (fun h => by cases h), (fun h => by cases h), fun _ _ => hz b h3, fun i _ hi j hj => ?_⟩⟩⟩
    · have hb : s'.blk = b := hs.blk
      have := VR.sliceI (ρ := ρ) k 0 s' n c c' o hk h2 (fun _ => h0) (fun h => by rw [hs.ex] at h; cases h) (hs.void) (.inl (by rw [hs.base]; simp))
      rw [hb] at this
      exact this
    · obtain ⟨z, z1, z2, z3⟩ := h4 i hi j hj
      have hw := hw.of (fun _ h => h)
      exact ⟨z, (hw.cell (p := ⟨b, o + i * es + j, none⟩) (hF b h3)).trans z1, z2, z3.kept hz (fun b hb => by obtain ⟨_, _, _, _, hh⟩ := hw; exact hh b (hF b hb))⟩
/-- a law of rows and of numbers: what has to hold -/
theorem law_args {P : Program} {C : Told} {fuel n : Nat} (hm : P.follows .mixedOrders = true) (hC : ToldS P C) {un : Nat → Nat} {lvs : Nat → List Nat} {ex : Nat → Kt → Prop} {g : FuncId} {args : List Value} {args' : Array Value} {X : List Spot} {objs : List AObj} {F : Nat → Prop} {K : AE → ASt → Prop} (w : World)
    (hlen : X.length = objs.length) (hobj : ∀ (k : Nat) (s : Spot) (o : AObj), X[k]? = some s → objs[k]? = some o → ExtOk ⟨w.heap.size, w, X, F, noW⟩ s o) (hblk : ∀ s ∈ X, s.void = false → s.blk < w.heap.size) (hfz : ∀ s ∈ X, ∀ b, s.fz b → F b) (hF : FOk w F) (hv : VRL (fun i => X[i]?) args args'.toList)
    (h : lawE P C fuel n ⟨w.heap.size, w, X, F, noW⟩ un (cnOf X.length lvs) ex g args (mkS (objs.map some)) K) :
    Calls P g args' w (PostE ⟨w.heap.size, w, X, F, noW⟩ K) := by
  have hget : ∀ k o, (mkS (objs.map some)).h.get k = some o → objs[k]? = some o := by
    intro k o e
    rw [mkS_get, List.getElem?_map] at e
    cases hq : objs[k]? with
    | none => rw [hq] at e; cases e
    | some u => rw [hq] at e; cases e; rfl
  have hX : ∀ k o, objs[k]? = some o → ∃ s, X[k]? = some s := fun k o e => by
    have h1 := (List.getElem?_eq_some_iff.1 e).1
    exact ⟨X[k]'(by omega), List.getElem?_eq_getElem (by omega)⟩
  have hro : ∀ k o, (mkS (objs.map some)).h.get k = some o → o.isOwn = false := fun k o e => by
    obtain ⟨s, hs⟩ := hX k o (hget k o e)
    exact (hobj k s o hs (hget k o e)).1
  have hnown : ∀ b, ¬ Own (mkS (objs.map some)).h.get (fun i => X[i]?) b := fun b ⟨a, o, t, e1, e2, _⟩ => by rw [hro a o e1] at e2; cases e2
  have hFr : ∀ b, Frz (fun i => X[i]?) b → F b := fun b ⟨a, s, e1, e2⟩ => hfz s (List.mem_of_getElem? e1) b e2
  refine lawE_post (ρ := fun i => X[i]?) (X := X) hm hC rfl (fun i t e => ⟨t, e, SameSpot.refl t⟩) hv ⟨fun a t e hvd => ?_, fun a o e => ?_, fun a b oa ob sa sb ea eb eo ra rb va vb heq => ?_, fun b hb => ⟨hF.lt b (hFr b hb), hnown b⟩, fun b hb => ⟨(hF.gl b hb).1, (hF.gl b hb).2, hnown b⟩⟩ (fun k o e => ?_) (fun a ha => ?_) (fun b hb' => ?_) hFr h
  · exact hblk t (List.mem_of_getElem? e) hvd
  · obtain ⟨s, hs⟩ := hX a o (hget a o e)
    exact ⟨s, hs, (hobj a s o hs (hget a o e)).2 _ w (fun b hb => ⟨a, s, hs, hb⟩) (BelowW.refl _ _ _ _ _)⟩
  · rcases eo with eo | eo
    · rw [hro a oa ea] at eo; cases eo
    · rw [hro b ob eb] at eo; cases eo
  · have := (List.getElem?_eq_some_iff.1 (hget k o e)).1
    simpa [mkS] using this
  · have : objs.length ≤ a := by simpa [mkS] using ha
    exact List.getElem?_eq_none (by omega)
  · obtain ⟨a, o, t, e, e0, _⟩ := hb'
    rw [hro a o e] at e0; cases e0
/-- it answers true -/
def trueE (r : AE) (_ : ASt) : Prop := match r with
  | .returned (.bool b) => need b True
  | _ => False
theorem PostE.true {β : Bs} (hW : ∀ b, ¬ β.W b) {e : Ending} {w' : World} (h : PostE β trueE e w') : e = .returned (.bool true) ∧ Below β.B β.w0 w' := by
  obtain ⟨⟨r, st', ρ', h1, h2, _⟩, h3⟩ := h
  refine ⟨?_, h3.of hW⟩
  unfold trueE at h2
  split at h2
  · rename_i b
    obtain ⟨hb, _⟩ := need_elim h2
    subst hb
    obtain ⟨v', rfl, hv⟩ := h1
    cases hv; rfl
  · exact h2.elim
theorem w64 {x : Int} (h1 : -9223372036854775808 ≤ x) (h2 : x < 9223372036854775808) : IntKind.wrap .i64 x = x := by
  unfold IntKind.wrap
  simp [IntKind.signed, IntKind.bits]
  split <;> omega
theorem wu64 {x : Int} (h1 : 0 ≤ x) (h2 : x < 18446744073709551616) : IntKind.wrap .u64 x = x := by
  unfold IntKind.wrap
  simp [IntKind.signed, IntKind.bits]
  omega
theorem br_t (A B : Prop) : br true A B = A := rfl
theorem br_f (A B : Prop) : br false A B = B := rfl
theorem need_t (A : Prop) : need true A = A := rfl
theorem LoopJ.seen {P : Program} {β : Bs} {ex : Nat → Kt → Prop} {b : Nat} {c : Code} {f f1 : AFr} {st st1 : ASt} (hs : Seen β f st f1 st1) (h : LoopJ P β ex b c f1 st1) : LoopJ P β ex b c f st := ⟨fun K hK => J.seen hs (h.ok K hK)⟩
theorem Seen.trans {β : Bs} {f f1 f2 : AFr} {st st1 st2 : ASt} (h : Seen β f st f1 st1) (k : Seen β f1 st1 f2 st2) : Seen β f st f2 st2 := fun ρ a w hr => by
  obtain ⟨ρ1, h1⟩ := h ρ a w hr
  exact k ρ1 a w h1
/-- what is owed of a round -/
def Nn (β : Bs) {α : Type} (I : α → Prop) (m : α → Nat) (F : α → AFr) (S : α → ASt) (p : α) (K : Kt) : Kt := fun x f st =>
  (x = .normal ∧ ∃ p', I p' ∧ m p' < m p ∧ Seen β f st (F p') (S p')) ∨ (x ≠ .normal ∧ (∀ v, x ≠ .panic v) ∧ ∃ f1 st1, Seen β f st f1 st1 ∧ K x f1 st1)
theorem Nn.next {β : Bs} {α : Type} {I : α → Prop} {m : α → Nat} {F : α → AFr} {S : α → ASt} {p : α} {K : Kt} {f : AFr} {st : ASt} (p' : α) (h : I p') (hm : m p' < m p) (hs : Seen β f st (F p') (S p')) : Nn β I m F S p K .normal f st := .inl ⟨rfl, p', h, hm, hs⟩
theorem Nn.exit {β : Bs} {α : Type} {I : α → Prop} {m : α → Nat} {F : α → AFr} {S : α → ASt} {p : α} {K : Kt} {b : Nat} {f f1 : AFr} {st st1 : ASt} (hs : Seen β f st f1 st1) (h : K (.exit b) f1 st1) : Nn β I m F S p K (.exit b) f st := .inr ⟨by simp, by simp, f1, st1, hs, h⟩
theorem Nn.ret {β : Bs} {α : Type} {I : α → Prop} {m : α → Nat} {F : α → AFr} {S : α → ASt} {p : α} {K : Kt} {f f1 : AFr} {st st1 : ASt} (hs : Seen β f st f1 st1) (h : K .ret f1 st1) : Nn β I m F S p K .ret f st := .inr ⟨by simp, by simp, f1, st1, hs, h⟩
def onP (N : Kt) (x : AX) (p : AFr × ASt) : Prop := N x p.1 p.2
/-- nothing, as a row of none -/
def nilRow (k : Nat) : Value := .slice (some ⟨k, 0, some 0⟩) 0 1
/-- a slot that holds nothing, seen as one that holds a row of none -/
theorem Seen.nilSlot {β : Bs} {f f' : AFr} {l : List (Option AObj)} (s es : Nat) (e : Nat → Nat → Td) (hn : f'.n = f.n) (hd : f'.defers = f.defers) (hs : f.tmps.get s = some (.slice none 0 0)) (h : ∀ t v, f'.tmps.get t = some v → (t = s ∧ v = nilRow l.length) ∨ f.tmps.get t = some v) :
    Seen β f (mkS l) f' (mkS (l ++ [some (.row .mine es 0 0 e)])) := by
  intro ρ a w hr
  have hfn : ρ l.length = none := hr.fresh _ (Nat.le_refl _)
  have m := Mv.rowVoid (w' := w) (es := es) (f := e) hr.wr hfn rfl rfl rfl rfl
  have hg : (mkS (l ++ [some (.row .mine es 0 0 e)])).h.get = upd (mkS l).h.get l.length (some (.row .mine es 0 0 e)) := by
    funext k
    rw [mkS_get]
    by_cases hk : k = l.length
    · subst hk; rw [upd_same, List.getElem?_append_right (Nat.le_refl _)]; simp
    · rw [upd_ne _ _ hk, mkS_get]
      rcases Nat.lt_or_ge k l.length with h1 | h1
      · rw [List.getElem?_append_left h1]
      · rw [List.getElem?_eq_none (by simp; omega), List.getElem?_eq_none h1]
  have hlo : LoS (mkS l) (mkS (l ++ [some (.row .mine es 0 0 e)])) := by
    refine ⟨by simp [mkS], Nat.le_refl _, fun x h1 _ => ?_, fun x o' e' => ?_⟩
    · rw [hg]; exact upd_ne _ _ (by have : x < l.length := h1; omega)
    · rw [hg] at e'
      by_cases hx : x = l.length
      · exact .inr (by subst hx; simp [mkS])
      · rw [upd_ne _ _ hx] at e'; exact .inl ⟨o', e'⟩
  have hnx : (mkS (l ++ [some (.row .mine es 0 0 e)])).next = (mkS l).next + 1 := by simp [mkS]
  refine ⟨_, hr.step hlo ⟨by rw [hn]; exact hr.fr.size, fun t v ht => ?_, by rw [hd]; exact hr.fr.defs.mono m.ext⟩ (by rw [hg, hnx]; exact m)⟩
  rcases h t v ht with ⟨rfl, rfl⟩ | h1
  · obtain ⟨v', h2, h3⟩ := hr.fr.tmp _ _ hs
    refine ⟨v', h2, ?_⟩
    cases h3
    exact .sliceN _ _
  · obtain ⟨v', h2, h3⟩ := hr.fr.tmp t v h1
    exact ⟨v', h2, h3.mono m.ext⟩
end Go.Proofs.YtpogcoolgnjejaaGreatDoor.Ev
/-
  Functions of trees, of which it is told what they answer.
-/
set_option linter.unusedVariables false
set_option linter.unusedSimpArgs false
namespace Go.Proofs.YtpogcoolgnjejaaGreatDoor.Ev
open Go Go.RowKit

/-- what a function is given -/
inductive Ta where
  | cell (t : Td)
  | agg (ts : List Td)
/-- what it answers: a value, a slice of its own, a slice that is only read -/
inductive Ra where
  | sc (x : Value)
  | own (es n c : Nat) (e : Nat → Nat → Td)
  | still (es n c : Nat) (e : Nat → Nat → Td)
inductive Rv where
  | cell (r : Ra)
  | agg (rs : List Ra)
inductive Ans where
  | ret (r : Rv)
  | rets (rs : List Rv)
  | pan (v : Value)

/-! ### in the world -/
def PW {α β : Type} (R : α → β → Prop) (l : List α) (m : List β) : Prop := l.length = m.length ∧ ∀ (i : Nat) a b, l[i]? = some a → m[i]? = some b → R a b
theorem PW.nil {α β : Type} (R : α → β → Prop) : PW R [] [] := ⟨rfl, fun i a b h => by simp at h⟩
theorem PW.cons {α β : Type} {R : α → β → Prop} {a : α} {b : β} {l : List α} {m : List β} (h : R a b) (k : PW R l m) : PW R (a :: l) (b :: m) := by
  refine ⟨by simp [k.1], fun i x y hx hy => ?_⟩
  cases i with
  | zero => simp at hx hy; subst hx hy; exact h
  | succ i => exact k.2 i x y (by simpa using hx) (by simpa using hy)
theorem PW.uncons {α β : Type} {R : α → β → Prop} {a : α} {l : List α} {m : List β} (h : PW R (a :: l) m) : ∃ b m', m = b :: m' ∧ R a b ∧ PW R l m' := by
  cases m with
  | nil => have := h.1; simp at this
  | cons b m => exact ⟨b, m, rfl, h.2 0 a b (by simp) (by simp), ⟨by have := h.1; simpa using this, fun i x y hx hy => h.2 (i + 1) x y (by simpa using hx) (by simpa using hy)⟩⟩
theorem PW.nil_inv {α β : Type} {R : α → β → Prop} {m : List β} (h : PW R [] m) : m = [] := List.eq_nil_of_length_eq_zero h.1.symm
theorem PW.mono {α β : Type} {R R' : α → β → Prop} (hR : ∀ a b, R a b → R' a b) {l : List α} {m : List β} (h : PW R l m) : PW R' l m := ⟨h.1, fun i a b x y => hR a b (h.2 i a b x y)⟩

/-- what is given: it may be written behind the call, what lies in it not -/
def TRo (w : World) (F : Nat → Prop) : Td → Value → Prop
  | .sc x, y => VR noRho x y
  | .fr es n c e, y => (n = 0 ∧ c = 1 ∧ y = .slice none 0 0) ∨ (n = 0 ∧ c = 0 ∧ ∃ a c', y = .slice (some a) 0 c') ∨
      (0 < n ∧ ∃ b o c', y = .slice (some ⟨b, o, none⟩) n c' ∧ n ≤ c' ∧ b < w.heap.size ∧ ∀ i, i < n → ∀ j, j < es → ∃ z, w.cell? ⟨b, o + i * es + j, none⟩ = some z ∧ z.oneCell' = true ∧ TR w F (e i j) z)
theorem TRo.mono {w : World} {F F' : Nat → Prop} (hF : ∀ b, F b → F' b) {t : Td} {y : Value} (h : TRo w F t y) : TRo w F' t y := by
  cases t with
  | sc x => exact h
  | fr es n c e =>
    rcases h with h | h | ⟨h0, b, o, c', h1, h2, h3, h4⟩
    · exact .inl h
    · exact .inr (.inl h)
    · refine .inr (.inr ⟨h0, b, o, c', h1, h2, h3, fun i hi j hj => ?_⟩)
      obtain ⟨z, z1, z2, z3⟩ := h4 i hi j hj
      exact ⟨z, z1, z2, z3.kept hF (fun _ _ => rfl)⟩
theorem TR.toO {w : World} {F : Nat → Prop} {t : Td} {y : Value} (hF : ∀ b, F b → b < w.heap.size) (h : TR w F t y) : TRo w F t y := by
  cases t with
  | sc x => exact h
  | fr es n c e =>
    rcases h with h | h | ⟨h0, b, o, c', h1, h2, h3, h4⟩
    · exact .inl h
    · exact .inr (.inl h)
    · exact .inr (.inr ⟨h0, b, o, c', h1, h2, hF b h3, h4⟩)
def TaR (w : World) (F : Nat → Prop) : Ta → Value → Prop
  | .cell t, y => TRo w F t y
  | .agg ts, y => ∃ a : Array Value, y = .agg a ∧ PW (TRo w F) ts a.toList
theorem TaR.mono {w : World} {F F' : Nat → Prop} (hF : ∀ b, F b → F' b) {t : Ta} {y : Value} (h : TaR w F t y) : TaR w F' t y := by
  cases t with
  | cell t => exact TRo.mono hF h
  | agg ts => obtain ⟨a, h1, h2⟩ := h; exact ⟨a, h1, h2.mono fun _ _ => TRo.mono hF⟩
/-- what is answered; l: the blocks of what is its own -/
def RaR (w w' : World) (F : Nat → Prop) : Ra → Value → List Nat → Prop
  | .sc x, y, l => l = [] ∧ VR noRho x y
  | .still es n c e, y, l => l = [] ∧ TR w' F (.fr es n c e) y
  | .own es n c e, y, l => (l = [] ∧ n = 0 ∧ ((c = 1 ∧ y = .slice none 0 0) ∨ (c = 0 ∧ ∃ a, y = .slice (some a) 0 0))) ∨
      ∃ b o c' C t fr, l = [b] ∧ y = .slice (some ⟨b, o, none⟩) n c' ∧ n ≤ c' ∧ (c ≠ 0 → 0 < n) ∧ w.heap.size ≤ b ∧ w'.heap[b]? = some (.cells C t fr) ∧ FrOk C.size fr ∧ o + c' * es ≤ C.size ∧ ¬ F b ∧
        ∀ i, i < n → ∀ j, j < es → ∃ z, C[o + i * es + j]? = some z ∧ z.oneCell' = true ∧ TR w' F (e i j) z
def RasR (w w' : World) (F : Nat → Prop) : List Ra → List Value → List Nat → Prop
  | [], [], l => l = []
  | r :: rs, y :: ys, l => ∃ l1 l2, l = l1 ++ l2 ∧ RaR w w' F r y l1 ∧ RasR w w' F rs ys l2
  | _, _, _ => False
def RvR (w w' : World) (F : Nat → Prop) : Rv → Value → List Nat → Prop
  | .cell r, y, l => RaR w w' F r y l
  | .agg rs, y, l => ∃ a : Array Value, y = .agg a ∧ RasR w w' F rs a.toList l
def RvsR (w w' : World) (F : Nat → Prop) : List Rv → List Value → List Nat → Prop
  | [], [], l => l = []
  | r :: rs, y :: ys, l => ∃ l1 l2, l = l1 ++ l2 ∧ RvR w w' F r y l1 ∧ RvsR w w' F rs ys l2
  | _, _, _ => False
def AnsR (w : World) (F : Nat → Prop) (a : Ans) (e : Ending) (w' : World) : Prop := Below w.heap.size w w' ∧ ∃ F', (∀ b, F' b → (w.heap.size ≤ b ∧ b < w'.heap.size) ∨ F b) ∧
  match a with
  | .ret r => ∃ y l, e = .returned y ∧ RvR w w' F' r y l ∧ l.Nodup
  | .rets rs => ∃ (a : Array Value) (l : List Nat), e = .returned (.tuple a) ∧ RvsR w w' F' rs a.toList l ∧ l.Nodup
  | .pan v => ∃ v', e = .panicked [{ v := v', recovered := false }] ∧ VR noRho v v'
def ToldW (P : Program) (g : FuncId) (ok : List Ta → Bool) (ans : List Ta → Ans) : Prop := ∀ ts, ok ts = true → ∀ (w : World) (args' : Array Value) F, FOk w F → PW (TaR w F) ts args'.toList → Calls P g args' w fun e w' => AnsR w F (ans ts) e w'

/-! ### for the evaluator -/
def argT (v : Value) (st : ASt) : Rs (Td × ASt) := match v with
  | .slice none 0 0 => .ok (.fr 0 0 1 noT, st)
  | .slice (some ⟨b, 0, some i0⟩) n c => match st.h.get b with
    | some (.row _ es lo m g) => cond (Nat.ble lo i0 && Nat.ble (i0 + n) m) (.ok (.fr es n c fun i => g (i0 + i), st)) (.er "argT: beyond")
    | _ => .er "argT: row"
  | .slice (some ⟨b, o, none⟩) n _ => match cellsO (st.h.get b) with
    | some (cs, es) => cond ((Nat.blt 0 es || Nat.beq n 0) && Nat.ble (o + n * es) cs.length) ((Rs.of "argT" (takeL (n * es) (dropL o cs))).bnd fun l => (toTs (toT 4) l st).bnd fun r => match r with
      | (ts, st1) => .ok (.fr es n 0 (selT es n ts), st1)) (.er "argT: cells")
    | none => .er "argT: cells"
  | v => cond (scalT v) (.ok (.sc v, st)) (.er "argT: value")
def argA (v : Value) (st : ASt) : Rs (Ta × ASt) := match v with
  | .agg vs => (toTs argT vs.toList st).bnd fun r => match r with
    | (ts, st1) => .ok (.agg ts, st1)
  | v => (argT v st).bnd fun r => match r with
    | (t, st1) => .ok (.cell t, st1)
def argsA : List Value → ASt → Rs (List Ta × ASt)
  | [], st => .ok ([], st)
  | v :: l, st => (argA v st).bnd fun r => match r with
    | (t, st1) => (argsA l st1).bnd fun q => match q with
      | (ts, st2) => .ok (t :: ts, st2)
def raA (r : Ra) (st : ASt) : Value × ASt := match r with
  | .sc x => (x, st)
  | .own es n c e => (.slice (some ⟨st.next, 0, some 0⟩) n c, st.new (.row .mine es 0 n e))
  | .still es n c e => (.slice (some ⟨st.next, 0, some 0⟩) n c, st.new (.row .still es 0 n e))
def rasA : List Ra → ASt → List Value × ASt
  | [], st => ([], st)
  | r :: l, st => match raA r st with
    | (v, st1) => match rasA l st1 with
      | (vs, st2) => (v :: vs, st2)
def rvA (r : Rv) (st : ASt) : Value × ASt := match r with
  | .cell r => raA r st
  | .agg rs => match rasA rs st with
    | (vs, st1) => (.agg vs.toArray, st1)
def rvsA : List Rv → ASt → List Value × ASt
  | [], st => ([], st)
  | r :: l, st => match rvA r st with
    | (v, st1) => match rvsA l st1 with
      | (vs, st2) => (v :: vs, st2)
def ASt.skip (st : ASt) : ASt := ⟨st.next + 1, st.h, st.lo⟩
def ansA (a : Ans) (st : ASt) : AE × ASt := match a with
  | .ret r => match rvA r st.skip with
    | (v, st1) => (.returned v, st1)
  | .rets rs => match rvsA rs st.skip with
    | (vs, st1) => (.returned (.tuple vs.toArray), st1)
  | .pan v => (.panicked v, st.skip)
/-! the same, where values are open -/
def argTN (v : Value) (st : ASt) (K : Td → ASt → Prop) : Prop := match v with
  | .slice none 0 0 => K (.fr 0 0 1 noT) st
  | .slice (some ⟨b, 0, some i0⟩) n c => match st.h.get b with
    | some (.row _ es lo m g) => need (Nat.ble lo i0 && Nat.ble (i0 + n) m) (K (.fr es n c fun i => g (i0 + i)) st)
    | _ => False
  | .slice (some ⟨b, o, none⟩) n _ => match cellsO (st.h.get b) with
    | some (cs, es) => cond ((Nat.blt 0 es || Nat.beq n 0) && Nat.ble (o + n * es) cs.length) (optK (takeL (n * es) (dropL o cs)) fun l => toTsN (toTN 4) l st fun ts st1 => K (.fr es n 0 (selT es n ts)) st1) False
    | none => False
  | v => cond (scalT v) (K (.sc v) st) False
def argAN (v : Value) (st : ASt) (K : Ta → ASt → Prop) : Prop := match v with
  | .agg vs => toTsN argTN vs.toList st fun ts st1 => K (.agg ts) st1
  | v => argTN v st fun t st1 => K (.cell t) st1
def argsAN : List Value → ASt → (List Ta → ASt → Prop) → Prop
  | [], st, K => K [] st
  | v :: l, st, K => argAN v st fun t st1 => argsAN l st1 fun ts st2 => K (t :: ts) st2
def raAN (r : Ra) (st : ASt) (K : Value → ASt → Prop) : Prop := match r with
  | .sc x => K x st
  | .own es n c e => K (.slice (some ⟨st.next, 0, some 0⟩) n c) (st.new (.row .mine es 0 n e))
  | .still es n c e => K (.slice (some ⟨st.next, 0, some 0⟩) n c) (st.new (.row .still es 0 n e))
def rasAN : List Ra → ASt → (List Value → ASt → Prop) → Prop
  | [], st, K => K [] st
  | r :: l, st, K => raAN r st fun v st1 => rasAN l st1 fun vs st2 => K (v :: vs) st2
def rvAN (r : Rv) (st : ASt) (K : Value → ASt → Prop) : Prop := match r with
  | .cell r => raAN r st K
  | .agg rs => rasAN rs st fun vs st1 => K (.agg ⟨vs⟩) st1
def rvsAN : List Rv → ASt → (List Value → ASt → Prop) → Prop
  | [], st, K => K [] st
  | r :: l, st, K => rvAN r st fun v st1 => rvsAN l st1 fun vs st2 => K (v :: vs) st2
def ansAN (a : Ans) (st : ASt) (K : AE → ASt → Prop) : Prop := match a with
  | .ret r => rvAN r st.skip fun v st1 => K (.returned v) st1
  | .rets rs => rvsAN rs st.skip fun vs st1 => K (.returned (.tuple ⟨vs⟩)) st1
  | .pan v => K (.panicked v) st.skip
theorem argTN_ok (v : Value) (st : ASt) (K : Td → ASt → Prop) (h : argTN v st K) : ∃ t st', argT v st = .ok (t, st') ∧ K t st' := by
  unfold argTN at h
  split at h
  · exact ⟨_, _, rfl, h⟩
  · rename_i b i0 n c
    split at h
    · rename_i k es lo m g hg
      obtain ⟨h1, h⟩ := need_elim h
      exact ⟨_, _, by simp only [argT, hg, h1, cond_true], h⟩
    · exact h.elim
  · rename_i b o n c
    split at h
    · rename_i cs es hg
      cases hb : ((Nat.blt 0 es || Nat.beq n 0) && Nat.ble (o + n * es) cs.length) with
      | false => rw [hb] at h; exact h.elim
      | true =>
        rw [hb] at h
        obtain ⟨l, h1, h⟩ := optK_elim h
        obtain ⟨ts, st1, h2, h⟩ := toTsN_ok (toTN_ok 4) h
        exact ⟨_, _, by simp only [argT, hg, hb, cond_true, h1, h2, Rs.of, Rs.bnd], h⟩
    · exact h.elim
  · rename_i h1 h2 h3
    cases hs : scalT v with
    | false => rw [hs] at h; exact h.elim
    | true =>
      rw [hs] at h
      refine ⟨.sc v, st, ?_, h⟩
      unfold argT
      split
      · exact (h1 rfl).elim
      · exact (h2 _ _ _ _ rfl).elim
      · exact (h3 _ _ _ _ rfl).elim
      · simp only [hs, cond_true]
theorem argAN_ok {v : Value} {st : ASt} {K : Ta → ASt → Prop} (h : argAN v st K) : ∃ t st', argA v st = .ok (t, st') ∧ K t st' := by
  unfold argAN at h
  split at h
  · obtain ⟨ts, st1, h1, h2⟩ := toTsN_ok argTN_ok h
    exact ⟨_, _, by simp only [argA, h1, Rs.bnd], h2⟩
  · rename_i hne
    obtain ⟨t, st1, h1, h2⟩ := argTN_ok _ _ _ h
    refine ⟨_, _, ?_, h2⟩
    unfold argA
    split
    · exact (hne _ rfl).elim
    · simp only [h1, Rs.bnd]
theorem argsAN_ok : ∀ {l : List Value} {st : ASt} {K : List Ta → ASt → Prop}, argsAN l st K → ∃ ts st', argsA l st = .ok (ts, st') ∧ K ts st' := by
  intro l
  induction l with
  | nil => intro st K h; exact ⟨[], st, rfl, h⟩
  | cons v l ih =>
    intro st K h
    obtain ⟨t, st1, h1, h2⟩ := argAN_ok h
    obtain ⟨ts, st2, h3, h4⟩ := ih h2
    exact ⟨t :: ts, st2, by simp only [argsA, h1, h3, Rs.bnd], h4⟩
theorem raAN_eq (r : Ra) (st : ASt) (K : Value → ASt → Prop) : raAN r st K = K (raA r st).1 (raA r st).2 := by cases r <;> rfl
theorem rasAN_eq : ∀ (l : List Ra) (st : ASt) (K : List Value → ASt → Prop), rasAN l st K = K (rasA l st).1 (rasA l st).2 := by
  intro l
  induction l with
  | nil => intro st K; rfl
  | cons r l ih => intro st K; simp only [rasAN, raAN_eq, ih]; rfl
theorem rvAN_eq (r : Rv) (st : ASt) (K : Value → ASt → Prop) : rvAN r st K = K (rvA r st).1 (rvA r st).2 := by
  cases r with
  | cell r => exact raAN_eq r st K
  | agg rs => simp only [rvAN, rasAN_eq]; rfl
theorem rvsAN_eq : ∀ (l : List Rv) (st : ASt) (K : List Value → ASt → Prop), rvsAN l st K = K (rvsA l st).1 (rvsA l st).2 := by
  intro l
  induction l with
  | nil => intro st K; rfl
  | cons r l ih => intro st K; simp only [rvsAN, rvAN_eq, ih]; rfl
theorem ansAN_eq (a : Ans) (st : ASt) (K : AE → ASt → Prop) : ansAN a st K = K (ansA a st).1 (ansA a st).2 := by
  cases a with
  | ret r => simp only [ansAN, rvAN_eq]; rfl
  | rets rs => simp only [ansAN, rvsAN_eq]; rfl
  | pan v => rfl
/-- what is told of a function -/
def treeC (ok : List Ta → Bool) (ans : List Ta → Ans) : TCon where
  run args st := (argsA args st).bnd fun r => match r with
    | (ts, st1) => cond (ok ts) (.ok (ansA (ans ts) st1)) (.er "told")
  sym args st K := argsAN args st fun ts st1 => need (ok ts) (ansAN (ans ts) st1 K)
  ok args st K h := by
    obtain ⟨ts, st1, h1, h2⟩ := argsAN_ok h
    obtain ⟨h3, h4⟩ := need_elim h2
    rw [ansAN_eq] at h4
    exact ⟨_, _, by simp only [h1, Rs.bnd, h3, cond_true], h4⟩

/-! ### what is given holds -/
theorem argT_rel (v : Value) (st : ASt) (t : Td) (st' : ASt) (h : argT v st = .ok (t, st')) : LoS st st' ∧ ∀ {ρ : Rho} {w : World} {y : Value}, VR ρ v y → WR ρ st.h.get w → Fresh ρ st.next st'.next → ∃ ρ', Mv ρ ρ' st.h.get st'.h.get st.next st'.next w w ∧ TRo w (Frz ρ') t y := by
  unfold argT at h
  split at h
  · cases h
    refine ⟨LoS.refl _, fun {ρ w y} hv hw hf => ?_⟩
    cases hv
    exact ⟨ρ, Mv.refl hw _, .inl ⟨rfl, rfl, rfl⟩⟩
  · rename_i b i0 n c
    split at h
    · rename_i k es lo m g hg
      obtain ⟨hc, h⟩ := cond_ok h
      cases h
      simp only [Bool.and_eq_true] at hc
      have k1 := Nat.le_of_ble_eq_true hc.1
      have k2 := Nat.le_of_ble_eq_true hc.2
      refine ⟨LoS.refl _, fun {ρ w y} hv hw hf => ⟨ρ, Mv.refl hw _, ?_⟩⟩
      obtain ⟨s, e1, f1, f2, f3, fz, f4⟩ := hw.obj _ _ hg
      cases hv with
      | sliceI _ _ s' _ _ c' o' hsp hnc hcc hro hvd ho =>
        rw [hsp] at e1; cases e1
        rcases Nat.eq_zero_or_pos n with h0 | h0
        · subst h0
          have hc0 : c = 0 := by
            rcases Nat.eq_zero_or_pos c with h | h
            · exact h
            · have := hcc (by omega); omega
          exact .inr (.inl ⟨rfl, hc0, _, _, rfl⟩)
        · have ho' : o' = s.base + i0 * s.es := by rcases ho with ho | ho; exact ho; omega
          refine .inr (.inr ⟨h0, s.blk, o', c', rfl, hnc, hw.blk _ _ hsp hvd, fun i hi j hj => ?_⟩)
          obtain ⟨z, z1, z2, z3⟩ := f4 (i0 + i) (by omega) (by omega) j hj
          refine ⟨z, ?_, z2, z3⟩
          rw [← z1, ho', f1]; congr 2; rw [Nat.add_mul]; omega
      | sliceE _ _ c' x s' hsx hex => exact .inr (.inl ⟨rfl, rfl, _, _, rfl⟩)
      | sliceN => exact .inl ⟨rfl, rfl, rfl⟩
      | sliceZ => exact .inr (.inl ⟨rfl, rfl, _, _, rfl⟩)
    · cases h
  · rename_i b o n c
    split at h
    · rename_i cs es hg
      obtain ⟨hc, h⟩ := cond_ok h
      obtain ⟨l, h1, h⟩ := bnd_ok h
      obtain ⟨⟨ts, st1⟩, h2, h⟩ := bnd_ok h
      cases h
      simp only [Bool.and_eq_true] at hc
      have k2 := Nat.le_of_ble_eq_true hc.2
      have h1 := of_ok h1
      obtain ⟨p1, p2⟩ := takeL_some h1
      rw [dropL_eq] at p1 p2
      obtain ⟨b1, b2⟩ := toTs_rel (toT_rel 4) _ _ _ _ h2
      refine ⟨b1, fun {ρ w y} hv hw hf => ?_⟩
      cases hv with
      | slice _ _ s _ _ c' o' hsp hn hcc hxx hro hoo =>
        obtain ⟨f0, C, tt, fr, f3, f6, f7⟩ := cellsO_ok hg hw hsp
        have hlen : l.length = n * es := by rw [p2]; simp at p1 ⊢; omega
        let l' := (C.toList.drop (s.base + o)).take (n * es)
        have hl' : ∀ j z, l'[j]? = some z → j < n * es ∧ C[s.base + o + j]? = some z := by
          intro j z hz
          simp only [l', List.getElem?_take] at hz
          split at hz
          · rename_i hj
            simp only [List.getElem?_drop, Array.getElem?_toList] at hz
            exact ⟨hj, hz⟩
          · cases hz
        have hll : l'.length = n * es := by simp [l']; omega
        have hvl : VRL ρ l l' := by
          refine ⟨by rw [hlen, hll], fun j x z hx hz => ?_⟩
          rw [p2, List.getElem?_take] at hx
          split at hx
          · rw [List.getElem?_drop] at hx
            obtain ⟨z', z1, z2⟩ := f7 _ x hx
            have := (hl' j z hz).2
            rw [show s.base + o + j = s.base + (o + j) by omega, z1] at this
            cases this; exact z2
          · cases hx
        obtain ⟨ρ1, m1, t1, o1⟩ := b2 hvl hw hf
        refine ⟨ρ1, m1, ?_⟩
        rcases Nat.eq_zero_or_pos n with h0 | h0
        · subst h0
          exact .inr (.inl ⟨rfl, rfl, _, _, rfl⟩)
        · have ho' : o' = s.base + o := by rcases hoo with h | h; exact h; omega
          refine .inr (.inr ⟨h0, s.blk, o', c', rfl, by omega, hw.blk _ _ hsp f0, fun i hi j hj => ?_⟩)
          have hij : i * es + j < n * es := by
            have := Nat.mul_le_mul_right es (Nat.succ_le_of_lt hi)
            rw [Nat.succ_mul] at this; omega
          have hz : l'[i * es + j]? = some l'[i * es + j] := List.getElem?_eq_getElem (by omega)
          obtain ⟨_, q2⟩ := hl' _ _ hz
          have htl : i * es + j < ts.length := by rw [t1.1, hll]; exact hij
          have ht : ts[i * es + j]? = some ts[i * es + j] := List.getElem?_eq_getElem htl
          refine ⟨_, ?_, o1 _ (List.mem_of_getElem? hz), selT_rel n ts i j _ _ hi hj ht (t1.2 _ _ _ ht hz)⟩
          rw [cell_row f3, ho', ← q2]; congr 1; omega
    · cases h
  · obtain ⟨hs, h⟩ := cond_ok h
    cases h
    refine ⟨LoS.refl _, fun {ρ w y} hv hw hf => ?_⟩
    exact ⟨ρ, Mv.refl hw _, (scalT_rel hs hv).1⟩
theorem argTs_rel : ∀ (l : List Value) (st st' : ASt) (ts : List Td), toTs argT l st = .ok (ts, st') →
    LoS st st' ∧ ∀ {ρ : Rho} {w : World} {l' : List Value}, VRL ρ l l' → WR ρ st.h.get w → Fresh ρ st.next st'.next → ∃ ρ', Mv ρ ρ' st.h.get st'.h.get st.next st'.next w w ∧ PW (TRo w (Frz ρ')) ts l' := by
  intro l
  induction l with
  | nil =>
    intro st st' ts h
    cases h
    refine ⟨LoS.refl _, fun {ρ w l'} hv hw hf => ?_⟩
    have := hv.nil_inv
    subst this
    exact ⟨ρ, Mv.refl hw _, PW.nil _⟩
  | cons v l ih =>
    intro st st' ts h
    unfold toTs at h
    obtain ⟨⟨t, st1⟩, h1, h⟩ := bnd_ok h
    obtain ⟨⟨ts', st2⟩, h2, h⟩ := bnd_ok h
    cases h
    obtain ⟨a1, a2⟩ := argT_rel _ _ _ _ h1
    obtain ⟨b1, b2⟩ := ih _ _ _ h2
    refine ⟨a1.trans b1, fun {ρ w l'} hv hw hf => ?_⟩
    obtain ⟨y, m, rfl, hy, hm⟩ := hv.uncons
    obtain ⟨ρ1, m1, t1⟩ := a2 hy hw (hf.left b1.1)
    obtain ⟨ρ2, m2, t2⟩ := b2 (hm.mono m1.ext) m1.wr (m1.fresh hf)
    exact ⟨ρ2, m1.trans m2, PW.cons (t1.mono (fun b => Frz.mono m2.ext)) t2⟩
theorem argA_rel {v : Value} {st st' : ASt} {t : Ta} (h : argA v st = .ok (t, st')) : LoS st st' ∧ ∀ {ρ : Rho} {w : World} {y : Value}, VR ρ v y → WR ρ st.h.get w → Fresh ρ st.next st'.next → ∃ ρ', Mv ρ ρ' st.h.get st'.h.get st.next st'.next w w ∧ TaR w (Frz ρ') t y := by
  unfold argA at h
  split at h
  · rename_i vs
    obtain ⟨⟨ts, st1⟩, h1, h⟩ := bnd_ok h
    cases h
    obtain ⟨b1, b2⟩ := argTs_rel _ _ _ _ h1
    refine ⟨b1, fun {ρ w y} hv hw hf => ?_⟩
    cases hv with
    | agg a a' ha hh =>
      obtain ⟨ρ', m1, t1⟩ := b2 (VRL.of_arrays ha hh) hw hf
      exact ⟨ρ', m1, a', rfl, t1⟩
  · obtain ⟨⟨t, st1⟩, h1, h⟩ := bnd_ok h
    cases h
    exact argT_rel _ _ _ _ h1
theorem argsA_rel : ∀ (l : List Value) (st st' : ASt) (ts : List Ta), argsA l st = .ok (ts, st') →
    LoS st st' ∧ ∀ {ρ : Rho} {w : World} {l' : List Value}, VRL ρ l l' → WR ρ st.h.get w → Fresh ρ st.next st'.next → ∃ ρ', Mv ρ ρ' st.h.get st'.h.get st.next st'.next w w ∧ PW (TaR w (Frz ρ')) ts l' := by
  intro l
  induction l with
  | nil =>
    intro st st' ts h
    cases h
    refine ⟨LoS.refl _, fun {ρ w l'} hv hw hf => ?_⟩
    have := hv.nil_inv
    subst this
    exact ⟨ρ, Mv.refl hw _, PW.nil _⟩
  | cons v l ih =>
    intro st st' ts h
    unfold argsA at h
    obtain ⟨⟨t, st1⟩, h1, h⟩ := bnd_ok h
    obtain ⟨⟨ts', st2⟩, h2, h⟩ := bnd_ok h
    cases h
    obtain ⟨a1, a2⟩ := argA_rel h1
    obtain ⟨b1, b2⟩ := ih _ _ _ h2
    refine ⟨a1.trans b1, fun {ρ w l'} hv hw hf => ?_⟩
    obtain ⟨y, m, rfl, hy, hm⟩ := hv.uncons
    obtain ⟨ρ1, m1, t1⟩ := a2 hy hw (hf.left b1.1)
    obtain ⟨ρ2, m2, t2⟩ := b2 (hm.mono m1.ext) m1.wr (m1.fresh hf)
    exact ⟨ρ2, m1.trans m2, PW.cons (t1.mono (fun b => Frz.mono m2.ext)) t2⟩

/-! ### what is answered is had -/
/-- one more object, of what was made -/
theorem Mv.gain {ρ ρ1 : Rho} {g g1 : Mem} {n n1 : Nat} {w w' : World} (M : Mv ρ ρ1 g g1 n n1 w w') (hf : ρ1 n1 = none) (o : AObj) (how : o.isOwn = true) (s : Spot) (hz : ∀ b, ¬ s.fz b) (hgl : ∀ b ∈ glB, b < w.heap.size) (hsv : s.void = false) (h1 : w.heap.size ≤ s.blk) (h2 : s.blk < w'.heap.size) (h3 : ¬ Frz ρ1 s.blk)
    (h4 : ∀ a oa sa, g1 a = some oa → ρ1 a = some sa → sa.void = false → sa.blk ≠ s.blk) (ho : ObjR (upd ρ1 n1 (some s)) o s w') : Mv ρ (upd ρ1 n1 (some s)) g (upd g1 n1 (some o)) n (n1 + 1) w w' := by
  have hsub : Sub ρ1 (upd ρ1 n1 (some s)) := Sub.upd s hf
  have hown : ∀ b, Own (upd g1 n1 (some o)) (upd ρ1 n1 (some s)) b → b = s.blk ∨ Own g1 ρ1 b := fun b hb => by
    obtain ⟨a, o', s', e1, e0, e2, e4, e3⟩ := hb
    by_cases ha : a = n1
    · subst ha; rw [upd_same] at e2; cases e2; exact .inl e3.symm
    · rw [upd_ne _ _ ha] at e1 e2; exact .inr ⟨a, o', s', e1, e0, e2, e4, e3⟩
  have hn := M.nx
  refine ⟨by omega, M.ext.trans hsub, fun a t e => ?_, M.size, M.frm, fun b hb => ?_, M.os, M.tape, M.output, ⟨fun a t e hv => ?_, fun a o' e => ?_, fun a b oa ob sa sb ea eb eo ra rb va vb heq => ?_, fun b hb => ?_, fun b hb => by
    obtain ⟨k1, k2, k3⟩ := M.wr.gl b hb
    refine ⟨k1, k2, fun h => ?_⟩
    rcases hown b h with rfl | h
    · have := hgl _ hb; omega
    · exact k3 h⟩, fun a o' e => ?_, fun a o' e ho' => ?_, fun b hb => M.fzn b (hb.upd_no hz)⟩
  · by_cases ha : a = n1
    · exact .inr (by omega)
    · rw [upd_ne _ _ ha] at e
      rcases M.new a t e with h | h
      · exact .inl h
      · exact .inr (by omega)
  · rcases hown b hb with rfl | h
    · exact .inl h1
    · exact M.own b h
  · by_cases ha : a = n1
    · subst ha; rw [upd_same] at e; cases e; exact h2
    · rw [upd_ne _ _ ha] at e; exact M.wr.blk a t e hv
  · by_cases ha : a = n1
    · subst ha; rw [upd_same] at e; cases e; exact ⟨s, upd_same _ _ _, ho⟩
    · rw [upd_ne _ _ ha] at e
      obtain ⟨s', e1, e2⟩ := M.wr.obj a o' e
      exact ⟨s', by rw [upd_ne _ _ ha]; exact e1, e2.kept hsub (fun _ => rfl) (fun _ _ => rfl)⟩
  · by_cases ha : a = n1
    · by_cases hb : b = n1
      · omega
      · subst ha; rw [upd_same] at ra; cases ra
        rw [upd_ne _ _ hb] at rb eb
        exact (h4 b ob sb eb rb vb heq.symm).elim
    · by_cases hb : b = n1
      · subst hb; rw [upd_same] at rb; cases rb
        rw [upd_ne _ _ ha] at ra ea
        exact (h4 a oa sa ea ra va heq).elim
      · rw [upd_ne _ _ ha] at ra ea; rw [upd_ne _ _ hb] at rb eb
        exact M.wr.inj a b oa ob sa sb ea eb eo ra rb va vb heq
  · have hb1 := hb.upd_no hz
    refine ⟨(M.wr.fz b hb1).1, fun h => ?_⟩
    rcases hown b h with rfl | h
    · exact h3 hb1
    · exact (M.wr.fz b hb1).2 h
  · by_cases ha : a = n1
    · exact .inr (by omega)
    · rw [upd_ne _ _ ha] at e
      rcases M.dom a o' e with h | h
      · exact .inl h
      · exact .inr (by omega)
  · by_cases ha : a = n1
    · subst ha; rw [upd_same] at e; cases e; rw [how] at ho'; cases ho'
    · rw [upd_ne _ _ ha] at e
      rcases M.ro a o' e ho' with h | h
      · exact .inl h
      · refine .inr fun t ht hv => ?_
        rw [upd_ne _ _ ha] at ht
        exact (h t ht hv).mono hsub
/-- what is had so far; l: blocks that are one's own now -/
structure Had (F : Nat → Prop) (ρ ρ1 : Rho) (g g1 : Mem) (n n1 : Nat) (w w' : World) (l : List Nat) : Prop where
  mv : Mv ρ ρ1 g g1 n n1 w w'
  fz : ∀ b, F b → Frz ρ1 b
  fzi : ∀ b, Frz ρ1 b → b < w.heap.size ∨ F b
  at_ : ∀ a oa sa, g1 a = some oa → ρ1 a = some sa → sa.void = false → sa.blk < w.heap.size ∨ Frz ρ1 sa.blk ∨ sa.blk ∈ l
  gl : ∀ b ∈ glB, b < w.heap.size
theorem raA_had {F : Nat → Prop} {ρ ρ1 : Rho} {g : Mem} {st : ASt} {n : Nat} {w w' : World} {l l1 : List Nat} {r : Ra} {y : Value} (H : Had F ρ ρ1 g st.h.get n st.next w w' l) (hr : RaR w w' F r y l1) (hnd : (l ++ l1).Nodup) (hf : Fresh ρ1 st.next (raA r st).2.next) :
    ∃ ρ2, Had F ρ ρ2 g (raA r st).2.h.get n (raA r st).2.next w w' (l ++ l1) ∧ VR ρ2 (raA r st).1 y ∧ Sub ρ1 ρ2 ∧ (∀ N, Fresh ρ1 st.next N → Fresh ρ2 (raA r st).2.next N) := by
  have hfr : ∀ (s : Spot) N, Fresh ρ1 st.next N → Fresh (upd ρ1 st.next (some s)) (st.next + 1) N := fun s N h a h1 h2 => by rw [upd_ne _ _ (by omega)]; exact h a (by omega) h2
  have hgn : ∀ o, (st.new o).h.get = upd st.h.get st.next (some o) := fun o => by simp [ASt.new, set_get]
  cases r with
  | sc x =>
    obtain ⟨rfl, hv⟩ := hr
    rw [List.append_nil]
    exact ⟨ρ1, H, hv.mono (noRho_sub _), Sub.refl _, fun N h => h⟩
  | still es n0 c e =>
    obtain ⟨rfl, ht⟩ := hr
    rw [List.append_nil]
    have hfn : ρ1 st.next = none := hf _ (Nat.le_refl _) (Nat.lt_succ_self _)
    have ht' : TR w' (Frz ρ1) (.fr es n0 c e) y := ht.kept H.fz (fun _ _ => rfl)
    obtain ⟨ρ2, m1, v1⟩ := look_rel (k := st.next) ht' H.mv.wr hfn
    refine ⟨ρ2, ⟨by show Mv ρ ρ2 g (st.new _).h.get n (st.next + 1) w w'; rw [hgn]; exact H.mv.trans m1, fun b hb => (H.fz b hb).mono m1.ext, fun b hb => ?_, fun a oa sa ea ra va => ?_, H.gl⟩, v1, m1.ext, fun N h => m1.fresh h⟩
    · rcases m1.fzn b hb with h1 | h1 | h1
      · exact H.fzi b h1
      · have := (m1.wr.fz b hb).1; omega
      · have := (m1.wr.fz b hb).2
        obtain ⟨a, o, s, q1, q2, q3, q4⟩ := h1
        have hne : a ≠ st.next := fun e => by subst e; rw [hfn] at q3; cases q3
        exact (this ⟨a, o, s, by rw [upd_ne _ _ hne]; exact q1, q2, m1.ext a s q3, q4⟩).elim
    · have ea : upd st.h.get st.next (some (.row .still es 0 n0 e)) a = some oa := by rw [← hgn]; exact ea
      by_cases ha : a = st.next
      · subst ha
        rw [upd_same] at ea; cases ea
        obtain ⟨s', q1, _, _, _, q2, _⟩ := m1.wr.obj st.next _ (upd_same _ _ _)
        rw [ra] at q1; cases q1
        exact .inr (.inl (q2 rfl va))
      · rw [upd_ne _ _ ha] at ea
        obtain ⟨s', q1, _⟩ := H.mv.wr.obj a oa ea
        have hq : s' = sa := Option.some.inj ((m1.ext a s' q1).symm.trans ra)
        subst hq
        rcases H.at_ a oa s' ea q1 va with h | h | h
        · exact .inl h
        · exact .inr (.inl (h.mono m1.ext))
        · exact .inr (.inr h)
  | own es n0 c e =>
    have hfn : ρ1 st.next = none := hf _ (Nat.le_refl _) (Nat.lt_succ_self _)
    rcases hr with ⟨rfl, rfl, hy⟩ | ⟨b, o, c', C, t, fr, rfl, rfl, h1, h2, h3, h4, h5, h6, h7, h8⟩
    · rw [List.append_nil]
      have m1 : Mv ρ1 (upd ρ1 st.next (some ⟨0, 0, false, es, 0, true, nofz⟩)) st.h.get (upd st.h.get st.next (some (.row .mine es 0 0 e))) st.next (st.next + 1) w' w' := Mv.rowVoid H.mv.wr hfn rfl rfl rfl rfl
      refine ⟨_, ⟨by show Mv ρ _ g (st.new _).h.get n (st.next + 1) w w'; rw [hgn]; exact H.mv.trans m1, fun b hb => (H.fz b hb).mono m1.ext, fun b hb => H.fzi b (hb.upd_no fun _ h => h), fun a oa sa ea ra va => ?_, H.gl⟩, ?_, m1.ext, fun N h => m1.fresh h⟩
      · have ea : upd st.h.get st.next (some (.row .mine es 0 0 e)) a = some oa := by rw [← hgn]; exact ea
        by_cases ha : a = st.next
        · subst ha; rw [upd_same] at ra; cases ra; cases va
        · rw [upd_ne _ _ ha] at ea ra
          rcases H.at_ a oa sa ea ra va with h | h | h
          · exact .inl h
          · exact .inr (.inl (h.mono m1.ext))
          · exact .inr (.inr h)
      · rcases hy with ⟨rfl, rfl⟩ | ⟨rfl, a, rfl⟩
        · exact .sliceN _ _
        · exact .sliceZ _ _ _
    · have hbl : b ∉ l := fun hb => by
        have := List.nodup_append.1 hnd
        exact this.2.2 b hb b (by simp) rfl
      have hsub : Sub ρ1 (upd ρ1 st.next (some ⟨b, o, false, es, C.size, false, nofz⟩)) := Sub.upd _ hfn
      have hnf : ¬ Frz ρ1 b := fun h => by
        rcases H.fzi b h with h | h
        · omega
        · exact h7 h
      have hlt : b < w'.heap.size := (Array.getElem?_eq_some_iff.1 h4).1
      have hmul : n0 * es ≤ c' * es := Nat.mul_le_mul_right _ h1
      refine ⟨upd ρ1 st.next (some ⟨b, o, false, es, C.size, false, nofz⟩), ⟨?_, fun b hb => (H.fz b hb).mono hsub, fun b hb => H.fzi b (hb.upd_no fun _ h => h), fun a oa sa ea ra va => ?_, H.gl⟩, ?_, hsub, hfr _⟩
      · show Mv ρ _ g (st.new _).h.get n (st.next + 1) w w'
        rw [hgn]
        refine Mv.gain H.mv hfn _ rfl ⟨b, o, false, es, C.size, false, nofz⟩ (fun _ h => h) H.gl rfl h3 hlt hnf (fun a oa sa ea ra va heq => ?_) ⟨rfl, (fun h => by cases h), fun _ => ⟨rfl, rfl, fun _ => ⟨C, t, fr, h4, rfl, h5, by show o + n0 * es ≤ C.size; omega⟩⟩, (fun h => by cases h), fun i _ hi j hj => ?_⟩
        · have heq : sa.blk = b := heq
          rcases H.at_ a oa sa ea ra va with h | h | h
          · omega
          · rw [heq] at h; exact hnf h
          · rw [heq] at h; exact hbl h
        · obtain ⟨z, z1, z2, z3⟩ := h8 i hi j hj
          refine ⟨z, ?_, z2, z3.kept (fun b hb => (H.fz b hb).mono hsub) (fun _ _ => rfl)⟩
          rw [cell_row h4]; exact z1
      · have ea : upd st.h.get st.next (some (.row .mine es 0 n0 e)) a = some oa := by rw [← hgn]; exact ea
        by_cases ha : a = st.next
        · subst ha; rw [upd_same] at ra; cases ra; exact .inr (.inr (by simp))
        · rw [upd_ne _ _ ha] at ea ra
          rcases H.at_ a oa sa ea ra va with h | h | h
          · exact .inl h
          · exact .inr (.inl (h.mono hsub))
          · exact .inr (.inr (List.mem_append_left _ h))
      · exact .sliceI st.next 0 ⟨b, o, false, es, C.size, false, nofz⟩ _ _ c' o (upd_same _ _ _) h1 h2 (fun _ => h6) rfl (.inl (by simp))
theorem rasA_had {F : Nat → Prop} {ρ : Rho} {g : Mem} {n : Nat} {w w' : World} : ∀ (rs : List Ra) (ys : List Value) (l l1 : List Nat) (ρ1 : Rho) (st : ASt), Had F ρ ρ1 g st.h.get n st.next w w' l → RasR w w' F rs ys l1 → (l ++ l1).Nodup → Fresh ρ1 st.next (rasA rs st).2.next →
    ∃ ρ2, Had F ρ ρ2 g (rasA rs st).2.h.get n (rasA rs st).2.next w w' (l ++ l1) ∧ VRL ρ2 (rasA rs st).1 ys ∧ Sub ρ1 ρ2 ∧ (∀ N, Fresh ρ1 st.next N → Fresh ρ2 (rasA rs st).2.next N) := by
  intro rs
  induction rs with
  | nil =>
    intro ys l l1 ρ1 st H hr hnd hf
    cases ys with
    | nil =>
      have : l1 = [] := hr
      subst this
      rw [List.append_nil]
      exact ⟨ρ1, H, VRL.nil _, Sub.refl _, fun N h => h⟩
    | cons => exact hr.elim
  | cons r rs ih =>
    intro ys l l1 ρ1 st H hr hnd hf
    cases ys with
    | nil => exact hr.elim
    | cons y ys =>
      obtain ⟨a1, a2, rfl, k1, k2⟩ := hr
      have hle : (raA r st).2.next ≤ (rasA (r :: rs) st).2.next := by
        have : ∀ (l : List Ra) (s : ASt), s.next ≤ (rasA l s).2.next := by
          intro l
          induction l with
          | nil => intro s; exact Nat.le_refl _
          | cons q l ihl =>
            intro s
            have h1 : s.next ≤ (raA q s).2.next := by cases q <;> simp [raA, ASt.new]
            exact Nat.le_trans h1 (ihl _)
        exact this rs _
      rw [← List.append_assoc] at hnd
      obtain ⟨ρ2, H2, v2, s2, f2⟩ := raA_had H k1 (List.nodup_append.1 hnd).1 (hf.left hle)
      obtain ⟨ρ3, H3, v3, s3, f3⟩ := ih ys (l ++ a1) a2 ρ2 (raA r st).2 H2 k2 hnd (f2 _ hf)
      rw [List.append_assoc] at H3
      exact ⟨ρ3, H3, VRL.cons (v2.mono s3) v3, s2.trans s3, fun N h => f3 N (f2 N h)⟩
theorem raA_next (r : Ra) (st : ASt) : st.next ≤ (raA r st).2.next ∧ LoS st (raA r st).2 := by
  cases r with
  | sc x => exact ⟨Nat.le_refl _, LoS.refl _⟩
  | own => exact ⟨Nat.le_succ _, LoS.new _ _⟩
  | still => exact ⟨Nat.le_succ _, LoS.new _ _⟩
theorem rasA_next : ∀ (l : List Ra) (s : ASt), s.next ≤ (rasA l s).2.next ∧ LoS s (rasA l s).2 := by
  intro l
  induction l with
  | nil => intro s; exact ⟨Nat.le_refl _, LoS.refl _⟩
  | cons q l ihl =>
    intro s
    obtain ⟨h1, h2⟩ := raA_next q s
    obtain ⟨h3, h4⟩ := ihl (raA q s).2
    exact ⟨Nat.le_trans h1 h3, h2.trans h4⟩
theorem rvA_next (r : Rv) (st : ASt) : st.next ≤ (rvA r st).2.next ∧ LoS st (rvA r st).2 := by
  cases r with
  | cell r => exact raA_next r st
  | agg rs => exact rasA_next rs st
theorem rvsA_next : ∀ (l : List Rv) (s : ASt), s.next ≤ (rvsA l s).2.next ∧ LoS s (rvsA l s).2 := by
  intro l
  induction l with
  | nil => intro s; exact ⟨Nat.le_refl _, LoS.refl _⟩
  | cons q l ihl =>
    intro s
    obtain ⟨h1, h2⟩ := rvA_next q s
    obtain ⟨h3, h4⟩ := ihl (rvA q s).2
    exact ⟨Nat.le_trans h1 h3, h2.trans h4⟩
theorem rvA_had {F : Nat → Prop} {ρ ρ1 : Rho} {g : Mem} {st : ASt} {n : Nat} {w w' : World} {l l1 : List Nat} {r : Rv} {y : Value} (H : Had F ρ ρ1 g st.h.get n st.next w w' l) (hr : RvR w w' F r y l1) (hnd : (l ++ l1).Nodup) (hf : Fresh ρ1 st.next (rvA r st).2.next) :
    ∃ ρ2, Had F ρ ρ2 g (rvA r st).2.h.get n (rvA r st).2.next w w' (l ++ l1) ∧ VR ρ2 (rvA r st).1 y ∧ Sub ρ1 ρ2 ∧ (∀ N, Fresh ρ1 st.next N → Fresh ρ2 (rvA r st).2.next N) := by
  cases r with
  | cell r => exact raA_had H hr hnd hf
  | agg rs =>
    obtain ⟨a, rfl, h⟩ := hr
    obtain ⟨ρ2, H2, v2, s2, f2⟩ := rasA_had rs _ l l1 ρ1 st H h hnd hf
    have hv := VR.agg' v2
    exact ⟨ρ2, H2, hv, s2, f2⟩
theorem rvsA_had {F : Nat → Prop} {ρ : Rho} {g : Mem} {n : Nat} {w w' : World} : ∀ (rs : List Rv) (ys : List Value) (l l1 : List Nat) (ρ1 : Rho) (st : ASt), Had F ρ ρ1 g st.h.get n st.next w w' l → RvsR w w' F rs ys l1 → (l ++ l1).Nodup → Fresh ρ1 st.next (rvsA rs st).2.next →
    ∃ ρ2, Had F ρ ρ2 g (rvsA rs st).2.h.get n (rvsA rs st).2.next w w' (l ++ l1) ∧ VRL ρ2 (rvsA rs st).1 ys ∧ Sub ρ1 ρ2 ∧ (∀ N, Fresh ρ1 st.next N → Fresh ρ2 (rvsA rs st).2.next N) := by
  intro rs
  induction rs with
  | nil =>
    intro ys l l1 ρ1 st H hr hnd hf
    cases ys with
    | nil =>
      have : l1 = [] := hr
      subst this
      rw [List.append_nil]
      exact ⟨ρ1, H, VRL.nil _, Sub.refl _, fun N h => h⟩
    | cons => exact hr.elim
  | cons r rs ih =>
    intro ys l l1 ρ1 st H hr hnd hf
    cases ys with
    | nil => exact hr.elim
    | cons y ys =>
      obtain ⟨a1, a2, rfl, k1, k2⟩ := hr
      have hle : (rvA r st).2.next ≤ (rvsA (r :: rs) st).2.next := (rvsA_next rs _).1
      rw [← List.append_assoc] at hnd
      obtain ⟨ρ2, H2, v2, s2, f2⟩ := rvA_had H k1 (List.nodup_append.1 hnd).1 (hf.left hle)
      obtain ⟨ρ3, H3, v3, s3, f3⟩ := ih ys (l ++ a1) a2 ρ2 (rvA r st).2 H2 k2 hnd (f2 _ hf)
      rw [List.append_assoc] at H3
      exact ⟨ρ3, H3, VRL.cons (v2.mono s3) v3, s2.trans s3, fun N h => f3 N (f2 N h)⟩
/-- which blocks are written no more -/
theorem Mv.markF {ρ : Rho} {g : Mem} {w w' : World} {n : Nat} (h : WR ρ g w) (hf : ρ n = none) (hb : Below w.heap.size w w') (F : Nat → Prop) (hF : ∀ b, F b → (w.heap.size ≤ b ∧ b < w'.heap.size) ∨ Frz ρ b) : Mv ρ (upd ρ n (some ⟨0, 0, true, 0, 0, true, F⟩)) g g n (n + 1) w w' := by
  have hsub : Sub ρ (upd ρ n (some ⟨0, 0, true, 0, 0, true, F⟩)) := Sub.upd _ hf
  have hM := Mv.below h n hb
  have hgn : ∀ a o, g a = some o → a ≠ n := fun a o e he => by
    subst he
    obtain ⟨s', e1, _⟩ := h.obj a o e
    rw [hf] at e1; cases e1
  have hown : ∀ b, Own g (upd ρ n (some ⟨0, 0, true, 0, 0, true, F⟩)) b → Own g ρ b := fun b ⟨a, o, s', e1, e0, e2, e3⟩ => ⟨a, o, s', e1, e0, by rw [upd_ne _ _ (hgn a o e1)] at e2; exact e2, e3⟩
  refine ⟨by omega, hsub, fun a t e => ?_, hM.size, hM.frm, fun b hb => .inr (hown b hb), hM.os, hM.tape, hM.output, ⟨fun a t e hv => ?_, fun a o e => ?_, fun a b oa ob sa sb ea eb eo ra rb => ?_, fun b hb => ?_, gl_own hM.wr hown⟩, fun a o e => .inl ⟨o, e⟩, fun a o e _ => .inl e, fun b hb => ?_⟩
  · by_cases ha : a = n
    · exact .inr (by omega)
    · rw [upd_ne _ _ ha] at e; exact .inl e
  · by_cases ha : a = n
    · subst ha; rw [upd_same] at e; cases e; cases hv
    · rw [upd_ne _ _ ha] at e; exact hM.wr.blk a t e hv
  · obtain ⟨s', e1, e2⟩ := hM.wr.obj a o e
    exact ⟨s', by rw [upd_ne _ _ (hgn a o e)]; exact e1, e2.kept hsub (fun _ => rfl) (fun _ _ => rfl)⟩
  · rw [upd_ne _ _ (hgn a oa ea)] at ra
    rw [upd_ne _ _ (hgn b ob eb)] at rb
    exact hM.wr.inj a b oa ob sa sb ea eb eo ra rb
  · have old : ∀ b, Own g ρ b → b < w.heap.size := fun b ⟨a, o, s, e1, e0, e2, e3, e4⟩ => by have := h.blk a s e2 e3; omega
    rcases hb.upd_inv with h1 | h1
    · exact ⟨(hM.wr.fz b h1).1, fun h2 => (hM.wr.fz b h1).2 (hown b h2)⟩
    · rcases hF b h1 with h2 | h2
      · exact ⟨h2.2, fun h3 => by have := old b (hown b h3); omega⟩
      · exact ⟨(hM.wr.fz b h2).1, fun h3 => (hM.wr.fz b h2).2 (hown b h3)⟩
  · rcases hb.upd_inv with h1 | h1
    · exact .inl h1
    · rcases hF b h1 with h2 | h2
      · exact .inr (.inl h2.1)
      · exact .inl h2
theorem skip_lo (st : ASt) : LoS st st.skip := LoS.skip st st.lo (Nat.le_refl _)
/-- **what is told of a function by trees may be told to the evaluator** -/
theorem tree_told {P : Program} {g : FuncId} {ok : List Ta → Bool} {ans : List Ta → Ans} (h : ToldW P g ok ans) : ∀ args st r st', Wf st → (treeC ok ans).run args st = .ok (r, st') → LoS st st' ∧ ∀ ρ w (args' : Array Value), VRL ρ args args'.toList → WR ρ st.h.get w → Fresh ρ st.next st'.next →
    Calls P g args' w fun e w' => ∃ ρ', EndR ρ' r e ∧ Mv ρ ρ' st.h.get st'.h.get st.next st'.next w w' := by
  intro args st r st' hwf hr
  simp only [treeC] at hr
  obtain ⟨⟨ts, st1⟩, h1, hr⟩ := bnd_ok hr
  obtain ⟨hok, hr⟩ := cond_ok hr
  obtain ⟨a1, a2⟩ := argsA_rel _ _ _ _ h1
  have hr : ansA (ans ts) st1 = (r, st') := Rs.ok.inj hr
  have hlo : LoS st1.skip st' := by
    have : st' = (ansA (ans ts) st1).2 := by rw [hr]
    rw [this]
    cases ans ts with
    | ret r => exact (rvA_next r _).2
    | rets rs => exact (rvsA_next rs _).2
    | pan v => exact LoS.refl _
  refine ⟨a1.trans ((skip_lo st1).trans hlo), fun ρ w args' hv hw hfr => ?_⟩
  have hn1 : st1.next + 1 ≤ st'.next := hlo.1
  obtain ⟨ρ1, m1, t1⟩ := a2 hv hw (hfr.left (by omega))
  have hf1 := m1.fresh hfr
  refine (h ts hok w args' (Frz ρ1) ⟨fun b hb => (m1.wr.fz b hb).1, m1.wr.glA⟩ t1).mono fun e w' he => ?_
  obtain ⟨hbel, F', hF', he⟩ := he
  have mk := Mv.markF (n := st1.next) m1.wr (hf1 _ (Nat.le_refl _) (by omega)) hbel F' hF'
  have H : Had F' ρ1 (upd ρ1 st1.next (some ⟨0, 0, true, 0, 0, true, F'⟩)) st1.h.get st1.skip.h.get st1.next st1.skip.next w w' [] := ⟨mk, fun b hb => ⟨st1.next, _, upd_same _ _ _, hb⟩, fun b hb => by
      rcases hb.upd_inv with h1 | h1
      · exact .inl (m1.wr.fz b h1).1
      · exact .inr h1, fun a oa sa ea ra va => .inl (by
      have hne : a ≠ st1.next := fun he => by
        subst he
        obtain ⟨s', e1, _⟩ := m1.wr.obj _ oa ea
        rw [hf1 _ (Nat.le_refl _) (by omega)] at e1; cases e1
      rw [upd_ne _ _ hne] at ra
      exact m1.wr.blk a sa ra va), fun b hb => (hw.gl b hb).1⟩
  have hf2 : ∀ N, Fresh ρ1 st1.next N → Fresh (upd ρ1 st1.next (some ⟨0, 0, true, 0, 0, true, F'⟩)) st1.skip.next N := fun N h a k1 k2 => by
    have k1 : st1.next + 1 ≤ a := k1
    rw [upd_ne _ _ (by omega)]; exact h a (by omega) k2
  have hf3 := hf2 _ hf1
  cases ha : ans ts with
  | ret q =>
    rw [ha] at he hr
    obtain ⟨y, l, rfl, k1, k2⟩ := he
    have hr1 : r = .returned (rvA q st1.skip).1 := by have := congrArg Prod.fst hr; exact this.symm
    have hr2 : st' = (rvA q st1.skip).2 := by have := congrArg Prod.snd hr; exact this.symm
    subst hr1 hr2
    obtain ⟨ρ2, H2, v2, _, _⟩ := rvA_had H k1 (by simpa using k2) hf3
    exact ⟨ρ2, ⟨y, rfl, v2⟩, m1.trans H2.mv⟩
  | rets qs =>
    rw [ha] at he hr
    obtain ⟨a, l, rfl, k1, k2⟩ := he
    have hr1 : r = .returned (.tuple (rvsA qs st1.skip).1.toArray) := by have := congrArg Prod.fst hr; exact this.symm
    have hr2 : st' = (rvsA qs st1.skip).2 := by have := congrArg Prod.snd hr; exact this.symm
    subst hr1 hr2
    obtain ⟨ρ2, H2, v2, _, _⟩ := rvsA_had qs _ [] l _ _ H k1 (by simpa using k2) hf3
    exact ⟨ρ2, ⟨_, rfl, by have := VR.tuple' v2; simpa using this⟩, m1.trans H2.mv⟩
  | pan v =>
    rw [ha] at he hr
    obtain ⟨v', rfl, k1⟩ := he
    have hr1 : r = .panicked v := by have := congrArg Prod.fst hr; exact this.symm
    have hr2 : st' = st1.skip := by have := congrArg Prod.snd hr; exact this.symm
    subst hr1 hr2
    exact ⟨_, ⟨v', rfl, k1.mono (noRho_sub _)⟩, m1.trans mk⟩
def Told.tree (C : Told) (g : FuncId) (ok : List Ta → Bool) (ans : List Ta → Ans) : Told := fun f => cond (Nat.beq f g) (some (treeC ok ans)) (C f)
theorem Told.tree_ok {P : Program} {C : Told} {g : FuncId} {ok : List Ta → Bool} {ans : List Ta → Ans} (hC : ToldS P C) (h : ToldW P g ok ans) : ToldS P (C.tree g ok ans) := by
  intro f d hd args st r st' hwf hr
  unfold Told.tree at hd
  cases hb : Nat.beq f g with
  | false => rw [hb] at hd; exact hC f d hd args st r st' hwf hr
  | true =>
    rw [hb] at hd
    have := Nat.eq_of_beq_eq_true hb
    subst this
    simp only [cond_true, Option.some.injEq] at hd
    subst hd
    exact tree_told h args st r st' hwf hr
end Go.Proofs.YtpogcoolgnjejaaGreatDoor.Ev
/-
  Functions of trees: what has to hold for them to answer so.
-/
set_option linter.unusedVariables false
set_option linter.unusedSimpArgs false
namespace Go.Proofs.YtpogcoolgnjejaaGreatDoor.Ev
open Go Go.RowKit

/-! ### what is given, laid -/
def lay1 (t : Td) (k : Nat) : Value × List AObj := match t with
  | .sc x => (x, [])
  | .fr es n c e => (.slice (some ⟨k, 0, some 0⟩) n c, [.row .look es 0 n e])
def lays : List Td → Nat → List Value × List AObj
  | [], _ => ([], [])
  | t :: l, k => ((lay1 t k).1 :: (lays l (k + (lay1 t k).2.length)).1, (lay1 t k).2 ++ (lays l (k + (lay1 t k).2.length)).2)
def layA1 (t : Ta) (k : Nat) : Value × List AObj := match t with
  | .cell t => lay1 t k
  | .agg ts => (.agg ⟨(lays ts k).1⟩, (lays ts k).2)
def layA : List Ta → Nat → List Value × List AObj
  | [], _ => ([], [])
  | t :: l, k => ((layA1 t k).1 :: (layA l (k + (layA1 t k).2.length)).1, (layA1 t k).2 ++ (layA l (k + (layA1 t k).2.length)).2)
structure LayR (w : World) (F : Nat → Prop) (objs : List AObj) (S : List Spot) : Prop where
  len : S.length = objs.length
  ok : ∀ (i : Nat) (s : Spot) (o : AObj), S[i]? = some s → objs[i]? = some o → (∀ X F', ExtOk ⟨w.heap.size, w, X, F', noW⟩ s o) ∧ (s.void = false → s.blk < w.heap.size) ∧ s.fz = F
theorem LayR.nil (w : World) (F : Nat → Prop) : LayR w F [] [] := ⟨rfl, fun i s o h => by simp at h⟩
theorem LayR.app {w : World} {F : Nat → Prop} {o1 o2 : List AObj} {S1 S2 : List Spot} (h : LayR w F o1 S1) (k : LayR w F o2 S2) : LayR w F (o1 ++ o2) (S1 ++ S2) := by
  refine ⟨by simp [h.len, k.len], fun i s o hs ho => ?_⟩
  rcases Nat.lt_or_ge i S1.length with hi | hi
  · rw [List.getElem?_append_left hi] at hs
    rw [List.getElem?_append_left (by have := h.len; omega)] at ho
    exact h.ok i s o hs ho
  · rw [List.getElem?_append_right hi] at hs
    rw [List.getElem?_append_right (by have := h.len; omega), ← h.len] at ho
    exact k.ok _ s o hs ho
def At (X S : List Spot) (k : Nat) : Prop := ∀ (i : Nat) (s : Spot), S[i]? = some s → X[k + i]? = some s
theorem At.app {X S1 S2 : List Spot} {k : Nat} (h : At X (S1 ++ S2) k) : At X S1 k ∧ At X S2 (k + S1.length) := by
  refine ⟨fun i s hs => h i s ?_, fun i s hs => ?_⟩
  · rw [List.getElem?_append_left ((List.getElem?_eq_some_iff.1 hs).1)]; exact hs
  · have := h (S1.length + i) s (by rw [List.getElem?_append_right (by omega)]; rw [show S1.length + i - S1.length = i by omega]; exact hs)
    rw [← Nat.add_assoc] at this
    exact this
theorem lay1_rel {w : World} {F : Nat → Prop} (hF : ∀ b, F b → b < w.heap.size) {t : Td} {y : Value} (h : TRo w F t y) : ∃ S, (∀ k, LayR w F (lay1 t k).2 S) ∧ ∀ X k, At X S k → VR (fun i => X[i]?) (lay1 t k).1 y := by
  have hno : ∀ {q : Prop}, true = false → q := by intro q h; cases h
  cases t with
  | sc x => exact ⟨[], fun k => LayR.nil w F, fun X k _ => VR.mono (noRho_sub _) h⟩
  | fr es n c e =>
    have mk : ∀ s : Spot, s.fz = F → (∀ X F', ExtOk ⟨w.heap.size, w, X, F', noW⟩ s (.row .look es 0 n e)) → (s.void = false → s.blk < w.heap.size) → ∀ k, LayR w F (lay1 (.fr es n c e) k).2 [s] := fun s h1 h2 h3 k => ⟨rfl, fun i s' o hs ho => by
      cases i with
      | zero => cases hs; cases ho; exact ⟨h2, h3, h1⟩
      | succ i => cases hs⟩
    rcases h with ⟨rfl, rfl, rfl⟩ | ⟨rfl, rfl, a, c', rfl⟩ | ⟨h0, b, o, c', rfl, h2, h3, h4⟩
    · exact ⟨[⟨0, 0, true, es, 0, true, F⟩], mk _ rfl (fun X F' => ⟨rfl, fun ρ w' hz hw => ⟨rfl, fun _ => Nat.le_refl _, (fun h => by cases h), (fun h => by cases h), fun i _ hi => by omega⟩⟩) (fun h => hno h), fun X k hX => .sliceN _ _⟩
    · exact ⟨[⟨0, 0, true, es, 0, true, F⟩], mk _ rfl (fun X F' => ⟨rfl, fun ρ w' hz hw => ⟨rfl, fun _ => Nat.le_refl _, (fun h => by cases h), (fun h => by cases h), fun i _ hi => by omega⟩⟩) (fun h => hno h), fun X k hX => .sliceE _ _ _ _ _ (hX 0 _ rfl) rfl⟩
    · refine ⟨[⟨b, o, true, es, 0, false, F⟩], mk _ rfl (fun X F' => ⟨rfl, fun ρ w' hz hw => ⟨rfl, (fun h => by cases h), (fun h => by cases h), (fun h => by cases h), fun i _ hi j hj => ?_⟩⟩) (fun _ => h3), fun X k hX => .sliceI k 0 ⟨b, o, true, es, 0, false, F⟩ n c c' o (hX 0 _ rfl) h2 (fun _ => h0) (fun h => by cases h) rfl (.inl (by simp))⟩
      obtain ⟨z, z1, z2, z3⟩ := h4 i hi j hj
      have hw := hw.of (fun _ h => h)
      exact ⟨z, (hw.cell (p := ⟨b, o + i * es + j, none⟩) h3).trans z1, z2, z3.kept hz (fun b hb => by obtain ⟨_, _, _, _, hh⟩ := hw; exact hh b (hF b hb))⟩
theorem lays_rel {w : World} {F : Nat → Prop} (hF : ∀ b, F b → b < w.heap.size) : ∀ {ts : List Td} {ys : List Value}, PW (TRo w F) ts ys → ∃ S, (∀ k, LayR w F (lays ts k).2 S) ∧ ∀ X k, At X S k → VRL (fun i => X[i]?) (lays ts k).1 ys := by
  intro ts
  induction ts with
  | nil => intro ys h; have := h.nil_inv; subst this; exact ⟨[], fun k => LayR.nil w F, fun X k _ => VRL.nil _⟩
  | cons t ts ih =>
    intro ys h
    obtain ⟨y, m, rfl, hy, hm⟩ := h.uncons
    obtain ⟨S1, a1, a2⟩ := lay1_rel hF hy
    obtain ⟨S2, b1, b2⟩ := ih hm
    refine ⟨S1 ++ S2, fun k => (a1 k).app (b1 _), fun X k hX => ?_⟩
    obtain ⟨h1, h2⟩ := hX.app
    rw [(a1 k).len] at h2
    exact VRL.cons (a2 X k h1) (b2 X _ h2)
theorem layA1_rel {w : World} {F : Nat → Prop} (hF : ∀ b, F b → b < w.heap.size) {t : Ta} {y : Value} (h : TaR w F t y) : ∃ S, (∀ k, LayR w F (layA1 t k).2 S) ∧ ∀ X k, At X S k → VR (fun i => X[i]?) (layA1 t k).1 y := by
  cases t with
  | cell t => exact lay1_rel hF h
  | agg ts =>
    obtain ⟨a, rfl, h⟩ := h
    obtain ⟨S, h1, h2⟩ := lays_rel hF h
    refine ⟨S, h1, fun X k hX => ?_⟩
    have h3 := VR.agg' (h2 X k hX)
    have h4 : a.toList.toArray = a := by simp
    rw [h4] at h3
    exact h3
theorem layA_rel {w : World} {F : Nat → Prop} (hF : ∀ b, F b → b < w.heap.size) : ∀ {ts : List Ta} {ys : List Value}, PW (TaR w F) ts ys → ∃ S, (∀ k, LayR w F (layA ts k).2 S) ∧ ∀ X k, At X S k → VRL (fun i => X[i]?) (layA ts k).1 ys := by
  intro ts
  induction ts with
  | nil => intro ys h; have := h.nil_inv; subst this; exact ⟨[], fun k => LayR.nil w F, fun X k _ => VRL.nil _⟩
  | cons t ts ih =>
    intro ys h
    obtain ⟨y, m, rfl, hy, hm⟩ := h.uncons
    obtain ⟨S1, a1, a2⟩ := layA1_rel hF hy
    obtain ⟨S2, b1, b2⟩ := ih hm
    refine ⟨S1 ++ S2, fun k => (a1 k).app (b1 _), fun X k hX => ?_⟩
    obtain ⟨h1, h2⟩ := hX.app
    rw [(a1 k).len] at h2
    exact VRL.cons (a2 X k h1) (b2 X _ h2)

/-! ### what is answered, seen -/
/-- a value that is it; l: the names of what is its own -/
def raE (st : ASt) : Ra → Value → List Nat → Prop
  | .sc x, v, l => l = [] ∧ v = x ∧ scalT v = true
  | .still es n c e, v, l => l = [] ∧ ((v = .slice none 0 0 ∧ n = 0 ∧ c = 1) ∨ ∃ b i0 lo m g c0, v = .slice (some ⟨b, 0, some i0⟩) n c0 ∧ (n = 0 → c0 = c) ∧ st.h.get b = some (.row .still es lo m g) ∧ lo ≤ i0 ∧ i0 + n ≤ m ∧ ∀ i, i < n → ∀ j, j < es → g (i0 + i) j = e i j)
  | .own es n c e, v, l => (l = [] ∧ v = .slice none 0 0 ∧ n = 0 ∧ c = 1) ∨
      (∃ b i0 lo m g c0, l = [b] ∧ v = .slice (some ⟨b, 0, some i0⟩) n c0 ∧ (n = 0 → c0 = c) ∧ st.h.get b = some (.row .mine es lo m g) ∧ lo ≤ i0 ∧ i0 + n ≤ m ∧ ∀ i, i < n → ∀ j, j < es → g (i0 + i) j = e i j) ∨
      (∃ b o cap cs ex es', l = [b] ∧ v = .slice (some ⟨b, o, none⟩) n cap ∧ st.h.get b = some (.cells cs ex es') ∧ c = 0 ∧ (ex = false → es' = es) ∧ (ex = true → o + cap * es ≤ cs.length) ∧ ∀ i, i < n → ∀ j, j < es → ∃ x, cs[o + i * es + j]? = some x ∧ scalT x = true ∧ e i j = .sc x)
def rasE (st : ASt) : List Ra → List Value → List Nat → Prop
  | [], [], l => l = []
  | r :: rs, v :: vs, l => ∃ l1 l2, l = l1 ++ l2 ∧ raE st r v l1 ∧ rasE st rs vs l2
  | _, _, _ => False
def rvE (st : ASt) : Rv → Value → List Nat → Prop
  | .cell r, v, l => raE st r v l
  | .agg rs, v, l => ∃ a : Array Value, v = .agg a ∧ rasE st rs a.toList l
def rvsE (st : ASt) : List Rv → List Value → List Nat → Prop
  | [], [], l => l = []
  | r :: rs, v :: vs, l => ∃ l1 l2, l = l1 ++ l2 ∧ rvE st r v l1 ∧ rvsE st rs vs l2
  | _, _, _ => False
def ansE (a : Ans) (r : AE) (st : ASt) : Prop := match r with
  | .returned v => match a with
    | .ret q => ∃ l, rvE st q v l ∧ l.Nodup
    | .rets qs => ∃ (a : Array Value) (l : List Nat), v = .tuple a ∧ rvsE st qs a.toList l ∧ l.Nodup
    | .pan _ => False
  | .panicked v => match a with
    | .pan u => v = u ∧ ground 3 v = true
    | _ => False
/-- blocks of names -/
def Blks (ρ : Rho) (g : Mem) (l lb : List Nat) : Prop := ∀ b ∈ lb, ∃ a ∈ l, ∃ o s, g a = some o ∧ o.isOwn = true ∧ ρ a = some s ∧ s.void = false ∧ s.blk = b
theorem Blks.nil (ρ : Rho) (g : Mem) (l : List Nat) : Blks ρ g l [] := fun b h => by simp at h
theorem Blks.nodup {ρ : Rho} {g : Mem} {w : World} (hw : WR ρ g w) {l1 l2 b1 b2 : List Nat} (h1 : Blks ρ g l1 b1) (h2 : Blks ρ g l2 b2) (hn : (l1 ++ l2).Nodup) (n1 : b1.Nodup) (n2 : b2.Nodup) : (b1 ++ b2).Nodup := by
  refine List.nodup_append.2 ⟨n1, n2, fun x hx y hy hxy => ?_⟩
  subst hxy
  obtain ⟨a, ha, o, s, q1, q2, q3, q4, q5⟩ := h1 x hx
  obtain ⟨a', ha', o', s', p1, p2, p3, p4, p5⟩ := h2 x hy
  have := hw.inj a a' o o' s s' q1 p1 (.inl q2) q3 p3 q4 p4 (by omega)
  subst this
  exact (List.nodup_append.1 hn).2.2 a ha a ha' rfl
theorem Blks.app {ρ : Rho} {g : Mem} {l1 l2 b1 b2 : List Nat} (h1 : Blks ρ g l1 b1) (h2 : Blks ρ g l2 b2) : Blks ρ g (l1 ++ l2) (b1 ++ b2) := fun b hb => by
  rcases List.mem_append.1 hb with hb | hb
  · obtain ⟨a, ha, h⟩ := h1 b hb; exact ⟨a, List.mem_append_left _ ha, h⟩
  · obtain ⟨a, ha, h⟩ := h2 b hb; exact ⟨a, List.mem_append_right _ ha, h⟩
section
variable {ρ : Rho} {st : ASt} {w w' : World}
theorem raE_R (hw : WR ρ st.h.get w') (how : OwnB ρ st.h.get w.heap.size) {r : Ra} {v y : Value} {l : List Nat} (h : raE st r v l) (hv : VR ρ v y) : ∃ lb, RaR w w' (Frz ρ) r y lb ∧ Blks ρ st.h.get l lb ∧ lb.Nodup := by
  cases r with
  | sc x =>
    obtain ⟨rfl, rfl, h3⟩ := h
    exact ⟨[], ⟨rfl, (scalT_rel h3 hv).1⟩, Blks.nil _ _ _, List.nodup_nil⟩
  | still es n c e =>
    obtain ⟨rfl, h⟩ := h
    refine ⟨[], ⟨rfl, ?_⟩, Blks.nil _ _ _, List.nodup_nil⟩
    rcases h with ⟨rfl, rfl, rfl⟩ | ⟨b, i0, lo, m, g, c0, rfl, kc, hg, k1, k2, k3⟩
    · cases hv; exact .inl ⟨rfl, rfl, rfl⟩
    · obtain ⟨s, e1, f1, f2, f3, fz, f4⟩ := hw.obj _ _ hg
      cases hv with
      | sliceI _ _ s' _ _ c' o' hsp hnc hcc hro hvd ho =>
        rw [hsp] at e1; cases e1
        rcases Nat.eq_zero_or_pos n with h0 | h0
        · subst h0
          have hc0 : c = 0 := by
            have := kc rfl
            rcases Nat.eq_zero_or_pos c with h | h
            · exact h
            · have := hcc (by omega); omega
          exact .inr (.inl ⟨rfl, hc0, _, _, rfl⟩)
        · have ho' : o' = s.base + i0 * s.es := by rcases ho with ho | ho; exact ho; omega
          refine .inr (.inr ⟨h0, s.blk, o', c', rfl, hnc, fz rfl hvd, fun i hi j hj => ?_⟩)
          obtain ⟨z, z1, z2, z3⟩ := f4 (i0 + i) (by omega) (by omega) j hj
          rw [k3 i hi j hj] at z3
          refine ⟨z, ?_, z2, z3⟩
          rw [← z1, ho', f1]; congr 2; rw [Nat.add_mul]; omega
      | sliceE _ _ c' x s' hsx hex => exact .inr (.inl ⟨rfl, (kc rfl).symm, _, _, rfl⟩)
      | sliceN => exact .inl ⟨rfl, (kc rfl).symm, rfl⟩
      | sliceZ => exact .inr (.inl ⟨rfl, (kc rfl).symm, _, _, rfl⟩)
  | own es n c e =>
    rcases h with ⟨rfl, rfl, rfl, rfl⟩ | ⟨b, i0, lo, m, g, c0, rfl, rfl, kc, hg, k1, k2, k3⟩ | ⟨b, o, cap, cs, ex, es', rfl, rfl, hg, rfl, k1, k2, k3⟩
    · cases hv; exact ⟨[], .inl ⟨rfl, rfl, .inl ⟨rfl, rfl⟩⟩, Blks.nil _ _ _, List.nodup_nil⟩
    · obtain ⟨s, e1, f1, f2, f3, fz, f4⟩ := hw.obj _ _ hg
      obtain ⟨x1, x2, x3⟩ := f3 rfl
      cases hv with
      | sliceI _ _ s' _ _ c' o' hsp hnc hcc hro hvd ho =>
        rw [hsp] at e1; cases e1
        obtain ⟨C, t, fr, q1, q2, q3, q4⟩ := x3 hvd
        have hb : Blks ρ st.h.get [b] [s.blk] := fun x hx => by
          simp at hx; subst hx
          exact ⟨b, by simp, _, s, hg, rfl, hsp, hvd, rfl⟩
        have hro' := hro x1
        refine ⟨[s.blk], .inr ⟨s.blk, o', c', C, t, fr, rfl, rfl, hnc, (fun h => by rcases Nat.eq_zero_or_pos n with h0 | h0; exact hcc (by rw [kc h0]; exact h); exact h0), how _ ⟨b, _, s, hg, rfl, hsp, hvd, rfl⟩, q1, q3, by rw [← f1]; omega, fun hz => (hw.fz _ hz).2 ⟨b, _, s, hg, rfl, hsp, hvd, rfl⟩, fun i hi j hj => ?_⟩, hb, by simp⟩
        have ho' : o' = s.base + i0 * s.es := by rcases ho with ho | ho; exact ho; omega
        obtain ⟨z, z1, z2, z3⟩ := f4 (i0 + i) (by omega) (by omega) j hj
        rw [k3 i hi j hj] at z3
        rw [cell_row q1] at z1
        refine ⟨z, ?_, z2, z3⟩
        rw [← z1, ho', f1]; congr 1; rw [Nat.add_mul]; omega
      | sliceE _ _ c' x s' hsx hex => rw [hsx] at e1; cases e1; rw [x1] at hex; cases hex
      | sliceN => exact ⟨[], .inl ⟨rfl, rfl, .inl ⟨(kc rfl).symm, rfl⟩⟩, Blks.nil _ _ _, List.nodup_nil⟩
      | sliceZ => exact ⟨[], .inl ⟨rfl, rfl, .inr ⟨(kc rfl).symm, _, rfl⟩⟩, Blks.nil _ _ _, List.nodup_nil⟩
    · obtain ⟨s, e1, f0, f1, f2, C, t, fr, f3, f4, f5, f6, f7⟩ := hw.obj _ _ hg
      cases hv with
      | slice _ _ s' _ _ c' o' hsp hn hc hxx hro ho =>
        rw [hsp] at e1; cases e1
        rcases Nat.eq_zero_or_pos c' with h0 | h0
        · have hn0 : n = 0 := by omega
          subst hn0; subst h0
          exact ⟨[], .inl ⟨rfl, rfl, .inr ⟨rfl, _, rfl⟩⟩, Blks.nil _ _ _, List.nodup_nil⟩
        have hb : Blks ρ st.h.get [b] [s.blk] := fun x hx => by
          simp at hx; subst hx
          exact ⟨b, by simp, _, s, hg, rfl, hsp, f0, rfl⟩
        have ho' : o' = s.base + o := by rcases ho with ho | ho; exact ho; omega
        have hroom : o' + c' * es ≤ C.size := by
          cases hex : ex with
          | false =>
            rw [hex] at f1
            have h1 := hro f1
            rw [f2, k1 hex] at h1; omega
          | true =>
            rw [hex] at f1
            have h1 := hxx f1
            have h2 := k2 hex
            rw [h1, ho']; omega
        refine ⟨[s.blk], .inr ⟨s.blk, o', c', C, t, fr, rfl, rfl, by omega, fun h => absurd rfl h, how _ ⟨b, _, s, hg, rfl, hsp, f0, rfl⟩, f3, f5, hroom, fun hz => (hw.fz _ hz).2 ⟨b, _, s, hg, rfl, hsp, f0, rfl⟩, fun i hi j hj => ?_⟩, hb, by simp⟩
        obtain ⟨x, p1, p2, p3⟩ := k3 i hi j hj
        obtain ⟨z, z1, z2⟩ := f7 _ x p1
        obtain ⟨r1, r2⟩ := scalT_rel p2 z2
        refine ⟨z, ?_, r2, by rw [p3]; exact r1⟩
        rw [← z1, ho']; congr 1; omega
theorem rasE_R (hw : WR ρ st.h.get w') (how : OwnB ρ st.h.get w.heap.size) : ∀ {rs : List Ra} {vs ys : List Value} {l : List Nat}, rasE st rs vs l → l.Nodup → VRL ρ vs ys → ∃ lb, RasR w w' (Frz ρ) rs ys lb ∧ Blks ρ st.h.get l lb ∧ lb.Nodup := by
  intro rs
  induction rs with
  | nil =>
    intro vs ys l h hn hv
    cases vs with
    | nil =>
      have : l = [] := h
      subst this
      have := hv.nil_inv
      subst this
      exact ⟨[], rfl, Blks.nil _ _ _, List.nodup_nil⟩
    | cons => exact h.elim
  | cons r rs ih =>
    intro vs ys l h hn hv
    cases vs with
    | nil => exact h.elim
    | cons v vs =>
      obtain ⟨l1, l2, rfl, h1, h2⟩ := h
      obtain ⟨y, m, rfl, hy, hm⟩ := hv.uncons
      obtain ⟨b1, p1, p2, p3⟩ := raE_R hw how h1 hy
      obtain ⟨b2, q1, q2, q3⟩ := ih h2 (List.nodup_append.1 hn).2.1 hm
      exact ⟨b1 ++ b2, ⟨b1, b2, rfl, p1, q1⟩, p2.app q2, p2.nodup hw q2 hn p3 q3⟩
theorem rvE_R (hw : WR ρ st.h.get w') (how : OwnB ρ st.h.get w.heap.size) {r : Rv} {v y : Value} {l : List Nat} (h : rvE st r v l) (hn : l.Nodup) (hv : VR ρ v y) : ∃ lb, RvR w w' (Frz ρ) r y lb ∧ Blks ρ st.h.get l lb ∧ lb.Nodup := by
  cases r with
  | cell r => exact raE_R hw how h hv
  | agg rs =>
    obtain ⟨a, rfl, h⟩ := h
    cases hv with
    | agg _ a' ha hh =>
      obtain ⟨lb, p1, p2, p3⟩ := rasE_R hw how h hn (VRL.of_arrays ha hh)
      exact ⟨lb, ⟨a', rfl, p1⟩, p2, p3⟩
theorem rvsE_R (hw : WR ρ st.h.get w') (how : OwnB ρ st.h.get w.heap.size) : ∀ {rs : List Rv} {vs ys : List Value} {l : List Nat}, rvsE st rs vs l → l.Nodup → VRL ρ vs ys → ∃ lb, RvsR w w' (Frz ρ) rs ys lb ∧ Blks ρ st.h.get l lb ∧ lb.Nodup := by
  intro rs
  induction rs with
  | nil =>
    intro vs ys l h hn hv
    cases vs with
    | nil =>
      have : l = [] := h
      subst this
      have := hv.nil_inv
      subst this
      exact ⟨[], rfl, Blks.nil _ _ _, List.nodup_nil⟩
    | cons => exact h.elim
  | cons r rs ih =>
    intro vs ys l h hn hv
    cases vs with
    | nil => exact h.elim
    | cons v vs =>
      obtain ⟨l1, l2, rfl, h1, h2⟩ := h
      obtain ⟨y, m, rfl, hy, hm⟩ := hv.uncons
      obtain ⟨b1, p1, p2, p3⟩ := rvE_R hw how h1 (List.nodup_append.1 hn).1 hy
      obtain ⟨b2, q1, q2, q3⟩ := ih h2 (List.nodup_append.1 hn).2.1 hm
      exact ⟨b1 ++ b2, ⟨b1, b2, rfl, p1, q1⟩, p2.app q2, p2.nodup hw q2 hn p3 q3⟩
end
theorem PostE.ans {w w' : World} {X : List Spot} {F : Nat → Prop} {a : Ans} {e : Ending} (h : PostE ⟨w.heap.size, w, X, F, noW⟩ (ansE a) e w') : AnsR w F a e w' := by
  obtain ⟨⟨r, st', ρ', h1, h2, hw, _, _, how, hfz, _⟩, h3⟩ := h
  have how : OwnB ρ' st'.h.get w.heap.size := how.of (fun _ h => h)
  refine ⟨h3.of (fun _ h => h), Frz ρ', fun b hb => ?_, ?_⟩
  · rcases hfz b hb with h | h | h
    · exact .inl ⟨h, (hw.fz b hb).1⟩
    · exact .inr h
    · exact h.elim
  · unfold ansE at h2
    split at h2
    · rename_i v
      obtain ⟨y, rfl, hy⟩ := h1
      split at h2
      · obtain ⟨l, k1, k2⟩ := h2
        obtain ⟨lb, p1, p2, p3⟩ := rvE_R hw how k1 k2 hy
        exact ⟨y, lb, rfl, p1, p3⟩
      · obtain ⟨a, l, rfl, k1, k2⟩ := h2
        cases hy with
        | tuple _ a' ha hh =>
          obtain ⟨lb, p1, p2, p3⟩ := rvsE_R hw how k1 k2 (VRL.of_arrays ha hh)
          exact ⟨a', lb, rfl, p1, p3⟩
      · exact h2.elim
    · rename_i v
      split at h2
      · obtain ⟨rfl, hg⟩ := h2
        obtain ⟨v', rfl, hv⟩ := h1
        have := VR.ground 3 hg hv
        subst this
        exact ⟨v', rfl, VR.refl 3 hg⟩
      · exact h2.elim
/-- **a function of trees, by what its code comes to** -/
theorem toldW_at {P : Program} {g : FuncId} {ts : List Ta} {a : Ans} (hm : P.follows .mixedOrders = true)
    (h : ∃ (C : Told) (fuel n : Nat) (un : Nat → Nat) (lvs : Nat → List Nat) (ex : Nat → Kt → Prop), ToldS P C ∧ ∀ β : Bs, β.X.length = (layA ts 0).2.length → lawE P C fuel n β un (cnOf (layA ts 0).2.length lvs) ex g (layA ts 0).1 (mkS ((layA ts 0).2.map some)) (ansE a))
    (w : World) (args' : Array Value) (F : Nat → Prop) (hF : FOk w F) (ha : PW (TaR w F) ts args'.toList) : Calls P g args' w fun e w' => AnsR w F a e w' := by
  obtain ⟨C, fuel, n, un, lvs, ex, hC, hl⟩ := h
  obtain ⟨S, s1, s2⟩ := layA_rel hF.lt ha
  have hlen := (s1 0).len
  have hv := s2 S 0 (fun i s hs => by rw [Nat.zero_add]; exact hs)
  have hl' := hl ⟨w.heap.size, w, S, F, noW⟩ hlen
  rw [← hlen] at hl'
  refine (law_args (F := F) hm hC w hlen (fun k s o h1 h2 => ((s1 0).ok k s o h1 h2).1 _ _) (fun s hs hvd => ?_) (fun s hs b hb => ?_) hF hv hl').mono fun e w' he => he.ans
  · obtain ⟨i, hi⟩ := List.getElem?_of_mem hs
    have hil := (List.getElem?_eq_some_iff.1 hi).1
    exact ((s1 0).ok i s _ hi (List.getElem?_eq_getElem (by omega))).2.1 hvd
  · obtain ⟨i, hi⟩ := List.getElem?_of_mem hs
    have hil := (List.getElem?_eq_some_iff.1 hi).1
    have := ((s1 0).ok i s _ hi (List.getElem?_eq_getElem (by omega))).2.2
    rw [this] at hb; exact hb
end Go.Proofs.YtpogcoolgnjejaaGreatDoor.Ev
/-
  Rows as lists of data; functions of such rows.
-/
set_option linter.unusedVariables false
set_option linter.unusedSimpArgs false
namespace Go.Proofs.YtpogcoolgnjejaaGreatDoor.Ev
open Go Go.RowKit

/-- data that lie in cells -/
class Enc (α : Type) where
  es : Nat
  enc : α → Nat → Td
  dec : (Nat → Td) → α
  ok : (Nat → Td) → Bool
  dflt : α
  good : (Nat → Td) → Prop
  okgood : ∀ c, ok c = true → good c
  law : ∀ (c : Nat → Td), good c → ∀ (w : World) F j y, j < es → TR w F (c j) y → TR w F (enc (dec c) j) y
  back : ∀ a, dec (enc a) = a
  mrg : ∀ (a b : α) (w : World) F j y, j < es → (TR w F (mrgT true (enc a j) (enc b j)) y → TR w F (enc a j) y) ∧ (TR w F (mrgT false (enc a j) (enc b j)) y → TR w F (enc b j) y)
def encL {α : Type} [Enc α] (l : List α) (i j : Nat) : Td := Enc.enc (l.getD i Enc.dflt) j
def decL {α : Type} [Enc α] (n : Nat) (e : Nat → Nat → Td) : List α := (List.range n).map fun i => Enc.dec (e i)
def okL (α : Type) [Enc α] (n : Nat) (e : Nat → Nat → Td) : Bool := (List.range n).all fun i => Enc.ok α (e i)
def tdL {α : Type} [Enc α] (l : List α) (c : Nat) : Td := .fr (Enc.es α) l.length c (encL l)
def okT (α : Type) [Enc α] (t : Td) : Bool := match t with
  | .fr es n c e => (Nat.beq es (Enc.es α) && okL α n e && Nat.ble c 1 && Nat.ble n 1000000) || (Nat.beq n 0 && Nat.beq c 1)
  | _ => false
def listT (α : Type) [Enc α] (t : Td) : List α := match t with
  | .fr _ n _ e => decL n e
  | _ => []
def nilT (t : Td) : Nat := match t with
  | .fr _ _ c _ => c
  | _ => 0
def okA (α : Type) [Enc α] (a : α) : Bool := Enc.ok α (Enc.enc a)
theorem decL_encL {α : Type} [Enc α] (l : List α) : decL l.length (encL l) = l := by
  apply List.ext_getElem?
  intro i
  unfold decL
  rw [List.getElem?_map]
  rcases Nat.lt_or_ge i l.length with h | h
  · rw [List.getElem?_range h]
    simp only [Option.map_some]
    have : Enc.dec (encL l i) = l.getD i Enc.dflt := Enc.back _
    rw [this]
    simp [List.getD, h]
  · rw [List.getElem?_eq_none (by simpa using h), List.getElem?_eq_none h]; rfl
theorem decL_len {α : Type} [Enc α] (n : Nat) (e : Nat → Nat → Td) : (decL n e : List α).length = n := by simp [decL]
theorem decL_get {α : Type} [Enc α] {n : Nat} {e : Nat → Nat → Td} {i : Nat} (h : i < n) : (decL n e : List α).getD i Enc.dflt = Enc.dec (e i) := by
  simp [decL, List.getD, List.getElem?_map, List.getElem?_range h]
theorem okL_at {α : Type} [Enc α] {n : Nat} {e : Nat → Nat → Td} (h : okL α n e = true) {i : Nat} (hi : i < n) : Enc.ok α (e i) = true := by
  unfold okL at h
  rw [List.all_eq_true] at h
  exact h i (List.mem_range.2 hi)
theorem okL_of {α : Type} [Enc α] {n : Nat} {e : Nat → Nat → Td} (h : ∀ i, i < n → Enc.ok α (e i) = true) : okL α n e = true := by
  unfold okL
  rw [List.all_eq_true]
  exact fun i hi => h i (List.mem_range.1 hi)
theorem okL_encL {α : Type} [Enc α] {l : List α} (h : l.all (okA α) = true) : okL α l.length (encL l) = true := okL_of fun i hi => by
  rw [List.all_eq_true] at h
  have := h (l.getD i Enc.dflt) (by simp [List.getD, hi])
  exact this
theorem okL_all {α : Type} [Enc α] {n : Nat} {e : Nat → Nat → Td} (hb : ∀ c, Enc.ok α c = true → okA α (Enc.dec c) = true) (h : okL α n e = true) : (decL n e : List α).all (okA α) = true := by
  rw [List.all_eq_true]
  intro a ha
  obtain ⟨i, hi, rfl⟩ := List.mem_map.1 ha
  exact hb _ (okL_at h (List.mem_range.1 hi))
theorem encL_app_lt {α : Type} [Enc α] (l m : List α) {i : Nat} (h : i < l.length) (j : Nat) : encL (l ++ m) i j = encL l i j := by
  simp [encL, List.getD, List.getElem?_append_left h]
theorem encL_app_ge {α : Type} [Enc α] (l m : List α) {i : Nat} (h : l.length ≤ i) (j : Nat) : encL (l ++ m) i j = encL m (i - l.length) j := by
  simp [encL, List.getD, List.getElem?_append_right h]
theorem TRo.congr {w : World} {F : Nat → Prop} {es n c : Nat} {e e' : Nat → Nat → Td} {y : Value} (he : ∀ i, i < n → ∀ j, j < es → ∀ z, TR w F (e i j) z → TR w F (e' i j) z) (h : TRo w F (.fr es n c e) y) : TRo w F (.fr es n c e') y := by
  rcases h with h | h | ⟨h0, b, o, c', h1, h2, h3, h4⟩
  · exact .inl h
  · exact .inr (.inl h)
  · refine .inr (.inr ⟨h0, b, o, c', h1, h2, h3, fun i hi j hj => ?_⟩)
    obtain ⟨z, z1, z2, z3⟩ := h4 i hi j hj
    exact ⟨z, z1, z2, he i hi j hj z z3⟩
theorem TR.congr {w : World} {F : Nat → Prop} {es n c : Nat} {e e' : Nat → Nat → Td} {y : Value} (he : ∀ i, i < n → ∀ j, j < es → ∀ z, TR w F (e i j) z → TR w F (e' i j) z) (h : TR w F (.fr es n c e) y) : TR w F (.fr es n c e') y := by
  rcases h with h | h | ⟨h0, b, o, c', h1, h2, h3, h4⟩
  · exact .inl h
  · exact .inr (.inl h)
  · refine .inr (.inr ⟨h0, b, o, c', h1, h2, h3, fun i hi j hj => ?_⟩)
    obtain ⟨z, z1, z2, z3⟩ := h4 i hi j hj
    exact ⟨z, z1, z2, he i hi j hj z z3⟩
theorem encL_decL {α : Type} [Enc α] {n : Nat} {e : Nat → Nat → Td} (h : okL α n e = true) {w : World} {F : Nat → Prop} : ∀ i, i < n → ∀ j, j < Enc.es α → ∀ z, TR w F (e i j) z → TR w F (encL (decL n e : List α) i j) z := fun i hi j hj z hz => by
  unfold encL
  rw [decL_get hi]
  exact Enc.law _ (Enc.okgood _ (okL_at h hi)) w F j z hj hz
/-- a slice of such data, however long -/
def goodT (α : Type) [Enc α] (t : Td) : Prop := match t with
  | .fr es n c e => (es = Enc.es α ∧ (∀ i, i < n → Enc.good α (e i)) ∧ c ≤ 1) ∨ (n = 0 ∧ c = 1)
  | _ => False
theorem goodT_TR {α : Type} [Enc α] {t : Td} (h : goodT α t) {w : World} {F : Nat → Prop} {y : Value} (ht : TR w F t y) : TR w F (tdL (listT α t) (nilT t)) y := by
  cases t with
  | sc x => exact h.elim
  | fr es n c e =>
    show TR w F (.fr (Enc.es α) (decL n e : List α).length c (encL (decL n e : List α))) y
    rw [decL_len]
    rcases h with ⟨rfl, h2, h3⟩ | ⟨rfl, rfl⟩
    · refine ht.congr fun i hi j hj z hz => ?_
      unfold encL
      rw [decL_get hi]
      exact Enc.law _ (h2 i hi) w F j z hj hz
    · rcases ht with ht | ht | ht
      · exact .inl ht
      · exact absurd ht.2.1 (by simp)
      · exact absurd ht.1 (by simp)
theorem goodT_nil {α : Type} [Enc α] {t : Td} (h : goodT α t) : nilT t ≤ 1 := by
  cases t with
  | sc x => exact h.elim
  | fr es n c e =>
    show c ≤ 1
    rcases h with ⟨_, _, h3⟩ | ⟨rfl, rfl⟩
    · exact h3
    · exact Nat.le_refl _
theorem okT_good {α : Type} [Enc α] {t : Td} (h : okT α t = true) : goodT α t := by
  cases t with
  | sc x => cases h
  | fr es n c e =>
    simp only [okT, Bool.or_eq_true, Bool.and_eq_true] at h
    rcases h with ⟨⟨⟨h1, h2⟩, h3⟩, h4⟩ | ⟨h1, h2⟩
    · exact .inl ⟨Nat.eq_of_beq_eq_true h1, fun i hi => Enc.okgood _ (okL_at h2 hi), Nat.le_of_ble_eq_true h3⟩
    · exact .inr ⟨Nat.eq_of_beq_eq_true h1, Nat.eq_of_beq_eq_true h2⟩
theorem goodT_of {α : Type} [Enc α] {sh : Nat → Sh} {n cc : Nat} {el : Nat → Nat → Td} (hs : ∀ c : Nat → Td, (∀ j, j < Enc.es α → ShOk (sh j) (c j)) → Enc.good α c) (h : ShOk (.sl (Enc.es α) sh) (.fr (Enc.es α) n cc el)) : goodT α (.fr (Enc.es α) n cc el) := .inl ⟨rfl, fun i hi => hs _ fun j hj => h.2.2.2 i hi j hj, h.2.1⟩
theorem goodT_sh {α : Type} [Enc α] {sh : Nat → Sh} {t : Td} (hs : ∀ c : Nat → Td, (∀ j, j < Enc.es α → ShOk (sh j) (c j)) → Enc.good α c) (h : ShOk (.sl (Enc.es α) sh) t) : goodT α t := by
  cases t with
  | sc x => exact h.elim
  | fr es n cc el =>
    have he : es = Enc.es α := h.1
    subst he
    exact goodT_of hs h
/-- of what each of such data is -/
theorem goodT_all {α : Type} [Enc α] {p : α → Prop} (hp : ∀ c, Enc.good α c → p (Enc.dec c)) {t : Td} (h : goodT α t) : ∀ a ∈ (listT α t), p a := by
  cases t with
  | sc x => exact h.elim
  | fr es n c e =>
    intro a ha
    obtain ⟨i, hi, rfl⟩ := List.mem_map.1 (show a ∈ (decL n e : List α) from ha)
    have hi := List.mem_range.1 hi
    rcases h with ⟨_, h2, _⟩ | ⟨rfl, rfl⟩
    · exact hp _ (h2 i hi)
    · omega
/-- part of a row -/
theorem decL_take {α : Type} [Enc α] (l : List α) {k : Nat} (h : k ≤ l.length) : decL k (encL l) = l.take k := by
  apply List.ext_getElem?
  intro i
  unfold decL
  rw [List.getElem?_map, List.getElem?_take]
  rcases Nat.lt_or_ge i k with hi | hi
  · rw [List.getElem?_range hi, if_pos hi]
    simp only [Option.map_some]
    have : Enc.dec (encL l i) = l.getD i Enc.dflt := Enc.back _
    rw [this]
    simp [List.getD, show i < l.length by omega]
  · rw [List.getElem?_eq_none (by simpa using hi), if_neg (by omega)]; rfl
theorem decL_drop {α : Type} [Enc α] (l : List α) {k n : Nat} (h : k + n = l.length) : decL n (fun i => encL l (k + i)) = l.drop k := by
  apply List.ext_getElem?
  intro i
  unfold decL
  rw [List.getElem?_map, List.getElem?_drop]
  rcases Nat.lt_or_ge i n with hi | hi
  · rw [List.getElem?_range hi]
    simp only [Option.map_some]
    have : Enc.dec (encL l (k + i)) = l.getD (k + i) Enc.dflt := Enc.back _
    rw [this]
    simp [List.getD, show k + i < l.length by omega]
  · rw [List.getElem?_eq_none (by simpa using hi), List.getElem?_eq_none (by omega)]; rfl
theorem okL_take {α : Type} [Enc α] {l : List α} (hl : l.all (okA α) = true) {k n : Nat} (h : k + n ≤ l.length) : okL α n (fun i => encL l (k + i)) = true := okL_of fun i hi => by
  rw [List.all_eq_true] at hl
  exact hl (l.getD (k + i) Enc.dflt) (by simp [List.getD, show k + i < l.length by omega])
theorem okT_TR {α : Type} [Enc α] {t : Td} (h : okT α t = true) {w : World} {F : Nat → Prop} {y : Value} (ht : TR w F t y) : TR w F (tdL (listT α t) (nilT t)) y := by
  cases t with
  | sc x => cases h
  | fr es n c e =>
    simp only [okT, Bool.or_eq_true, Bool.and_eq_true] at h
    show TR w F (.fr (Enc.es α) (decL n e : List α).length c (encL (decL n e : List α))) y
    rw [decL_len]
    rcases h with ⟨⟨⟨h1, h2⟩, h3⟩, h4⟩ | ⟨h1, h2⟩
    · have := Nat.eq_of_beq_eq_true h1
      subst this
      exact ht.congr (encL_decL h2)
    · have h1 := Nat.eq_of_beq_eq_true h1
      have h2 := Nat.eq_of_beq_eq_true h2
      subst h1 h2
      rcases ht with ht | ht | ht
      · exact .inl ht
      · exact absurd ht.2.1 (by simp)
      · exact absurd ht.1 (by simp)
theorem okT_TRo {α : Type} [Enc α] {t : Td} (h : okT α t = true) {w : World} {F : Nat → Prop} {y : Value} (ht : TRo w F t y) : TRo w F (tdL (listT α t) (nilT t)) y := by
  cases t with
  | sc x => cases h
  | fr es n c e =>
    simp only [okT, Bool.or_eq_true, Bool.and_eq_true] at h
    show TRo w F (.fr (Enc.es α) (decL n e : List α).length c (encL (decL n e : List α))) y
    rw [decL_len]
    rcases h with ⟨⟨⟨h1, h2⟩, h3⟩, h4⟩ | ⟨h1, h2⟩
    · have := Nat.eq_of_beq_eq_true h1
      subst this
      exact ht.congr (encL_decL h2)
    · have h1 := Nat.eq_of_beq_eq_true h1
      have h2 := Nat.eq_of_beq_eq_true h2
      subst h1 h2
      rcases ht with ht | ht | ht
      · exact .inl ht
      · exact absurd ht.2.1 (by simp)
      · exact absurd ht.1 (by simp)
theorem okT_len {α : Type} [Enc α] {t : Td} (h : okT α t = true) : (listT α t).length ≤ 1000000 ∧ nilT t ≤ 1 := by
  cases t with
  | sc x => cases h
  | fr es n c e =>
    simp only [okT, Bool.or_eq_true, Bool.and_eq_true] at h
    show (decL n e : List α).length ≤ 1000000 ∧ c ≤ 1
    rw [decL_len]
    rcases h with ⟨⟨⟨h1, h2⟩, h3⟩, h4⟩ | ⟨h1, h2⟩
    · exact ⟨Nat.le_of_ble_eq_true h4, Nat.le_of_ble_eq_true h3⟩
    · have h1 := Nat.eq_of_beq_eq_true h1
      have h2 := Nat.eq_of_beq_eq_true h2
      omega
theorem okT_tdL {α : Type} [Enc α] {l : List α} {c : Nat} (h : l.all (okA α) = true) (hl : l.length ≤ 1000000) (hc : c ≤ 1) : okT α (tdL l c) = true := by
  simp only [tdL, okT, Bool.or_eq_true, Bool.and_eq_true]
  exact .inl ⟨⟨⟨Nat.beq_refl _, okL_encL h⟩, Nat.ble_eq_true_of_le hc⟩, Nat.ble_eq_true_of_le hl⟩
theorem listT_tdL {α : Type} [Enc α] (l : List α) (c : Nat) : listT α (tdL l c) = l := decL_encL l
theorem nilT_tdL {α : Type} [Enc α] (l : List α) (c : Nat) : nilT (tdL l c) = c := rfl
theorem okT_all {α : Type} [Enc α] {t : Td} (hb : ∀ c, Enc.ok α c = true → okA α (Enc.dec c) = true) (h : okT α t = true) : (listT α t).all (okA α) = true := by
  cases t with
  | sc x => cases h
  | fr es n c e =>
    simp only [okT, Bool.or_eq_true, Bool.and_eq_true] at h
    rcases h with ⟨⟨⟨h1, h2⟩, h3⟩, h4⟩ | ⟨h1, h2⟩
    · exact okL_all hb h2
    · have h1 := Nat.eq_of_beq_eq_true h1
      subst h1
      rfl
/-- one of two rows -/
theorem mrgL_true' {α : Type} [Enc α] (h0 : Enc.es α ≠ 0) {l m : List α} {c d : Nat} {w : World} {F : Nat → Prop} {y : Value} (h : TR w F (mrgT true (.fr (Enc.es α) l.length c (encL l)) (.fr (Enc.es α) m.length d (encL m))) y) : TR w F (.fr (Enc.es α) l.length c (encL l)) y := by
  have hs : sameEs (Enc.es α) l.length (Enc.es α) m.length = true := by simp [sameEs, Nat.beq_refl]
  simp only [mrgT, hs, cond_true, beq_false h0, cond_false] at h
  exact h.congr fun i hi j hj z hz => (Enc.mrg _ _ w F j z hj).1 hz
theorem mrgL_false' {α : Type} [Enc α] (h0 : Enc.es α ≠ 0) {l m : List α} {c d : Nat} {w : World} {F : Nat → Prop} {y : Value} (h : TR w F (mrgT false (.fr (Enc.es α) l.length c (encL l)) (.fr (Enc.es α) m.length d (encL m))) y) : TR w F (.fr (Enc.es α) m.length d (encL m)) y := by
  have hs : sameEs (Enc.es α) l.length (Enc.es α) m.length = true := by simp [sameEs, Nat.beq_refl]
  simp only [mrgT, hs, cond_true, beq_false h0, cond_false] at h
  exact h.congr fun i hi j hj z hz => (Enc.mrg _ _ w F j z hj).2 hz
theorem ObjR.row_TR {ρ : Rho} {k : Rk} {es lo n n' : Nat} {e e' : Nat → Nat → Td} {s : Spot} {w : World} (hn : n' = n) (he : ∀ i, lo ≤ i → i < n → ∀ j, j < es → ∀ F y, TR w F (e i j) y → TR w F (e' i j) y) (h : ObjR ρ (.row k es lo n e) s w) : ObjR ρ (.row k es lo n' e') s w := by
  subst hn
  obtain ⟨k1, k2, k3, kz, k4⟩ := h
  refine ⟨k1, k2, k3, kz, fun i h1 h2 j hj => ?_⟩
  obtain ⟨y, y1, y2, y3⟩ := k4 i h1 h2 j hj
  exact ⟨y, y1, y2, he i h1 h2 j hj _ _ y3⟩
theorem getD_app_lt {α : Type} (l m : List α) (d : α) {i : Nat} (h : i < l.length) : (l ++ m).getD i d = l.getD i d := by simp [List.getD, List.getElem?_append_left h]
theorem getD_app_ge {α : Type} (l m : List α) (d : α) {i : Nat} (h : l.length ≤ i) : (l ++ m).getD i d = m.getD (i - l.length) d := by simp [List.getD, List.getElem?_append_right h]
/-- a row with one more behind it -/
theorem row_app {α : Type} [Enc α] {k : Rk} {l : List α} {a : α} {ts : List Td} {es n : Nat} {g : Nat → Nat → Td} {ρ : Rho} {s : Spot} {w : World} (hes : es = Enc.es α) (hn : n = l.length) (hg : ∀ i j, g i j = encL l i j) (h : ∀ j, j < Enc.es α → nthT ts j = Enc.enc a j)
    (ho : ObjR ρ (.row k es 0 (n + 1) fun i j => mrgT (Nat.blt i n) (g (0 + i) j) (selT es 1 ts (i - n) j)) s w) : ObjR ρ (.row k (Enc.es α) 0 (l ++ [a]).length (encL (l ++ [a]))) s w := by
  subst hes hn
  refine ho.row_TR (by simp) fun i _ hi j hj F y ht => ?_
  have e1 : selT (Enc.es α) 1 ts (i - l.length) j = Enc.enc a j := h j hj
  rw [e1, hg, Nat.zero_add] at ht
  by_cases hil : i < l.length
  · have hb : Nat.blt i l.length = true := by simpa using hil
    rw [hb] at ht
    show TR w F (Enc.enc ((l ++ [a]).getD i Enc.dflt) j) y
    rw [getD_app_lt _ _ _ hil]
    exact (Enc.mrg _ _ w F j y hj).1 ht
  · rw [blt_false hil] at ht
    have : i = l.length := by omega
    subst this
    show TR w F (Enc.enc ((l ++ [a]).getD l.length Enc.dflt) j) y
    rw [getD_app_ge _ _ _ (Nat.le_refl _), Nat.sub_self]
    exact (Enc.mrg _ _ w F j y hj).2 ht
theorem take_succ {α : Type} {l : List α} {k : Nat} (h : k < l.length) (d : α) : l.take (k + 1) = l.take k ++ [l.getD k d] := by
  rw [List.take_add_one]
  simp [List.getD, h]
/-- objects one by one -/
theorem Seen.two {β : Bs} {f : AFr} {a b a' b' : AObj} (ha : a.isOwn = a'.isOwn) (hb : b.isOwn = b'.isOwn) (h1 : ∀ ρ s w, ObjR ρ a s w → ObjR ρ a' s w) (h2 : ∀ ρ s w, ObjR ρ b s w → ObjR ρ b' s w) : Seen β f (mkS [some a, some b]) f (mkS [some a', some b']) :=
  Seen.objs rfl fun i o2 h => match i with
    | 0 => by cases h; exact ⟨a, rfl, ha, h1⟩
    | 1 => by cases h; exact ⟨b, rfl, hb, h2⟩
    | _ + 2 => by cases h
theorem Seen.three {β : Bs} {f : AFr} {a b c a' b' c' : AObj} (ha : a.isOwn = a'.isOwn) (hb : b.isOwn = b'.isOwn) (hc : c.isOwn = c'.isOwn) (h1 : ∀ ρ s w, ObjR ρ a s w → ObjR ρ a' s w) (h2 : ∀ ρ s w, ObjR ρ b s w → ObjR ρ b' s w) (h3 : ∀ ρ s w, ObjR ρ c s w → ObjR ρ c' s w) : Seen β f (mkS [some a, some b, some c]) f (mkS [some a', some b', some c']) :=
  Seen.objs rfl fun i o2 h => match i with
    | 0 => by cases h; exact ⟨a, rfl, ha, h1⟩
    | 1 => by cases h; exact ⟨b, rfl, hb, h2⟩
    | 2 => by cases h; exact ⟨c, rfl, hc, h3⟩
    | _ + 3 => by cases h
/-- a row of one's own -/
def ownL {α : Type} [Enc α] (l : List α) (c : Nat) : Ra := .own (Enc.es α) l.length c (encL l)
def rowO {α : Type} [Enc α] (k : Rk) (l : List α) : AObj := .row k (Enc.es α) 0 l.length (encL l)

/-! ### functions of one row, of two -/
def LawOf (P : Program) (g : FuncId) (args : List Value) (objs : List (Option AObj)) (a : Ans) : Prop := ∃ (C : Told) (fuel n : Nat) (un : Nat → Nat) (lvs : Nat → List Nat) (ex : Nat → Kt → Prop), ToldS P C ∧ ∀ β : Bs, β.X.length = objs.length → lawE P C fuel n β un (cnOf objs.length lvs) ex g args (mkS objs) (ansE a)
def ok1 (α : Type) [Enc α] (p : List α → Nat → Bool) (ts : List Ta) : Bool := match ts with
  | [.cell t] => okT α t && p (listT α t) (nilT t)
  | _ => false
def ans1 (α : Type) [Enc α] (A : List α → Nat → Ans) (ts : List Ta) : Ans := match ts with
  | [.cell t] => A (listT α t) (nilT t)
  | _ => .pan .nilIface
theorem told1 {P : Program} {g : FuncId} {α : Type} [Enc α] {p : List α → Nat → Bool} {A : List α → Nat → Ans} (hm : P.follows .mixedOrders = true)
    (h : ∀ (l : List α) (c : Nat), l.length ≤ 1000000 → c ≤ 1 → p l c = true → LawOf P g [.slice (some ⟨0, 0, some 0⟩) l.length c] [some (rowO .look l)] (A l c)) : ToldW P g (ok1 α p) (ans1 α A) := by
  intro ts hok w args' F hF ha
  unfold ok1 at hok
  split at hok
  · rename_i t
    simp only [Bool.and_eq_true] at hok
    obtain ⟨h1, h2⟩ := okT_len hok.1
    obtain ⟨y, m, e, hy, hm'⟩ := ha.uncons
    have := hm'.nil_inv
    subst this
    have ha' : PW (TaR w F) [.cell (tdL (listT α t) (nilT t))] args'.toList := by rw [e]; exact PW.cons (okT_TRo hok.1 hy) (PW.nil _)
    exact toldW_at (ts := [.cell (tdL (listT α t) (nilT t))]) hm (h _ _ h1 h2 hok.2) w args' F hF ha'
  · cases hok
def ok2 (α β : Type) [Enc α] [Enc β] (p : List α → Nat → List β → Nat → Bool) (ts : List Ta) : Bool := match ts with
  | [.cell t, .cell u] => okT α t && okT β u && p (listT α t) (nilT t) (listT β u) (nilT u)
  | _ => false
def ans2 (α β : Type) [Enc α] [Enc β] (A : List α → Nat → List β → Nat → Ans) (ts : List Ta) : Ans := match ts with
  | [.cell t, .cell u] => A (listT α t) (nilT t) (listT β u) (nilT u)
  | _ => .pan .nilIface
theorem told2 {P : Program} {g : FuncId} {α β : Type} [Enc α] [Enc β] {p : List α → Nat → List β → Nat → Bool} {A : List α → Nat → List β → Nat → Ans} (hm : P.follows .mixedOrders = true)
    (h : ∀ (l : List α) (c : Nat) (m : List β) (d : Nat), l.length ≤ 1000000 → c ≤ 1 → m.length ≤ 1000000 → d ≤ 1 → p l c m d = true → LawOf P g [.slice (some ⟨0, 0, some 0⟩) l.length c, .slice (some ⟨1, 0, some 0⟩) m.length d] [some (rowO .look l), some (rowO .look m)] (A l c m d)) : ToldW P g (ok2 α β p) (ans2 α β A) := by
  intro ts hok w args' F hF ha
  unfold ok2 at hok
  split at hok
  · rename_i t u
    simp only [Bool.and_eq_true] at hok
    obtain ⟨⟨o1, o2⟩, o3⟩ := hok
    obtain ⟨h1, h2⟩ := okT_len o1
    obtain ⟨h3, h4⟩ := okT_len o2
    obtain ⟨y, m, e, hy, hm'⟩ := ha.uncons
    obtain ⟨z, m', rfl, hz, hm2⟩ := hm'.uncons
    have := hm2.nil_inv
    subst this
    have ha' : PW (TaR w F) [.cell (tdL (listT α t) (nilT t)), .cell (tdL (listT β u) (nilT u))] args'.toList := by rw [e]; exact PW.cons (okT_TRo o1 hy) (PW.cons (okT_TRo o2 hz) (PW.nil _))
    exact toldW_at (ts := [.cell (tdL (listT α t) (nilT t)), .cell (tdL (listT β u) (nilT u))]) hm (h _ _ _ _ h1 h2 h3 h4 o3) w args' F hF ha'
  · cases hok
/-! ### slices.Clone -/
def okC (es : Nat) (ts : List Ta) : Bool := match ts with
  | [.cell (.fr es' n c e)] => (Nat.beq es' es || (Nat.beq n 0 && Nat.beq c 1)) && Nat.ble n 1000000 && Nat.ble c 1
  | _ => false
def ansC (es : Nat) (ts : List Ta) : Ans := match ts with
  | [.cell (.fr _ n c e)] => .ret (.cell (.own es n c e))
  | _ => .pan .nilIface
theorem clone_told {P : Program} {g : FuncId} {es : Nat} (hm : P.follows .mixedOrders = true)
    (hk : ∀ (n c : Nat) (f : Nat → Nat → Td) (β : Bs) (K : AE → ASt → Prop), lawE P noTold 100 20 β (fun _ => 0) (cnOf 1 fun _ => []) (fun _ _ => False) g [.slice (some ⟨0, 0, some 0⟩) n c] (mkS [some (.row .look es 0 n f)]) K =
      br ((Nat.beq n 0 && Nat.beq c 1) == true) (K (.returned (.slice none 0 0)) (mkS [some (.row .look es 0 n f)])) (need (Nat.ble 0 0 && Nat.ble (0 + n) n) (need (Nat.ble (0 + n) 1000000)
        (K (.returned (.slice (some ⟨2, 0, some 0⟩) n 0)) (((mkS [some (.row .look es 0 n f)]).new (.cells [] true es)).new (.row .mine es 0 n fun j => f (0 + j)))))))
    (hk0 : ∀ (es' : Nat) (f : Nat → Nat → Td) (β : Bs) (K : AE → ASt → Prop), lawE P noTold 100 20 β (fun _ => 0) (cnOf 1 fun _ => []) (fun _ _ => False) g [.slice (some ⟨0, 0, some 0⟩) 0 1] (mkS [some (.row .look es' 0 0 f)]) K = K (.returned (.slice none 0 0)) (mkS [some (.row .look es' 0 0 f)])) : ToldW P g (okC es) (ansC es) := by
  intro ts hok w args' F hF ha
  unfold okC at hok
  split at hok
  · rename_i es' n c e
    simp only [Bool.and_eq_true] at hok
    obtain ⟨⟨h1, h2⟩, h3⟩ := hok
    have h2 := Nat.le_of_ble_eq_true h2
    refine toldW_at hm ⟨noTold, 100, 20, fun _ => 0, fun _ => [], fun _ _ => False, noTold_ok P, fun β hβ => ?_⟩ w args' F hF ha
    by_cases h0 : n = 0 ∧ c = 1
    · obtain ⟨rfl, rfl⟩ := h0
      show lawE P noTold 100 20 β (fun _ => 0) (cnOf 1 fun _ => []) (fun _ _ => False) g [.slice (some ⟨0, 0, some 0⟩) 0 1] (mkS [some (.row .look es' 0 0 e)]) (ansE (.ret (.cell (.own es 0 1 e))))
      rw [hk0]
      exact ⟨[], .inl ⟨rfl, rfl, rfl, rfl⟩, List.nodup_nil⟩
    · have h1 : es' = es := by
        rw [Bool.or_eq_true, Bool.and_eq_true] at h1
        rcases h1 with h1 | h1
        · exact Nat.eq_of_beq_eq_true h1
        · exact absurd ⟨Nat.eq_of_beq_eq_true h1.1, Nat.eq_of_beq_eq_true h1.2⟩ h0
      subst h1
      have hb : ((Nat.beq n 0 && Nat.beq c 1) == true) = false := by
        cases hq : (Nat.beq n 0 && Nat.beq c 1) with
        | false => rfl
        | true =>
          rw [Bool.and_eq_true] at hq
          exact absurd ⟨Nat.eq_of_beq_eq_true hq.1, Nat.eq_of_beq_eq_true hq.2⟩ h0
      have hc := Nat.le_of_ble_eq_true h3
      show lawE P noTold 100 20 β (fun _ => 0) (cnOf 1 fun _ => []) (fun _ _ => False) g [.slice (some ⟨0, 0, some 0⟩) n c] (mkS [some (.row .look es' 0 n e)]) (ansE (.ret (.cell (.own es' n c e))))
      rw [hk, hb]
      refine need_of (by simp) (need_of (by simpa using h2) ?_)
      exact ⟨[2], .inr (.inl ⟨2, 0, 0, n, _, 0, rfl, rfl, fun hn => by omega, by simp only [ASt.new, set_get]; exact upd_same _ _ _, Nat.le_refl _, by omega, fun i hi j hj => by simp only [Nat.zero_add]⟩), by simp⟩
  · cases hok
/-! ### answers that are truths; small facts -/
def bAns (b : Bool) : Ans := .ret (.cell (.sc (.bool b)))
theorem bAns_ok (b : Bool) (st : ASt) : ansE (bAns b) (.returned (.bool b)) st := ⟨[], ⟨rfl, rfl, rfl⟩, List.nodup_nil⟩
theorem bAns_any (b : Bool) : ansE (bAns b) = fun r _ => ansE (bAns b) r st0 := by funext r st; cases r <;> rfl
theorem okC_of {es n c : Nat} {e : Nat → Nat → Td} (hn : n ≤ 1000000) (hc : c ≤ 1) : okC es [Ta.cell (Td.fr es n c e)] = true := by
  simp only [okC, Bool.and_eq_true, Bool.or_eq_true]
  exact ⟨⟨.inl (Nat.beq_refl _), Nat.ble_eq_true_of_le hn⟩, Nat.ble_eq_true_of_le hc⟩
theorem bleS (n : Nat) : Nat.ble n n = true := by simp
theorem ble0 (n : Nat) : Nat.ble (0 + n) n = true := by simp
theorem encZ {α : Type} [Enc α] (l : List α) : (fun i => encL l (0 + i)) = encL l := by funext i; rw [Nat.zero_add]
theorem nFr (es n c : Nat) (e : Nat → Nat → Td) : nilT (Td.fr es n c e) = c := rfl
theorem lstT {α : Type} [Enc α] (l : List α) (c : Nat) : listT α (Td.fr (Enc.es α) l.length c (encL l)) = l := listT_tdL l c
end Go.Proofs.YtpogcoolgnjejaaGreatDoor.Ev
/-
  A law over data that came in, by what its code comes to.
-/
set_option linter.unusedVariables false
set_option linter.unusedSimpArgs false
namespace Go.Proofs.YtpogcoolgnjejaaGreatDoor.Ev
open Go Go.RowKit

def top1 (t : Td) (k : Nat) : Value × List AObj := match t with
  | .sc x => (x, [])
  | .fr es n c e => (.slice (some ⟨k, 0, some 0⟩) n c, [.row .still es 0 n e])
def tops : List Td → Nat → List Value × List AObj
  | [], _ => ([], [])
  | t :: l, k => ((top1 t k).1 :: (tops l (k + (top1 t k).2.length)).1, (top1 t k).2 ++ (tops l (k + (top1 t k).2.length)).2)
theorem top1_rel {w : World} {F : Nat → Prop} (hF : ∀ b, F b → b < w.heap.size) {t : Td} {y : Value} (h : TR w F t y) : ∃ S, (∀ k, LayR w F (top1 t k).2 S) ∧ ∀ X k, At X S k → VR (fun i => X[i]?) (top1 t k).1 y := by
  cases t with
  | sc x => exact ⟨[], fun k => LayR.nil w F, fun X k _ => VR.mono (noRho_sub _) h⟩
  | fr es n c e =>
    obtain ⟨s, h1, h2, h3, h4⟩ := arg_spot h hF
    refine ⟨[s], fun k => ⟨rfl, fun i s' o hs ho => ?_⟩, fun X k hX => h3 _ k s (hX 0 s rfl) (SameSpot.refl s)⟩
    cases i with
    | zero => cases hs; cases ho; exact ⟨h4, h2, h1⟩
    | succ i => cases hs
theorem tops_rel {w : World} {F : Nat → Prop} (hF : ∀ b, F b → b < w.heap.size) : ∀ {ts : List Td} {ys : List Value}, PW (TR w F) ts ys → ∃ S, (∀ k, LayR w F (tops ts k).2 S) ∧ ∀ X k, At X S k → VRL (fun i => X[i]?) (tops ts k).1 ys := by
  intro ts
  induction ts with
  | nil => intro ys h; have := h.nil_inv; subst this; exact ⟨[], fun k => LayR.nil w F, fun X k _ => VRL.nil _⟩
  | cons t ts ih =>
    intro ys h
    obtain ⟨y, m, rfl, hy, hm⟩ := h.uncons
    obtain ⟨S1, a1, a2⟩ := top1_rel hF hy
    obtain ⟨S2, b1, b2⟩ := ih hm
    refine ⟨S1 ++ S2, fun k => (a1 k).app (b1 _), fun X k hX => ?_⟩
    obtain ⟨h1, h2⟩ := hX.app
    rw [(a1 k).len] at h2
    exact VRL.cons (a2 X k h1) (b2 X _ h2)
theorem law_top {P : Program} {C : Told} {fuel n : Nat} {un : Nat → Nat} {lvs : Nat → List Nat} {ex : Nat → Kt → Prop} {g : FuncId} {ts : List Td} (hm : P.follows .mixedOrders = true) (hC : ToldS P C)
    (h : ∀ β : Bs, β.X.length = (tops ts 0).2.length → lawE P C fuel n β un (cnOf (tops ts 0).2.length lvs) ex g (tops ts 0).1 (mkS ((tops ts 0).2.map some)) trueE) (w : World) (args' : Array Value) (ha : PW (TR w (There w)) ts args'.toList) (hgl : GlA w := by first | assumption | exact fun b hb => by cases hb) :
    Calls P g args' w fun e w' => e = .returned (.bool true) ∧ Below w.heap.size w w' := by
  obtain ⟨S, s1, s2⟩ := tops_rel (F := There w) (fun b hb => hb) ha
  have hlen := (s1 0).len
  have hv := s2 S 0 (fun i s hs => by rw [Nat.zero_add]; exact hs)
  have hl' := h ⟨w.heap.size, w, S, There w, noW⟩ hlen
  rw [← hlen] at hl'
  refine (law_args (F := There w) hm hC w hlen (fun k s o h1 h2 => ((s1 0).ok k s o h1 h2).1 _ _) (fun s hs hvd => ?_) (fun s hs b hb => ?_) ⟨fun b hb => hb, hgl⟩ hv hl').mono fun e w' he => he.true (fun _ h => h)
  · obtain ⟨i, hi⟩ := List.getElem?_of_mem hs
    have hil := (List.getElem?_eq_some_iff.1 hi).1
    exact ((s1 0).ok i s _ hi (List.getElem?_eq_getElem (by omega))).2.1 hvd
  · obtain ⟨i, hi⟩ := List.getElem?_of_mem hs
    have hil := (List.getElem?_eq_some_iff.1 hi).1
    have := ((s1 0).ok i s _ hi (List.getElem?_eq_getElem (by omega))).2.2
    rw [this] at hb; exact hb
/-- a slice that came in, as a row of data -/
theorem typed_arg {H : Type} {enc : TypeId × Value → H} {P : Program} {w : World} {t : TypeId} {v : Value} {d : DataW H} {ps : List MemPlace} {b0 : Nat} {α : Type} [Enc α] {sh : Nat → Sh} {e : TypeId} (hs : ∀ c : Nat → Td, (∀ j, j < Enc.es α → ShOk (sh j) (c j)) → Enc.good α c) (ht : P.underlying t = some (.slice e)) (hl : flatB P 9 t [.sl (Enc.es α) sh] = true)
    (hv : Value.okWide P w .any b0 t v) (h : DataW.Trod enc P w 0 (fun _ => true) true t v d ps) : ∃ u : Td, goodT α u ∧ TR w (There w) (tdL (listT α u) (nilT u)) v := by
  obtain ⟨n, cc, el, h1, h2⟩ := row_of_trod ht hl hv h
  have hg := goodT_of hs h2
  exact ⟨_, hg, goodT_TR hg h1⟩
end Go.Proofs.YtpogcoolgnjejaaGreatDoor.Ev
/-
  Numbers of 64 bits as data that lie in cells (no more than that).
-/
set_option linter.unusedVariables false
set_option linter.unusedSimpArgs false
namespace Go.Proofs.YtpogcoolgnjejaaGreatDoor.Ev
open Go Go.Proofs Go.RowKit

structure U64 where
  v : Int
def u64E (a : U64) (_ : Nat) : Td := .sc (.int .u64 a.v)
def u64D (c : Nat → Td) : U64 := match c 0 with
  | .sc (.int .u64 a) => ⟨a⟩
  | _ => ⟨0⟩
def u64Ok (c : Nat → Td) : Bool := match c 0 with
  | .sc (.int .u64 a) => decide (0 ≤ a) && decide (a < 18446744073709551616)
  | _ => false
theorem u64Ok_inv {c : Nat → Td} (h : u64Ok c = true) : c 0 = .sc (.int .u64 (u64D c).v) ∧ 0 ≤ (u64D c).v ∧ (u64D c).v < 18446744073709551616 := by
  unfold u64Ok at h
  split at h
  · rename_i a h0
    simp only [Bool.and_eq_true, decide_eq_true_eq] at h
    simp only [u64D, h0]
    exact ⟨trivial, h.1, h.2⟩
  · cases h
instance encU64 : Enc U64 where
  es := 1
  enc := u64E
  dec := u64D
  ok := u64Ok
  dflt := ⟨0⟩
  good c := u64Ok c = true
  okgood c h := h
  law c h w F j y hj ht := by
    have : j = 0 := by omega
    subst this
    rw [(u64Ok_inv h).1] at ht
    exact ht
  back a := rfl
  mrg a b w F j y hj := ⟨fun h => h, fun h => h⟩
theorem esU64 : Enc.es U64 = 1 := rfl
def okU64 (b : U64) : Bool := decide (0 ≤ b.v) && decide (b.v < 18446744073709551616)
theorem okA_u64 (a : U64) : okA U64 a = okU64 a := rfl
theorem okU64_iff (a : U64) : okA U64 a = true ↔ 0 ≤ a.v ∧ a.v < 18446744073709551616 := by
  rw [okA_u64]; simp [okU64]
def shU64 (_ : Nat) : Sh := .int .u64
theorem goodU64 (c : Nat → Td) (h : ∀ j, j < 1 → ShOk (shU64 j) (c j)) : Enc.good U64 c := by
  have h0 := h 0 (by omega)
  show u64Ok c = true
  unfold u64Ok
  revert h0
  cases c 0 with
  | fr => intro h; exact h.elim
  | sc x =>
    cases x with
    | int k n =>
      intro h
      obtain ⟨rfl, hw⟩ := h
      simp [Lit.wf, IntKind.min, IntKind.max, IntKind.signed, IntKind.bits] at hw
      show (decide (0 ≤ n) && decide (n < 18446744073709551616)) = true
      simp; omega
    | _ => intro h; exact h.elim
theorem goodU64_all {t : Td} (h : goodT U64 t) : (listT U64 t).all (okA U64) = true := by
  rw [List.all_eq_true]
  refine goodT_all (p := fun b => okA U64 b = true) (fun c hc => ?_) h
  have := u64Ok_inv hc
  exact (okU64_iff _).2 this.2
end Go.Proofs.YtpogcoolgnjejaaGreatDoor.Ev
