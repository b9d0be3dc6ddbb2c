/-
  Slices that come in, as rows of the evaluator's: of numbers, truths, structs of such. And laws of them.
-/
import Derived.Test.YtokpobfimphhgaaSyJ
import Derived.Deep.Slices
import Derived.WideShapes
import Derived.ChangeArms
set_option linter.unusedVariables false
set_option linter.unusedSimpArgs false
namespace Go.Proofs.Ytokpobfimphhgaa.Ev
open Go Go.RowKit

/-- what a cell is to be -/
inductive Sh where
  | int (k : IntKind)
  | bool
  | flt (k : FloatKind)
  | str
def Sh.ok : Sh → Value → Prop
  | .int k, .int k' n => k' = k ∧ (Lit.int k n).wf = true
  | .bool, .bool _ => True
  | .flt k, .float k' b => k' = k ∧ (Lit.float k b).wf = true
  | .str, .string s => s.size ≤ maxLen
  | _, _ => False
def ShL : List Sh → List Value → Prop
  | [], [] => True
  | s :: l, v :: m => s.ok v ∧ ShL l m
  | _, _ => False
theorem ShL.len : ∀ {l : List Sh} {m : List Value}, ShL l m → m.length = l.length
  | [], [], _ => rfl
  | _ :: _, _ :: _, h => by simp [ShL.len h.2]
  | [], _ :: _, h => h.elim
  | _ :: _, [], h => h.elim
theorem ShL.app : ∀ {l l' : List Sh} {m m' : List Value}, ShL l m → ShL l' m' → ShL (l ++ l') (m ++ m')
  | [], _, [], _, _, h => h
  | _ :: _, _, _ :: _, _, h, k => ⟨h.1, ShL.app h.2 k⟩
  | [], _, _ :: _, _, h, _ => h.elim
  | _ :: _, _, [], _, h, _ => h.elim
def fieldsB (P : Program) (fl : TypeId → List Sh → Bool) : List Field → Nat → List Sh → Bool
  | [], _, [] => true
  | f :: fs, off, l => Nat.beq f.offset off && fl f.type (l.take (P.cellsOf f.type)) && Nat.ble (P.cellsOf f.type) l.length && fieldsB P fl fs (off + P.cellsOf f.type) (l.drop (P.cellsOf f.type))
  | [], _, _ :: _ => false
def elemsB (P : Program) (fl : List Sh → Bool) (c : Nat) : Nat → List Sh → Bool
  | 0, [] => true
  | n + 1, l => fl (l.take c) && Nat.ble c l.length && elemsB P fl c n (l.drop c)
  | 0, _ :: _ => false
/-- of what a type's cells are -/
def flatB (P : Program) : Nat → TypeId → List Sh → Bool
  | 0, _, _ => false
  | n + 1, t, l => match P.underlying t with
    | some .bool => match l with | [.bool] => true | _ => false
    | some (.int k) => match l with | [.int k'] => decide (k = k') | _ => false
    | some (.float k) => match l with | [.flt k'] => decide (k = k') | _ => false
    | some .string => match l with | [.str] => true | _ => false
    | some (.struct fs) => Nat.beq l.length (P.cellsOf t) && fieldsB P (flatB P n) fs.toList 0 l
    | some (.array m e) => Nat.beq l.length (P.cellsOf t) && elemsB P (flatB P n e) (P.cellsOf e) m l
    | _ => false
section
variable {H : Type} {enc : TypeId × Value → H} {P : Program} {w : World} {base : Nat} {spare : Nat → Bool} {held : Bool}
theorem trod_float1 {fuel : Nat} {t : TypeId} {cs : List Value} {x : DataW H × List MemPlace} {k : FloatKind} (ht : P.underlying t = some (.float k)) (h : DataW.trod enc P w base spare held fuel t cs = some x) : ∃ b, cs = [.float k b] ∧ (Lit.float k b).wf = true := by
  cases fuel with
  | zero => simp [DataW.trod] at h
  | succ n =>
    unfold DataW.trod at h
    rw [ht] at h
    split at h <;> simp_all
theorem trod_array1 {fuel : Nat} {t e : TypeId} {m : Nat} {cs : List Value} {x : DataW H × List MemPlace} (ht : P.underlying t = some (.array m e)) (h : DataW.trod enc P w base spare held fuel t cs = some x) :
    ∃ n, cs.length = P.cellsOf t ∧ ∀ i, i < m → ∃ y, DataW.trod enc P w base spare held n e ((cs.drop (i * P.cellsOf e)).take (P.cellsOf e)) = some y := by
  cases fuel with
  | zero => simp [DataW.trod] at h
  | succ n =>
    unfold DataW.trod at h
    rw [ht] at h
    split at h <;> simp_all
    obtain ⟨hl, xs, hp, hd⟩ := h
    refine ⟨n, fun i hi => ?_⟩
    have h1 := mapM_some_get hp i i (by simp [hi])
    have h2 := mapM_some_length hp
    have : i < xs.length := by rw [h2]; simpa using hi
    rw [List.getElem?_eq_getElem this] at h1
    exact ⟨_, _, h1⟩
theorem flat_ok : ∀ (n : Nat) {fuel : Nat} {t : TypeId} {l : List Sh} {cs : List Value} {x : DataW H × List MemPlace}, flatB P n t l = true → DataW.trod enc P w base spare held fuel t cs = some x → ShL l cs := by
  intro n
  induction n with
  | zero => intro fuel t l cs x h; cases h
  | succ n ih =>
    intro fuel t l cs x h hx
    unfold flatB at h
    split at h
    · rename_i ht
      split at h
      · obtain ⟨b, rfl, _⟩ := DataW.trod_bool ht hx
        exact ⟨trivial, trivial⟩
      · cases h
    · rename_i k ht
      split at h
      · have := of_decide_eq_true h
        subst this
        obtain ⟨b, rfl, _, hw⟩ := DataW.trod_int ht hx
        exact ⟨⟨rfl, hw⟩, trivial⟩
      · cases h
    · rename_i k ht
      split at h
      · have := of_decide_eq_true h
        subst this
        obtain ⟨b, rfl, hw⟩ := trod_float1 ht hx
        exact ⟨⟨rfl, hw⟩, trivial⟩
      · cases h
    · rename_i ht
      split at h
      · obtain ⟨s, rfl, _, hw⟩ := DataW.trod_string ht hx
        exact ⟨hw, trivial⟩
      · cases h
    · rename_i fs ht
      simp only [Bool.and_eq_true] at h
      obtain ⟨xs, m, _, _, hl, hxl, hf⟩ := DataW.trod_struct ht hx
      have hlen : cs.length = l.length := by rw [hl]; exact (Nat.eq_of_beq_eq_true h.1).symm
      have key : ∀ (fl : List Field) (k : Nat) (off : Nat) (l : List Sh), (∀ i f, fl[i]? = some f → fs[k + i]? = some f) → fieldsB P (flatB P n) fl off l = true → cs.length = off + l.length → ShL l (cs.drop off) := by
        intro fl
        induction fl with
        | nil =>
          intro k off l _ h hl
          cases l with
          | nil => rw [List.drop_eq_nil_of_le (by simp at hl; omega)]; trivial
          | cons => cases h
        | cons f fl ihf =>
          intro k off l hfs h hl
          unfold fieldsB at h
          simp only [Bool.and_eq_true] at h
          obtain ⟨⟨⟨h1, h2⟩, h3⟩, h4⟩ := h
          have h1 := Nat.eq_of_beq_eq_true h1
          have h3 := Nat.le_of_ble_eq_true h3
          have e1 := hf k f (hfs 0 f rfl)
          have hk : k < xs.length := by
            have : k < fs.size := by
              have := hfs 0 f rfl
              exact (Array.getElem?_eq_some_iff.1 this).1
            omega
          rw [List.getElem?_eq_getElem hk, h1] at e1
          have e2 := ih h2 e1
          have e3 := ihf (k + 1) (off + P.cellsOf f.type) (l.drop (P.cellsOf f.type)) (fun i g hg => by rw [show k + 1 + i = k + (i + 1) by omega]; exact hfs (i + 1) g (by simpa using hg)) h4 (by rw [List.length_drop]; omega)
          have := e2.app e3
          rw [List.take_append_drop] at this
          rw [← List.drop_drop, List.take_append_drop] at this
          exact this
      have := key fs.toList 0 0 l (fun i f hf => by simpa using hf) h.2 (by omega)
      simpa using this
    · rename_i m e ht
      simp only [Bool.and_eq_true] at h
      obtain ⟨q, hl, hf⟩ := trod_array1 ht hx
      have hlen : cs.length = l.length := by rw [hl]; exact (Nat.eq_of_beq_eq_true h.1).symm
      have key : ∀ (r k : Nat) (l : List Sh), k + r = m → elemsB P (flatB P n e) (P.cellsOf e) r l = true → cs.length = k * P.cellsOf e + l.length → ShL l (cs.drop (k * P.cellsOf e)) := by
        intro r
        induction r with
        | zero =>
          intro k l _ h hl
          cases l with
          | nil => rw [List.drop_eq_nil_of_le (by simp at hl; omega)]; trivial
          | cons => cases h
        | succ r ihr =>
          intro k l hk h hl
          unfold elemsB at h
          simp only [Bool.and_eq_true] at h
          obtain ⟨⟨h2, h3⟩, h4⟩ := h
          have h3 := Nat.le_of_ble_eq_true h3
          obtain ⟨y, e1⟩ := hf k (by omega)
          have e2 := ih h2 e1
          have hm : (k + 1) * P.cellsOf e = k * P.cellsOf e + P.cellsOf e := Nat.succ_mul _ _
          have e3 := ihr (k + 1) (l.drop (P.cellsOf e)) (by omega) h4 (by rw [List.length_drop, hm]; omega)
          rw [hm] at e3
          have := e2.app e3
          rw [List.take_append_drop] at this
          rw [← List.drop_drop, List.take_append_drop] at this
          exact this
      have := key m 0 l (by omega) h.2 (by rw [Nat.zero_mul]; omega)
      simpa using this
    · cases h
end

/-- x is a slice of so many elements -/
structure RowAt (w : World) (x : Value) (n es : Nat) (elem : Nat → List Value) : Prop where
  len : n ≤ maxLen
  at_ : (n = 0 ∧ x = .slice none 0 0) ∨ (n = 0 ∧ ∃ a c, x = .slice (some a) 0 c) ∨ ∃ b o c, x = .slice (some ⟨b, o, none⟩) n c ∧ n ≤ c ∧ b < w.heap.size ∧
    ∀ i, i < n → (elem i).length = es ∧ ∀ (j : Nat) (v : Value), (elem i)[j]? = some v → w.cell? ⟨b, o + i * es + j, none⟩ = some v ∧ v.oneCell' = true ∧ ∀ ρ, VR ρ v v
theorem Sh.one {s : Sh} {v : Value} (h : s.ok v) : v.oneCell' = true ∧ ∀ ρ, VR ρ v v := by
  cases s <;> cases v <;> first | exact h.elim | exact ⟨rfl, fun ρ => by constructor⟩
theorem ShL.at_ : ∀ {l : List Sh} {m : List Value} {j : Nat} {v : Value}, ShL l m → m[j]? = some v → ∃ s, l[j]? = some s ∧ s.ok v
  | s :: _, u :: _, 0, v, h, e => by simp at e; subst e; exact ⟨s, rfl, h.1⟩
  | _ :: _, _ :: _, j + 1, v, h, e => ShL.at_ (j := j) h.2 (by simpa using e)
  | [], [], _, _, _, e => by simp at e
  | [], _ :: _, _, _, h, _ => h.elim
  | _ :: _, [], _, _, h, _ => h.elim
theorem cell_lt {w : World} {a : Addr} {v : Value} (h : w.cell? a = some v) : a.block < w.heap.size := by
  unfold World.cell? at h
  split at h
  · rename_i hb
    exact (Array.getElem?_eq_some_iff.1 hb).1
  · cases h
theorem RowAt.of_trod {H : Type} {enc : TypeId × Value → H} {P : Program} {w : World} {t e : TypeId} {v : Value} {d : DataW H} {ps : List MemPlace} {b0 : Nat} {l : List Sh} {es : Nat} (ht : P.underlying t = some (.slice e)) (hl : flatB P 9 e l = true) (hes : P.cellsOf e = es) (hes0 : 0 < es)
    (hv : Value.okWide P w .any b0 t v) (h : DataW.Trod enc P w 0 (fun _ => true) true t v d ps) : ∃ n elem, RowAt w v n es elem ∧ ∀ i, i < n → ShL l (elem i) := by
  obtain ⟨a, len, cap, rfl⟩ := WideShapes.okWide_slice ht hv
  obtain ⟨fuel, hf⟩ := h
  rcases Deep.open_slice ht hf with ⟨hcs, _⟩ | ⟨x, len', c, m, n, D, Pl, hcs, _, hlc, hm, hmm, _, hcell⟩
  · simp [Value.cells] at hcs
    obtain ⟨rfl, rfl, rfl⟩ := hcs
    exact ⟨0, fun _ => [], ⟨Nat.zero_le _, .inl ⟨rfl, rfl⟩⟩, fun i hi => by omega⟩
  · simp [Value.cells] at hcs
    obtain ⟨rfl, rfl, rfl⟩ := hcs
    simp at hmm
    subst hmm
    rw [hes] at hcell
    rcases Nat.eq_zero_or_pos len with h0 | hpos
    · subst h0
      exact ⟨0, fun _ => [], ⟨Nat.zero_le _, .inr (.inl ⟨rfl, _, _, rfl⟩)⟩, fun i hi => by omega⟩
    let E : Nat → List Value := fun i => (w.cells? 0 (x.add (i * es)) es).getD []
    have hE : ∀ i, i < len → w.cells? 0 (x.add (i * es)) es = some (E i) ∧ ShL l (E i) := by
      intro i hi
      obtain ⟨cs', h1, h2⟩ := hcell i (by omega)
      have : E i = cs' := by simp only [E, h1, Option.getD_some]
      exact ⟨by rw [this]; exact h1, by rw [this]; exact flat_ok 9 hl h2⟩
    obtain ⟨b, o, sp⟩ := x
    · have hspot : sp = none := by
        obtain ⟨h1, _⟩ := hE 0 hpos
        obtain ⟨_, h2, h3⟩ := World.cells?_some h1
        have h4 := h3 0 (by omega)
        rw [List.getElem?_eq_getElem (by omega)] at h4
        simpa [Addr.add] using World.cell?_spot h4
      subst hspot
      have hblk : b < w.heap.size := by
        obtain ⟨h1, _⟩ := hE 0 hpos
        obtain ⟨_, h2, h3⟩ := World.cells?_some h1
        have h4 := h3 0 (by omega)
        rw [List.getElem?_eq_getElem (by omega)] at h4
        simpa [Addr.add] using cell_lt h4
      refine ⟨len, E, ⟨Nat.le_trans hlc hm, .inr (.inr ⟨b, o, _, rfl, hlc, hblk, fun i hi => ?_⟩)⟩, fun i hi => (hE i hi).2⟩
      obtain ⟨h1, hs⟩ := hE i hi
      obtain ⟨_, h2, h3⟩ := World.cells?_some h1
      refine ⟨h2, fun j v hv => ?_⟩
      have hj : j < es := by have := (List.getElem?_eq_some_iff.1 hv).1; omega
      have h4 := h3 j hj
      rw [hv] at h4
      obtain ⟨s, _, hs2⟩ := hs.at_ hv
      obtain ⟨o1, o2⟩ := Sh.one hs2
      refine ⟨?_, o1, o2⟩
      rw [← h4, add_at, add_at]

/-- where it lies -/
theorem RowAt.spot {w : World} {x : Value} {n es : Nat} {elem : Nat → List Value} (h : RowAt w x n es elem) :
    ∃ s : Spot, (s.void = false → s.blk < w.heap.size) ∧ (∃ c, c ≤ 1 ∧ ∀ (ρ : Rho) (k : Nat), ρ k = some s → VR ρ (.slice (some ⟨k, 0, some 0⟩) n c) x) ∧ ∀ X, ExtOk ⟨w.heap.size, w, X⟩ s (.row false es 0 n elem) := by
  rcases h.at_ with ⟨rfl, rfl⟩ | ⟨rfl, a, c, rfl⟩ | ⟨b, o, c, rfl, hc, hb, hcell⟩
  · exact ⟨⟨0, 0, true, es, 0, true⟩, (fun h => by cases h), ⟨1, Nat.le_refl _, fun ρ k hk => .sliceN _ _⟩, fun X => ⟨rfl, fun ρ w' hw => ⟨rfl, fun _ => Nat.le_refl _, (fun h => by cases h), fun i _ hi => by omega⟩⟩⟩
  · exact ⟨⟨0, 0, true, es, 0, true⟩, (fun h => by cases h), ⟨0, Nat.zero_le _, fun ρ k hk => .sliceE _ _ _ _ _ hk rfl⟩, fun X => ⟨rfl, fun ρ w' hw => ⟨rfl, fun _ => Nat.le_refl _, (fun h => by cases h), fun i _ hi => by omega⟩⟩⟩
  · refine ⟨⟨b, o, true, es, 0, false⟩, fun _ => hb, ⟨0, Nat.zero_le _, fun ρ k hk => .sliceI k 0 ⟨b, o, true, es, 0, false⟩ _ _ c o hk hc (fun h => absurd rfl h) (fun h => by cases h) rfl (.inl (by simp))⟩, fun X => ⟨rfl, fun ρ w' hw => ⟨rfl, (fun h => by cases h), (fun h => by cases h), fun i _ hi => ?_⟩⟩⟩
    obtain ⟨h1, h2⟩ := hcell i hi
    refine ⟨h1, fun j v hv => ?_⟩
    obtain ⟨h3, h4, h5⟩ := h2 j v hv
    exact ⟨v, (hw.cell (p := ⟨b, o + i * es + j, none⟩) hb).trans h3, h4, h5 ρ⟩
/-- a law of rows and of numbers: what has to hold -/
theorem law_rows {P : Program} {C : Told} {fuel n : Nat} (hm : P.follows .mixedOrders = true) (hC : ToldS P C) {un : Nat → Nat} {lvs : Nat → List Nat} {ex : Nat → Kt → Prop} {g : FuncId} {args : List Value} {args' : Array Value} {X : List Spot} {objs : List AObj} (w : World)
    (hlen : X.length = objs.length) (hobj : ∀ (k : Nat) (s : Spot) (o : AObj), X[k]? = some s → objs[k]? = some o → ExtOk ⟨w.heap.size, w, X⟩ s o) (hblk : ∀ s ∈ X, s.void = false → s.blk < w.heap.size) (hv : VRL (fun i => X[i]?) args args'.toList)
    (h : lawJ P C fuel n ⟨w.heap.size, w, X⟩ un (cnOf X.length lvs) ex g args (mkS (objs.map some)) trueV) :
    Calls P g args' w fun e w' => e = .returned (.bool true) ∧ Below w.heap.size w w' := by
  have hget : ∀ k o, (mkS (objs.map some)).h.get k = some o → objs[k]? = some o := by
    intro k o e
    rw [mkS_get, List.getElem?_map] at e
    cases hq : objs[k]? with
    | none => rw [hq] at e; cases e
    | some u => rw [hq] at e; cases e; rfl
  have hX : ∀ k o, objs[k]? = some o → ∃ s, X[k]? = some s := fun k o e => by
    have h1 := (List.getElem?_eq_some_iff.1 e).1
    exact ⟨X[k]'(by omega), List.getElem?_eq_getElem (by omega)⟩
  have hro : ∀ k o, (mkS (objs.map some)).h.get k = some o → o.isOwn = false := fun k o e => by
    obtain ⟨s, hs⟩ := hX k o (hget k o e)
    exact (hobj k s o hs (hget k o e)).1
  refine law_true (ρ := fun i => X[i]?) (X := X) hm hC rfl (fun i t e => e) hv ⟨fun a t e hvd => ?_, fun a o e => ?_, fun a b oa ob sa sb ea eb eo ra rb va vb heq => ?_⟩ (fun k o e => ?_) (fun a ha => ?_) (fun b hb' => ?_) h
  · exact hblk t (List.mem_of_getElem? e) hvd
  · obtain ⟨s, hs⟩ := hX a o (hget a o e)
    exact ⟨s, hs, (hobj a s o hs (hget a o e)).2 _ w (Below.refl _ _)⟩
  · rcases eo with eo | eo
    · rw [hro a oa ea] at eo; cases eo
    · rw [hro b ob eb] at eo; cases eo
  · have := (List.getElem?_eq_some_iff.1 (hget k o e)).1
    simpa [mkS] using this
  · have : objs.length ≤ a := by simpa [mkS] using ha
    exact List.getElem?_eq_none (by omega)
  · obtain ⟨a, o, t, e, e0, _⟩ := hb'
    rw [hro a o e] at e0; cases e0
theorem w64 {x : Int} (h1 : -9223372036854775808 ≤ x) (h2 : x < 9223372036854775808) : IntKind.wrap .i64 x = x := by
  unfold IntKind.wrap
  simp [IntKind.signed, IntKind.bits]
  split <;> omega
theorem wu64 {x : Int} (h1 : 0 ≤ x) (h2 : x < 18446744073709551616) : IntKind.wrap .u64 x = x := by
  unfold IntKind.wrap
  simp [IntKind.signed, IntKind.bits]
  omega
end Go.Proofs.Ytokpobfimphhgaa.Ev
