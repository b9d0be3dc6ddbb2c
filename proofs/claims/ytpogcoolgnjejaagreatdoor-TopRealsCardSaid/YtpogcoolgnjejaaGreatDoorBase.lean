/-
  Small words and laws that the walks of this seat share: a slice whose cells read a list, a slice of bytes that reads a list of numbers, an append to a row of one's own. No function of the program is spoken of.
-/
import Derived.Test.YtpogcoolgnjejaaGreatDoorRows
import Derived.WalkKit
import Derived.WalkSpells
import Derived.WalkLawsBesides
import Derived.LoopN
import Derived.Laws.BitsAllLaws
import Derived.Lib.Hide
import Derived.Lib.SlBytesConst
import Derived.ProofKit
import Derived.Carry
import Derived.OpenShut
namespace Go.Proofs.YtpogcoolgnjejaaGreatDoor
open Go.RowKit

theorem ret_int {k : IntKind} {a b : Int} (h : a = b) : Ending.returned (.int k a) = .returned (.int k b) := by rw [h]

/-- What 'Below' gives of cells. -/
theorem bcell {W w1 : World} (hb : Below W.heap.size W w1) : (∀ b o, b < W.heap.size → w1.cell? ⟨b, o, none⟩ = W.cell? ⟨b, o, none⟩) ∧ (∀ b o, b < W.heap.size → w1.frozen? ⟨b, o, none⟩ = W.frozen? ⟨b, o, none⟩) :=
  ⟨fun b o h => hb.cell (p := ⟨b, o, none⟩) h, fun b o h => hb.frozen (p := ⟨b, o, none⟩) h⟩

theorem block_of_cell {w : World} {a : Addr} {v : Value} (h : w.cell? a = some v) : a.block < w.heap.size := by
  rcases Nat.lt_or_ge a.block w.heap.size with h' | h'
  · exact h'
  · simp [World.cell?, Array.getElem?_eq_none h'] at h

theorem add_plain (b off j : Nat) : (⟨b, off, none⟩ : Addr).add j = ⟨b, off + j, none⟩ := by
  by_cases h0 : j = 0
  · subst h0; simp [Addr.add]
  · simp [Addr.add, h0]

/-! ### 'below the heap as it was': steps -/
theorem Below_al {a w : World} (h : Below a.heap.size a w) (o : Obj) : Below a.heap.size a (w.alloc o) := h.alloc h.size o
theorem Below_st {a w : World} (h : Below a.heap.size a w) {p : Addr} (hp : a.heap.size ≤ p.block) (u : Value) : Below a.heap.size a (w.setCell p u) := h.setCell hp u
theorem Below_dr {a w : World} (h : Below a.heap.size a w) : Below a.heap.size a w.drew := h.drew
theorem Below_tr {a b c : World} (h : Below a.heap.size a b) (k : Below b.heap.size b c) : Below a.heap.size a c := h.trans (k.mono h.size)
/-- A contract of a callee, in a world that has grown since w0. -/
theorem chain {P : Program} {f : FuncId} {args : Array Value} {w0 w : World} {R : Ending → World → Prop} (h : Calls P f args w fun e w' => R e w' ∧ Below w.heap.size w w') (hb : Below w0.heap.size w0 w) : Calls P f args w fun e w' => R e w' ∧ Below w0.heap.size w0 w' :=
  h.mono fun _ _ ⟨he, h2⟩ => ⟨he, Below_tr hb h2⟩

/-! ### a slice that reads cells -/

/-- v is a slice of n elements, of k cells each, whose cells read cs in w. -/
def Reads (w : World) (k : Nat) (v : Value) (n : Nat) (cs : List Value) : Prop :=
  ∃ a cap, v = .slice a n cap ∧ cs.length = n * k ∧ n ≤ cap ∧ cap ≤ maxLen ∧ (a = none → cap = 0) ∧
    (cs ≠ [] → ∃ b off, a = some ⟨b, off, none⟩ ∧ b < w.heap.size ∧ ∀ j, j < cs.length → w.cell? ⟨b, off + j, none⟩ = cs[j]?)

theorem Reads.kept {B : Nat} {w w' : World} {k n : Nat} {v : Value} {cs : List Value} (h : Reads w k v n cs) (hb : Below B w w') (hB : w.heap.size ≤ B) : Reads w' k v n cs := by
  obtain ⟨a, cap, rfl, h1, h2, h3, h4, hc⟩ := h
  refine ⟨a, cap, rfl, h1, h2, h3, h4, fun hne => ?_⟩
  obtain ⟨b, off, ha, hbl, hcell⟩ := hc hne
  exact ⟨b, off, ha, Nat.lt_of_lt_of_le hbl hb.size, fun i hi => (hb.cell (p := ⟨b, off + i, none⟩) (show b < B by omega)).trans (hcell i hi)⟩

theorem Reads.nil (w : World) (k : Nat) : Reads w k (.slice none 0 0) 0 [] := ⟨none, 0, rfl, by simp, Nat.le_refl _, by simp [maxLen], fun _ => rfl, fun h => absurd rfl h⟩

/-- A row that has just been laid (a mark of the run-time's or none). -/
theorem Reads.made (w : World) (C : Array Value) (t : TypeId) (fr : Nat × Nat) (k n c : Nat) (hn : C.size = n * k) (hc : n ≤ c) (hm : c ≤ maxLen) :
    Reads (w.alloc (.cells C t fr)) k (.slice (some ⟨w.heap.size, 0, none⟩) n c) n C.toList := by
  refine ⟨_, c, rfl, by simpa using hn, hc, hm, fun h => by simp at h, fun _ => ⟨_, _, rfl, by simp, fun i hi => ?_⟩⟩
  rw [World.cell?_alloc_mark]
  simp

/-- A row of one's own reads what it holds. -/
theorem Reads.own {w : World} {base e k : Nat} {v : Value} {n : Nat} {xs : List Value} (h : w.ownsRow base e k v n xs) : Reads w k v n xs := by
  obtain ⟨hl, h⟩ := h
  rcases h with ⟨rfl, rfl⟩ | ⟨g, cap, cur, rfl, hb, hg, hn, hm, hs, ht⟩
  · have : xs = [] := List.eq_nil_of_length_eq_zero (by simpa using hl)
    subst this
    exact Reads.nil w k
  · refine ⟨_, cap, rfl, hl, hn, hm, fun h => by simp at h, fun _ => ⟨g, 0, rfl, (Array.getElem?_eq_some_iff.1 hg).1, fun j hj => ?_⟩⟩
    rw [Nat.zero_add, cell_of_row w g j cur e (0, 0) hg, ← ht, List.getElem?_take, if_pos (by omega)]
    simp

/-- '.. = append(s, x...)': s is a row of one's own, x reads cells. -/
theorem wpList_append_rd {P : Program} {w : World} {ops : Array Oper} {rest : List Oper} {o : Oper} {a : Act} {Q : Exit → Act → World → Prop} (hgd : o.guard = none) (s x : Operand) (t : TypeId)
    (ho : o.op = .call { callee := .builtin .append, args := #[s, x], argTypes := #[t, t] })
    (base : Nat) (e : TypeId) (i : TypeInfo) (z : Value) (size bytes : Nat) (ht : P.underlying t = some (.slice e)) (hi : P.info? e = some i) (hz : i.zero = some z)
    (hsize : i.size = size) (hby : i.bytes = bytes) (hzs : z.cells.size = size) (hsz : 0 < size)
    (v : Value) (n : Nat) (xs : List Value) (hs : a.eval s = v) (hown : w.ownsRow base e size v n xs)
    (y : Value) (m : Nat) (news : List Value) (hx : a.eval x = y) (hy : Reads w size y m news) (h1 : ∀ u ∈ news, u.oneCell' = true)
    (h63 : n + m ≤ maxLen) (hbytes : (n + m) * bytes ≤ 140737488355328) (hbase : base ≤ w.heap.size)
    (h : ∀ v' w', w'.ownsRow base e size v' (n + m) (xs ++ news) → Below base w w' → w.grownBy w' v.ownBlock → wpList P ops Q rest (a.put o.dst v') w') : wpList P ops Q (o :: rest) a w := by
  replace h : ∀ v' w', w'.ownsRow base e size v' (n + m) (xs ++ news) → w.grownBy w' v.ownBlock → wpList P ops Q rest (a.put o.dst v') w' :=
    fun v' w' h1 h2 => h v' w' h1 ((Below.refl base w).grown h2 hbase fun k hk => (hown.lt k hk).1) h2
  obtain ⟨ad, cap, rfl, hl, hc, hm, hnone, hcell⟩ := hy
  by_cases hne : news = []
  · subst hne
    have hm0 : m = 0 := by
      have h0 : m * size = 0 := hl.symm
      rcases Nat.mul_eq_zero.1 h0 with h | h
      · exact h
      · omega
    subst hm0
    cases ad with
    | none =>
      obtain rfl : cap = 0 := hnone rfl
      refine wpList_plain hgd fun K hK => ?_
      have hr := run_append_owned_none (P := P) w base t o.type e i size ht hi v n xs hown
      unfold Oper.wp execOp
      simp only [ho, resolve, invoke, builtin, Sem.run_bind, Sem.run_pure, Result.andThen_ok, List.map_toArray, List.map_cons, List.map_nil, hs, hx, hr]
      refine hK _ _ (h v w ?_ ⟨rfl, rfl, rfl, Nat.le_refl _, fun _ _ _ => rfl⟩)
      simpa using hown
    | some ad =>
      exact wpList_append_own w hgd s x t ho base e i z size bytes ht hi hz hsize hby hzs hsz v n xs hs hown ad 0 cap [] hx (by simp) (by simp) (by simp) h63 hbytes hbase fun v' w' h2 h3 _ => h v' w' h2 h3
  · obtain ⟨b, off, rfl, hbl, hcl⟩ := hcell hne
    refine wpList_append_own w hgd s x t ho base e i z size bytes ht hi hz hsize hby hzs hsz v n xs hs hown ⟨b, off, none⟩ m cap news hx hl ?_ h1 h63 hbytes hbase fun v' w' h2 h3 _ => h v' w' h2 h3
    intro j u hj
    rw [add_plain, hcl j (by rcases Nat.lt_or_ge j news.length with h | h; exact h; simp [List.getElem?_eq_none h] at hj), hj]

/-! ### bytes -/

def cells8 (bs : List Nat) : List Value := bs.map fun n => .int .u8 (n : Nat)
/-- v is a slice of bytes that reads bs in w. -/
def Bytes (w : World) (v : Value) (bs : List Nat) : Prop := Reads w 1 v bs.length (cells8 bs) ∧ ∀ i, i < bs.length → bs.getD i 0 < 256

theorem cells8_get (bs : List Nat) (i : Nat) (h : i < bs.length) : (cells8 bs)[i]? = some (.int .u8 (bs.getD i 0 : Nat)) := by
  simp [cells8, List.getD, List.getElem?_eq_getElem h]
theorem cells8_append (a b : List Nat) : cells8 (a ++ b) = cells8 a ++ cells8 b := by simp [cells8]
theorem cells8_one (bs : List Nat) : ∀ u ∈ cells8 bs, u.oneCell' = true := by
  intro u hu
  simp only [cells8, List.mem_map] at hu
  obtain ⟨n, _, rfl⟩ := hu
  rfl
theorem Bytes.parts {w : World} {v : Value} {bs : List Nat} (h : Bytes w v bs) : ∃ a cap, v = .slice a bs.length cap ∧ bs.length ≤ maxLen ∧ (∀ i, i < bs.length → bs.getD i 0 < 256) ∧
    (bs ≠ [] → ∃ b off, a = some ⟨b, off, none⟩ ∧ b < w.heap.size ∧ ∀ i, i < bs.length → w.cell? ⟨b, off + i, none⟩ = some (.int .u8 (bs.getD i 0 : Nat))) := by
  obtain ⟨⟨a, cap, rfl, hl, hc, hm, _, hcell⟩, hb⟩ := h
  refine ⟨a, cap, rfl, Nat.le_trans hc hm, hb, fun hne => ?_⟩
  obtain ⟨b, off, ha, hbl, hcl⟩ := hcell (by cases bs with | nil => exact absurd rfl hne | cons _ _ => simp [cells8])
  exact ⟨b, off, ha, hbl, fun i hi => (hcl i (by simpa [cells8] using hi)).trans (cells8_get bs i hi)⟩
/-- so much is enough to read them -/
def BytesW (w : World) (v : Value) (bs : List Nat) : Prop := ∃ a cap, v = .slice a bs.length cap ∧ bs.length ≤ maxLen ∧ (∀ i, i < bs.length → bs.getD i 0 < 256) ∧
    (bs ≠ [] → ∃ b off, a = some ⟨b, off, none⟩ ∧ b < w.heap.size ∧ ∀ i, i < bs.length → w.cell? ⟨b, off + i, none⟩ = some (.int .u8 (bs.getD i 0 : Nat)))
theorem Bytes.weak {w : World} {v : Value} {bs : List Nat} (h : Bytes w v bs) : BytesW w v bs := h.parts
theorem Bytes.kept {B : Nat} {w w' : World} {v : Value} {bs : List Nat} (h : Bytes w v bs) (hb : Below B w w') (hB : w.heap.size ≤ B) : Bytes w' v bs := ⟨h.1.kept hb hB, h.2⟩
theorem Bytes.nil (w : World) : Bytes w (.slice none 0 0) [] := ⟨Reads.nil w 1, by simp⟩
theorem Bytes.made (w : World) (C : Array Value) (t : TypeId) (fr : Nat × Nat) (n c : Nat) (bs : List Nat) (hC : C.toList = cells8 bs) (hn : n = bs.length) (hc : n ≤ c) (hm : c ≤ maxLen) (hb : ∀ i, i < bs.length → bs.getD i 0 < 256) :
    Bytes (w.alloc (.cells C t fr)) (.slice (some ⟨w.heap.size, 0, none⟩) n c) bs := by
  subst hn
  have hs : C.size = bs.length * 1 := by rw [← Array.length_toList, hC]; simp [cells8]
  have := Reads.made w C t fr 1 bs.length c hs hc hm
  rw [hC] at this
  exact ⟨this, hb⟩
theorem Bytes.own {w : World} {base e : Nat} {v : Value} {n : Nat} {bs : List Nat} (h : w.ownsRow base e 1 v n (cells8 bs)) (hb : ∀ i, i < bs.length → bs.getD i 0 < 256) : Bytes w v bs := by
  have hn : n = bs.length := by have := h.1; simp [cells8] at this; omega
  subst hn
  exact ⟨Reads.own h, hb⟩

/-- What the form tells of a slice of integers that came in: it is nil; or it leads to a row of 'cap' cells. -/
def IsRow (k : IntKind) (w : World) (a : Option Addr) (len cap : Nat) (zs : List Int) : Prop :=
  (a = none ∧ len = 0 ∧ cap = 0 ∧ zs = []) ∨
  ∃ x, a = some x ∧ len ≤ cap ∧ cap ≤ maxLen ∧ zs.length = cap ∧ (∀ i, i < zs.length → w.cell? (x.add i) = some (.int k (zs.getD i 0))) ∧ ∀ n ∈ zs, (Lit.int k n).wf = true

theorem Reads.of_row {k : IntKind} {w : World} {a : Option Addr} {len cap : Nat} {zs : List Int} (h : IsRow k w a len cap zs) : Reads w 1 (.slice a len cap) len ((zs.take len).map fun n => .int k n) := by
  rcases h with ⟨rfl, rfl, rfl, rfl⟩ | ⟨x, rfl, hl, hm, hz, hcell, hwz⟩
  · exact Reads.nil _ _
  · have hlen : ((zs.take len).map (fun n => Value.int k n)).length = len := by simp; omega
    refine ⟨some x, cap, rfl, by rw [hlen]; omega, hl, hm, fun h => by simp at h, fun hne => ?_⟩
    have hpos : 0 < len := by
      rcases Nat.eq_zero_or_pos len with h0 | h0
      · subst h0; simp at hne
      · exact h0
    obtain ⟨b, off, spot⟩ := x
    have hc := hcell 0 (by omega)
    have hspot : spot = none := by simpa [Addr.add] using World.cell?_spot hc
    subst hspot
    refine ⟨b, off, rfl, by simpa [Addr.add] using block_of_cell hc, fun i hi => ?_⟩
    rw [hlen] at hi
    have := hcell i (by omega)
    rw [add_plain] at this
    rw [this]
    simp [List.getD, hi, List.getElem?_eq_getElem (show i < zs.length by omega)]

theorem Bytes.of_row {w : World} {a : Option Addr} {len cap : Nat} {zs : List Int} (h : IsRow .u8 w a len cap zs) : ∃ bs, bs.length = len ∧ Bytes w (.slice a len cap) bs := by
  have hr := Reads.of_row h
  have hb : ∀ n ∈ zs.take len, 0 ≤ n ∧ n ≤ 255 := by
    intro n hn
    rcases h with ⟨_, _, _, rfl⟩ | ⟨x, _, _, _, _, _, hwz⟩
    · simp at hn
    · have hw := hwz n (List.mem_of_mem_take hn)
      simp [Lit.wf, IntKind.min, IntKind.max, IntKind.signed, IntKind.bits] at hw
      omega
  have e1 : cells8 ((zs.take len).map Int.toNat) = (zs.take len).map fun n => Value.int .u8 n := by
    simp only [cells8, List.map_map]
    refine List.map_congr_left fun n hn => ?_
    simp [Int.toNat_of_nonneg (hb n hn).1]
  have hl : ((zs.take len).map Int.toNat).length = len := by
    have := hr.choose_spec
    obtain ⟨a', cap', _, h2, _⟩ := hr
    simp at h2 ⊢; omega
  refine ⟨(zs.take len).map Int.toNat, hl, ?_, ?_⟩
  · rw [e1, hl]; exact hr
  · intro i hi
    have hmem : ((zs.take len).map Int.toNat).getD i 0 ∈ (zs.take len).map Int.toNat := by
      simp only [List.getD, List.getElem?_eq_getElem hi, Option.getD_some]
      exact List.getElem_mem hi
    obtain ⟨n, hn, he⟩ := List.mem_map.1 hmem
    have := hb n hn
    omega

/-- A []byte that came in. -/
theorem Bytes.of_trod {H : Type} {enc : TypeId × Value → H} {P : Program} {w : World} {t e : TypeId} {v : Value} {d : DataW H} {ps : List MemPlace} {b0 : Nat} (ht : P.underlying t = some (.slice e)) (he : P.underlying e = some (.int .u8)) (hc : P.cellsOf e = 1)
    (hv : Value.okWide P w .any b0 t v) (h : DataW.Trod enc P w 0 (fun _ => true) true t v d ps) : ∃ bs, Bytes w v bs := by
  obtain ⟨a, len, cap, rfl⟩ := WideShapes.okWide_slice ht hv
  obtain ⟨fuel, hf⟩ := h
  rcases ChangeShapes.open_ints ht he hc hf with ⟨hcs, _⟩ | ⟨x, l, c, zs, hcs, _, hl, hm, hz, _, hcell, hwz⟩
  · simp [Value.cells] at hcs
    obtain ⟨rfl, rfl, rfl⟩ := hcs
    exact ⟨[], Bytes.nil _⟩
  · simp [Value.cells] at hcs
    obtain ⟨rfl, rfl, rfl⟩ := hcs
    obtain ⟨bs, _, h⟩ := Bytes.of_row (.inr ⟨_, rfl, hl, hm, by simpa using hz, hcell, hwz⟩)
    exact ⟨bs, h⟩

/-- An unsigned number that came in. -/
theorem open_nat {H : Type} {enc : TypeId × Value → H} {P : Program} {w : World} {t : TypeId} {v : Value} {d : DataW H} {ps : List MemPlace} {b0 : Nat} {k : IntKind} (hk : k.signed = false) (ht : P.underlying t = some (.int k))
    (hv : Value.okWide P w .any b0 t v) (h : DataW.Trod enc P w 0 (fun _ => true) true t v d ps) : ∃ n : Nat, n < 2 ^ k.bits ∧ v = .int k (n : Nat) := by
  obtain ⟨x, rfl, _, _, wx⟩ := ChangeShapes.open_int ht hv h
  have hb : 0 ≤ x ∧ x < 2 ^ k.bits := by
    cases k <;> simp [IntKind.signed] at hk <;> simp [Lit.wf, IntKind.min, IntKind.max, IntKind.signed, IntKind.bits] at wx ⊢ <;> omega
  refine ⟨x.toNat, ?_, by rw [Int.toNat_of_nonneg hb.1]⟩
  have h2 := hb.2
  rw [← Int.toNat_of_nonneg hb.1] at h2
  exact_mod_cast h2

end Go.Proofs.YtpogcoolgnjejaaGreatDoor
