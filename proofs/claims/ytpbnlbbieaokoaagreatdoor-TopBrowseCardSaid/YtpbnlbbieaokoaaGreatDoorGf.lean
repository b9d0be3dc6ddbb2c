/-
  What the evaluator says of single operations holds of their runs: joined.
-/
import Derived.Test.YtpbnlbbieaokoaaGreatDoorEvE
import Derived.Test.YtpbnlbbieaokoaaGreatDoorGa
import Derived.Orders
set_option linter.unusedVariables false
set_option linter.unusedSimpArgs false
namespace Go.Proofs.YtpbnlbbieaokoaaGreatDoor.Ev
open Go

theorem ble_le {a b : Nat} (h : Nat.ble a b = true) : a ≤ b := Nat.le_of_ble_eq_true h
theorem blt_lt {a b : Nat} (h : Nat.blt a b = true) : a < b := by simpa using h

set_option maxHeartbeats 1000000 in
theorem aOp_sound {P : Program} {f : AFr} {st : ASt} {o : Oper} {r : AN} (h : aOp P f st o = .ok r) : OpR P o f st r := by
  unfold aOp at h
  cases hop : o.op with
  | move x => simp only [hop] at h; cases h; exact op_move (.inl hop)
  | assign x => simp only [hop] at h; cases h; exact op_move (.inr hop)
  | pick c a b =>
    simp only [hop] at h
    split at h
    · rename_i b' hb; cases h; exact op_pick hop hb
    · cases h
  | alloc t =>
    simp only [hop] at h
    obtain ⟨z, hz, h1⟩ := bnd_ok h
    cases h1
    exact op_alloc hop hz
  | box t x =>
    simp only [hop] at h
    obtain ⟨h1, h2⟩ := cond_ok h
    cases h2
    exact op_box hop h1
  | build t ps =>
    simp only [hop] at h
    obtain ⟨z, hz, h1⟩ := bnd_ok h
    obtain ⟨d, hd, h2⟩ := bnd_ok h1
    split at h2
    · obtain ⟨pl, hp, h3⟩ := bnd_ok h2
      obtain ⟨cs, hc, h4⟩ := bnd_ok h3
      cases h4
      exact op_build_struct hop hz hd hp hc
    · obtain ⟨n, hn, h3⟩ := bnd_ok h2
      obtain ⟨cs, hc, h4⟩ := bnd_ok h3
      cases h4
      exact op_build_array hop hz hd hn hc
    · cases h2
  | buildSlice t len ps =>
    simp only [hop] at h
    obtain ⟨d, hd, h2⟩ := bnd_ok h
    split at h2
    · obtain ⟨n, hn, h3⟩ := bnd_ok h2
      obtain ⟨z, hz, h4⟩ := bnd_ok h3
      obtain ⟨hc, h5⟩ := cond_ok h4
      simp only [Bool.and_eq_true] at hc
      obtain ⟨cs, hf, h6⟩ := bnd_ok h5
      cases h6
      exact op_buildSlice hop hd hn hz (Nat.eq_of_beq_eq_true hc.1) (ble_le hc.2) hf
    · cases h2
  | load t x =>
    simp only [hop] at h
    split at h
    · rename_i a0 hx
      obtain ⟨n, hn, h3⟩ := bnd_ok h
      obtain ⟨l, hl, h4⟩ := bnd_ok h3
      obtain ⟨v, hv, h5⟩ := bnd_ok h4
      cases h5
      exact op_load hop hx hn hl hv
    · cases h
  | store t x y =>
    simp only [hop] at h
    split at h
    · rename_i a0 hx
      obtain ⟨n, hn, h3⟩ := bnd_ok h
      obtain ⟨hc, h4⟩ := cond_ok h3
      obtain ⟨st', hw, h5⟩ := bnd_ok h4
      cases h5
      exact op_store hop hx hn (Nat.eq_of_beq_eq_true hc) hw
    · cases h
  | nilCheck x =>
    simp only [hop] at h
    split at h <;> first
      | (cases h; done)
      | (rename_i hx; cases h; rw [← hx]; exact op_nilCheck hop (by rw [hx]))
  | binOp op t x y ty =>
    simp only [hop] at h
    split at h
    · rename_i v hv
      cases h
      exact op_float hop hv
    · obtain ⟨q, hq, h1⟩ := bnd_ok h
      obtain ⟨k1, k2⟩ := op_binOp hop hq (st := st)
      split at h1
      · cases h1; exact k1 _ rfl
      · cases h1; exact k2 _ rfl
      · cases h1
  | unOp op t x =>
    simp only [hop] at h
    split at h
    · rename_i v hv
      cases h
      exact op_negF hop hv
    obtain ⟨hc, h1⟩ := cond_ok h
    split at h1
    · rename_i v hv
      obtain ⟨hg, h2⟩ := cond_ok h1
      cases h2
      exact op_unOp hop hc hv hg
    · cases h1
  | convert s d x => simp only [hop] at h; exact op_conv hop h
  | makeInterface t x =>
    simp only [hop] at h
    obtain ⟨d, hd, h1⟩ := bnd_ok h
    split at h1
    · cases h1
    · rename_i hne
      cases h1
      exact op_makeInterface hop hd (fun m e => hne m e)
  | makeFunc fn a b => simp only [hop] at h; cases h; exact op_makeFunc hop
  | makeMap t q =>
    simp only [hop] at h
    split at h
    · cases h; exact op_makeMap hop (fun x e => by cases e)
    · rename_i x
      split at h
      · rename_i k n hx
        obtain ⟨d, hd, h1⟩ := bnd_ok h
        split at h1
        · cases h1
          exact op_makeMap hop (fun y e => by cases e; exact ⟨⟨_, _, hx⟩, _, _, hd⟩)
        · cases h1
      · cases h
  | makeSlice t l c =>
    simp only [hop] at h
    split at h
    · rename_i k1 l' k2 c' hl hc
      obtain ⟨d, hd, h1⟩ := bnd_ok h
      split at h1
      · obtain ⟨z, hz, h2⟩ := bnd_ok h1
        obtain ⟨n, hn, h3⟩ := bnd_ok h2
        obtain ⟨b, hb, h4⟩ := bnd_ok h3
        cases hrow : rowMk c with
        | true =>
          rw [hrow] at h4
          obtain ⟨hcc, h5⟩ := cond_ok h4
          simp only [Bool.and_eq_true] at hcc
          cases h5
          have e := Nat.eq_of_beq_eq_true hcc.1.1.1.1
          subst e
          exact op_makeRow hop hl hc hd hz hn hb (ble_le hcc.1.1.1.2) (ble_le hcc.1.1.2) (Nat.eq_of_beq_eq_true hcc.1.2) hcc.2
        | false =>
          rw [hrow] at h4
          obtain ⟨hcc, h5⟩ := cond_ok h4
          simp only [Bool.and_eq_true] at hcc
          cases h5
          exact op_makeSlice hop hl hc hd hz hn hb (ble_le hcc.1.1.1) (ble_le hcc.1.1.2) (ble_le hcc.1.2) (Nat.eq_of_beq_eq_true hcc.2)
      · cases h1
    · cases h
  | slice t x lo hi mx =>
    simp only [hop] at h
    split at h
    · obtain ⟨v, hv, h1⟩ := bnd_ok h
      cases h1
      unfold aSlice at hv
      obtain ⟨d, hd, h2⟩ := bnd_ok hv
      split at h2
      · rename_i s hx
        obtain ⟨b1, e1, h3⟩ := bnd_ok h2
        obtain ⟨b2, e2, h4⟩ := bnd_ok h3
        cases h4
        exact op_slice_str hop hx hd e1 e2
      · rename_i e hx
        obtain ⟨b1, e1, h3⟩ := bnd_ok h2
        obtain ⟨b2, e2, h4⟩ := bnd_ok h3
        obtain ⟨n, hn, h5⟩ := bnd_ok h4
        cases h5
        have hb : b1 = 0 := by
          unfold boundL at e1
          split at e1
          · cases e1; rfl
          · obtain ⟨q, e3⟩ := cond_ok e1; cases e3; have := ble_le q; omega
          · cases e1
        subst hb
        exact op_slice_nil hop hx hd hn e1 e2
      · rename_i e b0 o0 len cap hx
        obtain ⟨b1, e1, h3⟩ := bnd_ok h2
        obtain ⟨b2, e2, h4⟩ := bnd_ok h3
        obtain ⟨n, hn, h5⟩ := bnd_ok h4
        split at h5
        · rename_i cs es hg
          cases h5
          exact op_slice_ex hop hx hd hn hg e1 e2
        · rename_i cs es hg
          obtain ⟨hes, h6⟩ := cond_ok h5
          cases h6
          have := Nat.eq_of_beq_eq_true hes
          subst this
          exact op_slice_own hop hx hd hn hg e1 e2
        · cases h5
      · rename_i e b0 i0 len cap hx
        obtain ⟨b1, e1, h3⟩ := bnd_ok h2
        obtain ⟨b2, e2, h4⟩ := bnd_ok h3
        obtain ⟨n, hn, h5⟩ := bnd_ok h4
        split at h5
        · rename_i own es lo m elem hg
          obtain ⟨hes, h6⟩ := cond_ok h5
          cases h6
          have := Nat.eq_of_beq_eq_true hes
          subst this
          exact op_slice_row hop hx hd hn hg e1 e2
        · cases h5
      · cases h2
    · rename_i m
      split at h
      · rename_i k2 k3 hm hh
        cases hi with
        | none => cases hh
        | some hi =>
        simp only [Option.map_some, Option.some.injEq] at hh
        obtain ⟨d, hd, h1⟩ := bnd_ok h
        split at h1
        · rename_i e b0 i0 a c hx
          obtain ⟨n, hn, h2⟩ := bnd_ok h1
          cases h2
          exact op_slice_none hop hm hh hd hn (.inl ⟨_, _, _, _, hx, rfl⟩)
        · rename_i e hx
          obtain ⟨n, hn, h2⟩ := bnd_ok h1
          cases h2
          exact op_slice_none hop hm hh hd hn (.inr (.inl ⟨hx, rfl⟩))
        · rename_i e b0 o0 a c hx
          obtain ⟨n, hn, h2⟩ := bnd_ok h1
          cases h2
          exact op_slice_none hop hm hh hd hn (.inr (.inr ⟨_, _, _, _, hx, rfl⟩))
        · cases h1
      · cases h
  | fieldAddr s x i =>
    simp only [hop] at h
    split at h
    · rename_i b0 o0 hx
      obtain ⟨fd, hf, h1⟩ := bnd_ok h
      obtain ⟨n, hn, h2⟩ := bnd_ok h1
      cases hb : Nat.beq n 0 with
      | true => rw [hb] at h2; cases h2
      | false =>
        rw [hb] at h2
        cases h2
        exact op_fieldAddr hop hx hf hn (Nat.ne_of_beq_eq_false hb)
    · rename_i b0 o0 i0 hx
      obtain ⟨fd, hf, h1⟩ := bnd_ok h
      obtain ⟨n, hn, h2⟩ := bnd_ok h1
      cases hb : Nat.beq n 0 with
      | true => rw [hb] at h2; cases h2
      | false =>
        rw [hb] at h2
        cases h2
        exact op_fieldAddrI hop hx hf hn (Nat.ne_of_beq_eq_false hb)
    · cases h
  | field t x i =>
    simp only [hop] at h
    split at h
    · rename_i cs hx
      obtain ⟨fd, hf, h1⟩ := bnd_ok h
      obtain ⟨v, hv, h2⟩ := bnd_ok h1
      cases h2
      exact op_field hop hx hf hv
    · cases h
  | indexAddr t x i =>
    simp only [hop] at h
    split at h
    · rename_i k i' hi
      obtain ⟨d, hd, h1⟩ := bnd_ok h
      split at h1
      · rename_i e b0 o0 n c hx
        obtain ⟨s, hs, h2⟩ := bnd_ok h1
        obtain ⟨hc, h3⟩ := cond_ok h2
        cases h3
        exact op_indexAddr hop hi hd hx hs (blt_lt hc)
      · rename_i e b0 i0 n c hx
        obtain ⟨s, hs, h2⟩ := bnd_ok h1
        split at h2
        · rename_i own es lo m elem hg
          obtain ⟨hes, h3⟩ := cond_ok h2
          obtain ⟨hc, h3⟩ := cond_ok h3
          cases h3
          have := Nat.eq_of_beq_eq_true hes
          subst this
          exact op_indexAddrI hop hi hd hx hs (blt_lt hc) hg
        · cases h2
      · rename_i n e b0 o0 hx
        obtain ⟨s, hs, h2⟩ := bnd_ok h1
        obtain ⟨hc, h3⟩ := cond_ok h2
        cases h3
        exact op_indexAddr_arr hop hi hd hx hs (blt_lt hc)
      · rename_i n e b0 o0 i0 hx
        obtain ⟨s, hs, h2⟩ := bnd_ok h1
        obtain ⟨hc, h3⟩ := cond_ok h2
        cases h3
        exact op_indexAddr_arrI hop hi hd hx hs (blt_lt hc)
      · cases h1
    · cases h
  | index t x i =>
    simp only [hop] at h
    split at h
    · rename_i k i' s hi hx
      obtain ⟨d, hd, h1⟩ := bnd_ok h
      split at h1
      · split at h1
        · rename_i b hb
          cases h1
          exact op_index_str hop hi hx hd hb
        · cases h1
      · cases h1
    · rename_i k i' cs hi hx
      obtain ⟨d, hd, h1⟩ := bnd_ok h
      split at h1
      · obtain ⟨s, hs, h2⟩ := bnd_ok h1
        obtain ⟨hc, h3⟩ := cond_ok h2
        obtain ⟨v, hv, h4⟩ := bnd_ok h3
        cases h4
        exact op_index_arr hop hi hx hd hs (blt_lt hc) hv
      · cases h1
    · cases h
  | lookup t x i ok =>
    simp only [hop] at h
    obtain ⟨d, hd, h1⟩ := bnd_ok h
    split at h1
    · rename_i kt et
      split at h1
      · rename_i kk vk es hm
        obtain ⟨v, hv, h2⟩ := bnd_ok h1
        cases h2
        exact op_lookupO hop hd hm hv
      · obtain ⟨kd, hk, h1⟩ := bnd_ok h1
        obtain ⟨es, hm, h2⟩ := bnd_ok h1
        obtain ⟨u, hu, h3⟩ := bnd_ok h2
        obtain ⟨q, hq, h4⟩ := bnd_ok h3
        obtain ⟨z, hz, h5⟩ := bnd_ok h4
        cases h5
        exact op_lookup hop hd ⟨kd, hk⟩ hm hu hq hz
    · cases h1
  | mapUpdate t m k x =>
    simp only [hop] at h
    obtain ⟨d, hd, h1⟩ := bnd_ok h
    split at h1
    · obtain ⟨kd, hk, h1⟩ := bnd_ok h1
      split at h1
      · rename_i b hm
        split at h1
        · rename_i es clock hg
          obtain ⟨u, hu, h2⟩ := bnd_ok h1
          obtain ⟨q, hq, h3⟩ := bnd_ok h2
          exact op_mapUpdate (.inl hop) hd ⟨kd, hk⟩ hm hg hu h3 hq
        · rename_i kk vk es hg
          obtain ⟨o', ho, h2⟩ := bnd_ok h1
          cases h2
          exact op_updateO (.inl hop) hd hm hg ho
        · cases h1
      · cases h1
    · cases h1
  | insert t m k x =>
    simp only [hop] at h
    obtain ⟨d, hd, h1⟩ := bnd_ok h
    split at h1
    · obtain ⟨kd, hk, h1⟩ := bnd_ok h1
      split at h1
      · rename_i b hm
        split at h1
        · rename_i es clock hg
          obtain ⟨u, hu, h2⟩ := bnd_ok h1
          obtain ⟨q, hq, h3⟩ := bnd_ok h2
          exact op_mapUpdate (.inr hop) hd ⟨kd, hk⟩ hm hg hu h3 hq
        · rename_i kk vk es hg
          obtain ⟨o', ho, h2⟩ := bnd_ok h1
          cases h2
          exact op_updateO (.inr hop) hd hm hg ho
        · cases h1
      · cases h1
    · cases h1
  | typeAssert x xt t ok =>
    simp only [hop] at h
    obtain ⟨d, hd, h1⟩ := bnd_ok h
    split at h1
    · cases h1
    · rename_i hne hx
      refine op_typeAssert hop hd (fun m e => hne m e) ?_
      rw [hx]; exact h1
    · rename_i t' v hne hx
      refine op_typeAssert hop hd (fun m e => hne m e) ?_
      rw [hx]; exact h1
    · cases h1
  | extract t i =>
    simp only [hop] at h
    split at h
    · rename_i vs hx
      obtain ⟨v, hv, h1⟩ := bnd_ok h
      cases h1
      exact op_extract hop hx (of_ok hv)
    · cases h
  | call c =>
    simp only [hop] at h
    obtain ⟨callee, ⟨args⟩, ⟨ts⟩⟩ := c
    split at h
    · rename_i b hb
      simp only at hb
      subst hb
      exact op_builtin hop h
    · rename_i g hb
      simp only at hb
      subst hb
      split at h
      · rename_i fn a b hg
        exact op_callValue hop hg h
      · cases h
    · cases h
  | defer c =>
    simp only [hop] at h
    obtain ⟨callee, ⟨args⟩, ts⟩ := c
    split at h
    · rename_i g hb
      simp only at hb
      subst hb
      split at h
      · rename_i fn a b hg
        cases h
        exact op_defer hop hg
      · cases h
    · cases h
  | panic x =>
    simp only [hop] at h
    split at h
    · rename_i t v hx; cases h; exact op_panic hop hx
    · cases h
  | _ => simp only [hop] at h; cases h
end Go.Proofs.YtpbnlbbieaokoaaGreatDoor.Ev
/-
  Steps on a memory and on slots that may come in many orders: what is told of one order holds of all. Plain lists and numbers.
-/
set_option linter.unusedVariables false
set_option linter.unusedSimpArgs false
namespace Go.Proofs.YtpbnlbbieaokoaaGreatDoor.Ev
open Go

/-- a step: the numbers that it may take; what it looks at, and what becomes of that; the slot that it writes, and what -/
structure It where
  s : Nat
  e : Nat
  hb : Mem
  ha : Mem
  dst : Option Nat
  v : Value
  looks : List Nat
  /-- what is only looked at, and what is asked of it -/
  rb : Option Nat
  rp : AObj → Prop
def It.dom (i : It) (x : Nat) : Prop := (∃ o, i.hb x = some o) ∨ (i.s ≤ x ∧ x < i.e)
instance It.decDom (i : It) (x : Nat) : Decidable (i.dom x) := decidable_of_iff ((i.hb x).isSome = true ∨ (i.s ≤ x ∧ x < i.e)) (by
  unfold It.dom
  rw [Option.isSome_iff_exists])
def It.upd (i : It) (g : Mem) : Mem := fun x => if i.dom x then i.ha x else g x
def gK (it : Nat → It) (g0 : Mem) (L : Nat → Bool) : Nat → Mem
  | 0 => g0
  | k + 1 => if L k then (it k).upd (gK it g0 L k) else gK it g0 L k
def slK (it : Nat → It) (s0 : Nat → Option Value) (L : Nat → Bool) : Nat → Nat → Option Value
  | 0 => s0
  | k + 1 => fun t => if L k = true ∧ (it k).dst = some t then some (it k).v else slK it s0 L k t
def allL : Nat → Bool := fun _ => true
theorem gK_all (it : Nat → It) (g0 : Mem) (k : Nat) : gK it g0 allL (k + 1) = (it k).upd (gK it g0 allL k) := if_pos rfl
theorem gK_on (it : Nat → It) (g0 : Mem) {L : Nat → Bool} {k : Nat} (h : L k = true) : gK it g0 L (k + 1) = (it k).upd (gK it g0 L k) := if_pos h
theorem gK_off (it : Nat → It) (g0 : Mem) {L : Nat → Bool} {k : Nat} (h : L k = false) : gK it g0 L (k + 1) = gK it g0 L k := if_neg (by rw [h]; simp)

/-- what one order tells -/
structure Run (it : Nat → It) (n : Nat) (g0 : Mem) (anc : Nat → Nat → Prop) : Prop where
  le : ∀ k, k < n → (it k).s ≤ (it k).e
  mono : ∀ i j, i < j → j < n → (it i).e ≤ (it j).s
  sub : ∀ k, k < n → ∀ x o, (it k).hb x = some o → gK it g0 allL k x = some o
  low : ∀ k, k < n → ∀ x o, (it k).hb x = some o → x < (it k).s
  ind : ∀ i j, i < j → j < n → ¬ anc j i → ∀ x o, (it j).hb x = some o → ¬ ((it i).s ≤ x ∧ x < (it i).e) ∧ ∀ o', (it i).hb x = some o' → (it i).ha x = (it i).hb x ∧ (it j).ha x = (it j).hb x
  slots : ∀ i j, i < j → j < n → ¬ anc j i → (∀ t, (it i).dst = some t → t ∉ (it j).looks ∧ (it j).dst ≠ some t) ∧ (∀ t, (it j).dst = some t → t ∉ (it i).looks)
  rlo : ∀ j, j < n → ∀ b, (it j).rb = some b → b < (it j).s ∧ ∃ o, gK it g0 allL j b = some o ∧ (it j).rp o
  rbk : ∀ i j, i < j → j < n → ¬ anc j i → ∀ b, (it j).rb = some b → ¬ ((it i).s ≤ b ∧ b < (it i).e) ∧ ∀ o, (it i).hb b = some o → (it i).ha b = (it i).hb b
  rfw : ∀ i j, i < j → j < n → ¬ anc j i → ∀ b, (it i).rb = some b → ∀ o, (it j).hb b = some o → (it j).ha b = (it j).hb b ∨ ∃ o', (it j).ha b = some o' ∧ (it i).rp o'
def Down (n : Nat) (anc : Nat → Nat → Prop) (L : Nat → Bool) : Prop := ∀ j, j < n → L j = true → ∀ i, i < j → anc j i → L i = true
def addL (L : Nat → Bool) (j : Nat) : Nat → Bool := fun i => if i = j then true else L i

theorem Run.ahead {it : Nat → It} {n : Nat} {g0 : Mem} {anc : Nat → Nat → Prop} (R : Run it n g0 anc) {L : Nat → Bool} {i : Nat} (hi : i < n) (hL : ∀ k, k < i → anc i k → L k = true) {x : Nat} {o : AObj} (hx : (it i).hb x = some o) : ∀ k, k ≤ i → gK it g0 L k x = gK it g0 allL k x := by
  intro k
  induction k with
  | zero => intro _; rfl
  | succ k ih =>
    intro hk
    have h1 := ih (by omega)
    rw [gK_all]
    cases hl : L k with
    | true =>
      rw [gK_on it g0 hl]
      simp only [It.upd]
      split
      · rfl
      · exact h1
    | false =>
      rw [gK_off it g0 hl]
      have hna : ¬ anc i k := fun h => by rw [hL k (by omega) h] at hl; cases hl
      obtain ⟨a1, a2⟩ := R.ind k i (by omega) hi hna x o hx
      rw [h1]
      simp only [It.upd]
      split
      · rename_i hd
        rcases hd with ⟨o', hd⟩ | hd
        · rw [(a2 o' hd).1, hd]
          exact R.sub k (by omega) x o' hd
        · exact absurd hd a1
      · rfl
theorem Run.at {it : Nat → It} {n : Nat} {g0 : Mem} {anc : Nat → Nat → Prop} (R : Run it n g0 anc) {L : Nat → Bool} {j : Nat} (hj : j < n) (hLj : L j = false) (hD : Down n anc L) (hL : ∀ k, k < j → anc j k → L k = true) {x : Nat} {o : AObj} (hx : (it j).hb x = some o) : ∀ k, j ≤ k → k ≤ n → gK it g0 L k x = some o := by
  have h0 : gK it g0 L j x = some o := (R.ahead hj hL hx j (Nat.le_refl _)).trans (R.sub j hj x o hx)
  intro k hjk
  induction k with
  | zero => intro _; have : j = 0 := by omega
            subst this; exact h0
  | succ k ih =>
    intro hk
    by_cases he : j = k + 1
    · subst he; exact h0
    · have h1 := ih (by omega) (by omega)
      simp only [gK]
      cases hl : L k with
      | false => simpa using h1
      | true =>
        simp only [if_true, It.upd]
        have hkj : j < k := by
          rcases Nat.lt_or_ge j k with h | h
          · exact h
          · have : j = k := by omega
            subst this; rw [hLj] at hl; cases hl
        have hna : ¬ anc k j := fun h => by rw [hD k (by omega) hl j hkj h] at hLj; cases hLj
        split
        · rename_i hd
          rcases hd with ⟨o', hd⟩ | hd
          · obtain ⟨_, a2⟩ := R.ind j k hkj (by omega) hna x o' hd
            obtain ⟨b1, b2⟩ := a2 o hx
            rw [b2, hd]
            have h3 := R.ahead (L := L) (i := k) (by omega) (fun i h4 h5 => hD k (by omega) hl i h4 h5) hd k (Nat.le_refl _)
            rw [R.sub k (by omega) x o' hd, h1] at h3
            exact h3.symm
          · have := R.low j hj x o hx
            have := R.mono j k hkj (by omega)
            have := R.le j hj
            omega
        · exact h1
theorem Run.ahead_rd {it : Nat → It} {n : Nat} {g0 : Mem} {anc : Nat → Nat → Prop} (R : Run it n g0 anc) {L : Nat → Bool} {i : Nat} (hi : i < n) (hL : ∀ k, k < i → anc i k → L k = true) {b : Nat} (hb : (it i).rb = some b) : ∀ k, k ≤ i → gK it g0 L k b = gK it g0 allL k b := by
  intro k
  induction k with
  | zero => intro _; rfl
  | succ k ih =>
    intro hk
    have h1 := ih (by omega)
    rw [gK_all]
    cases hl : L k with
    | true =>
      rw [gK_on it g0 hl]
      simp only [It.upd]
      split
      · rfl
      · exact h1
    | false =>
      rw [gK_off it g0 hl]
      have hna : ¬ anc i k := fun h => by rw [hL k (by omega) h] at hl; cases hl
      obtain ⟨a1, a2⟩ := R.rbk k i (by omega) hi hna b hb
      rw [h1]
      simp only [It.upd]
      split
      · rename_i hd
        rcases hd with ⟨o', hd⟩ | hd
        · rw [a2 o' hd, hd]
          exact R.sub k (by omega) b o' hd
        · exact absurd hd a1
      · rfl
/-- what is only looked at is there, in whatever order -/
theorem Run.at_rd {it : Nat → It} {n : Nat} {g0 : Mem} {anc : Nat → Nat → Prop} (R : Run it n g0 anc) {L : Nat → Bool} {j : Nat} (hj : j < n) (hLj : L j = false) (hD : Down n anc L) (hL : ∀ k, k < j → anc j k → L k = true) {b : Nat} (hb : (it j).rb = some b) : ∀ k, j ≤ k → k ≤ n → ∃ o, gK it g0 L k b = some o ∧ (it j).rp o := by
  obtain ⟨hlo, o0, g1, g2⟩ := R.rlo j hj b hb
  have h0 : ∃ o, gK it g0 L j b = some o ∧ (it j).rp o := ⟨o0, (R.ahead_rd hj hL hb j (Nat.le_refl _)).trans g1, g2⟩
  intro k hjk
  induction k with
  | zero => intro _; have : j = 0 := by omega
            subst this; exact h0
  | succ k ih =>
    intro hk
    by_cases he : j = k + 1
    · subst he; exact h0
    · obtain ⟨o1, q1, q2⟩ := ih (by omega) (by omega)
      simp only [gK]
      cases hl : L k with
      | false => exact ⟨o1, by simpa using q1, q2⟩
      | true =>
        simp only [if_true, It.upd]
        have hkj : j < k := by
          rcases Nat.lt_or_ge j k with h | h
          · exact h
          · have : j = k := by omega
            subst this; rw [hLj] at hl; cases hl
        have hna : ¬ anc k j := fun h => by rw [hD k (by omega) hl j hkj h] at hLj; cases hLj
        split
        · rename_i hd
          rcases hd with ⟨o', hd⟩ | hd
          · rcases R.rfw j k hkj (by omega) hna b hb o' hd with h2 | h2
            · have h3 := R.ahead (L := L) (i := k) (by omega) (fun i h4 h5 => hD k (by omega) hl i h4 h5) hd k (Nat.le_refl _)
              rw [R.sub k (by omega) b o' hd, q1] at h3
              refine ⟨o1, ?_, q2⟩
              rw [h2, hd, ← h3]
            · exact h2
          · have := R.mono j k hkj (by omega)
            have := R.le j hj
            omega
        · exact ⟨o1, q1, q2⟩
theorem Run.add {it : Nat → It} {n : Nat} {g0 : Mem} {anc : Nat → Nat → Prop} (R : Run it n g0 anc) {L : Nat → Bool} {j : Nat} (hj : j < n) (hLj : L j = false) (hD : Down n anc L) (hL : ∀ k, k < j → anc j k → L k = true) : ∀ k, k ≤ n → gK it g0 (addL L j) k = if j < k then (it j).upd (gK it g0 L k) else gK it g0 L k := by
  intro k
  induction k with
  | zero => intro _; rw [if_neg (by omega)]; rfl
  | succ k ih =>
    intro hk
    have h1 := ih (by omega)
    rcases Nat.lt_trichotomy k j with hkj | hkj | hkj
    · rw [if_neg (by omega)] at h1 ⊢
      simp only [gK, addL, if_neg (show k ≠ j by omega)]
      rw [h1]
    · subst hkj
      rw [if_neg (by omega)] at h1
      rw [if_pos (by omega)]
      simp only [gK, addL, if_true, hLj, Bool.false_eq_true, if_false]
      rw [h1]
    · rw [if_pos hkj] at h1
      rw [if_pos (by omega)]
      simp only [gK, addL, if_neg (show k ≠ j by omega)]
      rw [h1]
      cases hl : L k with
      | false => simp
      | true =>
        simp only [if_true]
        have hna : ¬ anc k j := fun h => by rw [hD k (by omega) hl j hkj h] at hLj; cases hLj
        funext x
        simp only [It.upd]
        by_cases hk1 : (it k).dom x
        · by_cases hj1 : (it j).dom x
          · rw [if_pos hk1, if_pos hj1]
            rcases hk1 with ⟨o', hk1⟩ | hk1
            · obtain ⟨a1, a2⟩ := R.ind j k hkj (by omega) hna x o' hk1
              rcases hj1 with ⟨o, hj1⟩ | hj1
              · obtain ⟨b1, b2⟩ := a2 o hj1
                rw [b1, b2, hk1, hj1]
                have h3 := R.ahead (L := L) (i := k) (by omega) (fun i h4 h5 => hD k (by omega) hl i h4 h5) hk1 k (Nat.le_refl _)
                rw [R.sub k (by omega) x o' hk1, R.at hj hLj hD hL hj1 k (by omega) (by omega)] at h3
                exact h3.symm
              · exact absurd hj1 a1
            · exfalso
              have m1 := R.mono j k hkj (by omega)
              have m2 := R.le j hj
              rcases hj1 with ⟨o, hj1⟩ | hj1
              · have := R.low j hj x o hj1; omega
              · omega
          · rw [if_pos hk1, if_neg hj1, if_pos hk1]
        · rw [if_neg hk1]
          by_cases hj1 : (it j).dom x
          · rw [if_pos hj1, if_pos hj1]
          · rw [if_neg hj1, if_neg hj1, if_neg hk1]
theorem Run.slot_prefix {it : Nat → It} {n : Nat} {g0 : Mem} {anc : Nat → Nat → Prop} (R : Run it n g0 anc) {s0 : Nat → Option Value} {L : Nat → Bool} {i t : Nat} (hi : i < n) (hL : ∀ k, k < i → anc i k → L k = true) (ht : t ∈ (it i).looks) : ∀ k, k ≤ i → slK it s0 L k t = slK it s0 allL k t := by
  intro k
  induction k with
  | zero => intro _; rfl
  | succ k ih =>
    intro hk
    have h1 := ih (by omega)
    simp only [slK, allL, true_and]
    cases hl : L k with
    | true => simp [h1, allL]
    | false =>
      have hna : ¬ anc i k := fun h => by rw [hL k (by omega) h] at hl; cases hl
      have hd : (it k).dst ≠ some t := fun e => ((R.slots k i (by omega) hi hna).1 t e).1 ht
      simp [hd, h1, allL]
theorem Run.slot_at {it : Nat → It} {n : Nat} {g0 : Mem} {anc : Nat → Nat → Prop} (R : Run it n g0 anc) {s0 : Nat → Option Value} {L : Nat → Bool} {j t : Nat} (hj : j < n) (hLj : L j = false) (hD : Down n anc L) (hL : ∀ k, k < j → anc j k → L k = true) (ht : t ∈ (it j).looks) : ∀ k, j ≤ k → k ≤ n → slK it s0 L k t = slK it s0 allL j t := by
  have h0 := R.slot_prefix (s0 := s0) hj hL ht j (Nat.le_refl _)
  intro k hjk
  induction k with
  | zero => intro _; have : j = 0 := by omega
            subst this; exact h0
  | succ k ih =>
    intro hk
    by_cases he : j = k + 1
    · subst he; exact h0
    · have h1 := ih (by omega) (by omega)
      simp only [slK]
      cases hl : L k with
      | false => simpa using h1
      | true =>
        have hkj : j < k := by
          rcases Nat.lt_or_ge j k with h | h
          · exact h
          · have : j = k := by omega
            subst this; rw [hLj] at hl; cases hl
        have hna : ¬ anc k j := fun h => by rw [hD k (by omega) hl j hkj h] at hLj; cases hLj
        have hd : (it k).dst ≠ some t := fun e => (R.slots j k hkj (by omega) hna).2 t e ht
        simp [hd, h1]
theorem Run.slot_add {it : Nat → It} {n : Nat} {g0 : Mem} {anc : Nat → Nat → Prop} (R : Run it n g0 anc) {s0 : Nat → Option Value} {L : Nat → Bool} {j : Nat} (hj : j < n) (hLj : L j = false) (hD : Down n anc L) : ∀ k, k ≤ n → ∀ t, slK it s0 (addL L j) k t = if j < k ∧ (it j).dst = some t then some (it j).v else slK it s0 L k t := by
  intro k
  induction k with
  | zero => intro _ t; rw [if_neg (by omega)]; rfl
  | succ k ih =>
    intro hk t
    have h1 := ih (by omega) t
    have h1' := h1
    rcases Nat.lt_trichotomy k j with hkj | hkj | hkj
    · rw [if_neg (by omega)] at h1' ⊢
      simp only [slK, addL, if_neg (show k ≠ j by omega)]
      rw [h1']
    · subst hkj
      rw [if_neg (by omega)] at h1'
      simp only [slK, addL, if_true, hLj, true_and, Bool.false_eq_true, false_and, if_false]
      rw [h1']
      by_cases hd : (it k).dst = some t
      · rw [if_pos hd, if_pos ⟨by omega, hd⟩]
      · rw [if_neg hd, if_neg (by simp [hd])]
    · simp only [slK, addL, if_neg (show k ≠ j by omega)]
      rw [h1']
      by_cases hd : (it j).dst = some t
      · have e1 : j < k + 1 := by omega
        simp only [hd, hkj, e1, and_self, if_true]
        cases hl : L k with
        | false => simp
        | true =>
          have hna : ¬ anc k j := fun h => by rw [hD k (by omega) hl j hkj h] at hLj; cases hLj
          have := ((R.slots j k hkj (by omega) hna).1 t hd).2
          simp [this]
      · simp only [hd, and_false, if_false]
end Go.Proofs.YtpbnlbbieaokoaaGreatDoor.Ev
/-
  The checks that the evaluator makes of a region that draws its order, and what they give.
-/
set_option linter.unusedVariables false
set_option linter.unusedSimpArgs false
namespace Go.Proofs.YtpbnlbbieaokoaaGreatDoor.Ev
open Go

theorem hasBit_iff (m j : Nat) : hasBit m j = m.testBit j := by
  unfold hasBit Nat.testBit
  rw [Nat.and_comm, Nat.and_one_is_mod]
  rcases Nat.mod_two_eq_zero_or_one (m >>> j) with h | h <;> rw [h] <;> rfl
theorem bindsA_iff (e : Edge) : bindsA e = Region.binds .any e := by
  unfold bindsA Region.binds
  cases e.ground <;> rfl
theorem maskL_bit {k : Nat} : ∀ {es : List Edge} {acc : List Nat}, hasBit (maskL es acc) k = true → ∃ e ∈ es, bindsA e = true ∧ (k = e.on ∨ hasBit (acc.getD e.on 0) k = true) := by
  intro es
  induction es with
  | nil => intro acc h; simp [maskL, hasBit_iff] at h
  | cons e es ih =>
    intro acc h
    simp only [maskL] at h
    cases hb : bindsA e with
    | false =>
      rw [hb] at h
      obtain ⟨e', h1, h2⟩ := ih h
      exact ⟨e', by simp [h1], h2⟩
    | true =>
      rw [hb] at h
      simp only [cond_true] at h
      rw [hasBit_iff, Nat.testBit_or, Nat.testBit_or, Bool.or_eq_true, Bool.or_eq_true] at h
      rcases h with (h | h) | h
      · obtain ⟨e', h1, h2⟩ := ih (acc := acc) (by rw [hasBit_iff]; exact h)
        exact ⟨e', by simp [h1], h2⟩
      · have : e.on = k := by simpa [Nat.testBit_two_pow] using h
        exact ⟨e, by simp, hb, .inl this.symm⟩
      · exact ⟨e, by simp, hb, .inr (by rw [hasBit_iff]; exact h)⟩
/-- the masks, one by one -/
theorem ancL_spec : ∀ (l : List Oper) (acc : List Nat), (ancL l acc).length = acc.length + l.length ∧ (∀ i, i < acc.length → (ancL l acc)[i]? = acc[i]?) ∧
    ∀ (k : Nat) (o : Oper), l[k]? = some o → ∃ pre, pre.length = acc.length + k ∧ (∀ i, i < pre.length → (ancL l acc)[i]? = pre[i]?) ∧ (ancL l acc)[acc.length + k]? = some (maskL o.after.toList pre) := by
  intro l
  induction l with
  | nil => intro acc; exact ⟨by simp [ancL], fun i _ => rfl, fun k o h => by simp at h⟩
  | cons o l ih =>
    intro acc
    obtain ⟨h1, h2, h3⟩ := ih (acc ++ [maskL o.after.toList acc])
    simp only [ancL]
    refine ⟨by rw [h1]; simp; omega, fun i hi => ?_, fun k o' hk => ?_⟩
    · rw [h2 i (by simp; omega), List.getElem?_append_left hi]
    · cases k with
      | zero =>
        simp only [List.getElem?_cons_zero, Option.some.injEq] at hk
        subst hk
        refine ⟨acc, by simp, fun i hi => ?_, ?_⟩
        · rw [h2 i (by simp; omega), List.getElem?_append_left hi]
        · rw [h2 _ (by simp), List.getElem?_append_right (by omega)]; simp
      | succ k =>
        obtain ⟨pre, p1, p2, p3⟩ := h3 k o' (by simpa using hk)
        refine ⟨pre, by rw [p1]; simp; omega, p2, ?_⟩
        rw [← p3]
        congr 1
        simp; omega
def maskOf (all : List Oper) (j : Nat) : Nat := (ancL all []).getD j 0
def Anc (all : List Oper) (j i : Nat) : Prop := hasBit (maskOf all j) i = true
theorem anc_edge {all : List Oper} {j k : Nat} {o : Oper} (ho : all[j]? = some o) (h : Anc all j k) (hb : ∀ e ∈ o.after.toList, bindsA e = true → e.on < j) : ∃ e ∈ o.after.toList, bindsA e = true ∧ (k = e.on ∨ Anc all e.on k) := by
  obtain ⟨h1, h2, h3⟩ := ancL_spec all []
  obtain ⟨pre, p1, p2, p3⟩ := h3 j o ho
  simp only [List.length_nil, Nat.zero_add] at p1 p3
  unfold Anc maskOf at h ⊢
  rw [List.getD_eq_getElem?_getD, p3] at h
  obtain ⟨e, e1, e2, e3⟩ := maskL_bit (by simpa using h)
  refine ⟨e, e1, e2, ?_⟩
  rcases e3 with e3 | e3
  · exact .inl e3
  · right
    have := hb e e1 e2
    rw [List.getD_eq_getElem?_getD] at e3 ⊢
    rw [p2 e.on (by omega)]
    exact e3
theorem zip_get {all : List Oper} {j : Nat} {o : Oper} (ho : all[j]? = some o) : (all.zip (ancL all []))[j]? = some (o, maskOf all j) := by
  obtain ⟨h1, h2, h3⟩ := ancL_spec all []
  obtain ⟨pre, p1, p2, p3⟩ := h3 j o ho
  simp only [List.length_nil, Nat.zero_add] at p3
  rw [List.getElem?_zip_eq_some]
  exact ⟨ho, by unfold maskOf; rw [List.getD_eq_getElem?_getD, p3]; simp⟩
theorem backOk_spec {all : List Oper} : ∀ {n : Nat}, backOk all n = true → ∀ (j : Nat) (o : Oper), j < n → all[j]? = some o → (∀ e ∈ o.after.toList, bindsA e = true → e.on < j) ∧ (∀ cs b, o.op ≠ .select cs b) ∧ ∀ c, o.op ≠ .defer c := by
  intro n
  induction n with
  | zero => intro _ j o h; omega
  | succ n ih =>
    intro h j o hj ho
    simp only [backOk, Bool.and_eq_true] at h
    rcases Nat.lt_or_ge j n with hl | hl
    · exact ih h.2 j o hl ho
    · have : j = n := by omega
      subst this
      have h1 := h.1
      rw [ho] at h1
      simp only [Bool.and_eq_true, List.all_eq_true, Bool.or_eq_true, Bool.not_eq_true'] at h1
      refine ⟨fun e he hb => ?_, fun cs b e => ?_, fun c e => ?_⟩
      · rcases h1.1 e he with h2 | h2
        · rw [hb] at h2; cases h2
        · exact blt_lt h2
      · rw [e] at h1; simp at h1
      · rw [e] at h1; simp at h1
theorem anc_lt {all : List Oper} {n : Nat} (hb : backOk all n = true) : ∀ j, j < n → ∀ k, Anc all j k → k < j := by
  intro j
  induction j using Nat.strongRecOn with
  | _ j ih =>
    intro hj k h
    cases ho : all[j]? with
    | none =>
      exfalso
      obtain ⟨h1, _, _⟩ := ancL_spec all []
      unfold Anc maskOf at h
      rw [List.getD_eq_getElem?_getD, List.getElem?_eq_none (by rw [h1]; have := List.getElem?_eq_none_iff.1 ho; simpa using this)] at h
      simp [hasBit_iff] at h
    | some o =>
      have hbk := (backOk_spec hb j o hj ho).1
      obtain ⟨e, e1, e2, e3⟩ := anc_edge ho h hbk
      have := hbk e e1 e2
      rcases e3 with e3 | e3
      · omega
      · have := ih e.on (by omega) (by omega) k e3; omega
theorem hasN_iff (l : List Nat) (d : Option Nat) : hasN l d = true ↔ ∃ t, d = some t ∧ t ∈ l := by
  unfold hasN
  cases d with
  | none => simp
  | some d =>
    simp only [List.any_eq_true, Option.some.injEq, exists_eq_left']
    constructor
    · rintro ⟨x, h1, h2⟩
      have := Nat.eq_of_beq_eq_true h2
      subst this; exact h1
    · intro h; exact ⟨d, h, Nat.beq_refl d⟩
theorem sameD_iff (a b : Option Nat) : sameD a b = true ↔ ∃ t, a = some t ∧ b = some t := by
  unfold sameD
  split
  · rename_i x y
    constructor
    · intro h; have := Nat.eq_of_beq_eq_true h; subst this; exact ⟨x, rfl, rfl⟩
    · rintro ⟨t, h1, h2⟩; cases h1; cases h2; exact Nat.beq_refl _
  · rename_i hne
    constructor
    · intro h; cases h
    · rintro ⟨t, h1, h2⟩; exact absurd h2 (by subst h1; intro h3; exact hne t t rfl h3)
theorem slotsGo_spec {ops : List Oper} : ∀ {l : List (Oper × Nat)} {seen : List (Nat × List Nat × Option Nat)} {j0 : Nat}, slotsGo ops l seen j0 = true →
    (∀ (k : Nat) (o : Oper) (m : Nat), l[k]? = some (o, m) → ∀ r ∈ seen, hasBit m r.1 = true ∨ (¬ hasN (looksL ops o) r.2.2 = true ∧ ¬ hasN r.2.1 o.dst = true ∧ ¬ sameD o.dst r.2.2 = true)) ∧
    ∀ (i k : Nat) (oi : Oper) (mi : Nat) (o : Oper) (m : Nat), i < k → l[i]? = some (oi, mi) → l[k]? = some (o, m) → hasBit m (j0 + i) = true ∨ (¬ hasN (looksL ops o) oi.dst = true ∧ ¬ hasN (looksL ops oi) o.dst = true ∧ ¬ sameD o.dst oi.dst = true) := by
  intro l
  induction l with
  | nil => intro seen j0 _; exact ⟨fun k o m h => by simp at h, fun i k oi mi o m _ h => by simp at h⟩
  | cons p l ih =>
    intro seen j0 h
    obtain ⟨o0, m0⟩ := p
    simp only [slotsGo, Bool.and_eq_true] at h
    obtain ⟨h1, h2⟩ := h
    obtain ⟨i1, i2⟩ := ih h2
    have key : ∀ r ∈ seen, hasBit m0 r.1 = true ∨ (¬ hasN (looksL ops o0) r.2.2 = true ∧ ¬ hasN r.2.1 o0.dst = true ∧ ¬ sameD o0.dst r.2.2 = true) := by
      intro r hr
      rw [List.all_eq_true] at h1
      have := h1 r hr
      rw [Bool.or_eq_true] at this
      rcases this with h | h
      · exact .inl h
      · right
        simp only [Bool.not_eq_true', Bool.or_eq_false_iff] at h
        exact ⟨by rw [h.1.1]; simp, by rw [h.1.2]; simp, by rw [h.2]; simp⟩
    refine ⟨fun k o m hk r hr => ?_, fun i k oi mi o m hik hi hk => ?_⟩
    · cases k with
      | zero => simp at hk; obtain ⟨rfl, rfl⟩ := hk; exact key r hr
      | succ k => exact i1 k o m (by simpa using hk) r (by simp [hr])
    · cases k with
      | zero => omega
      | succ k =>
        cases i with
        | zero =>
          simp at hi; obtain ⟨rfl, rfl⟩ := hi
          exact i1 k o m (by simpa using hk) (j0, looksL ops o0, o0.dst) (by simp)
        | succ i =>
          have := i2 i k oi mi o m (by omega) (by simpa using hi) (by simpa using hk)
          rw [show j0 + (i + 1) = j0 + 1 + i by omega]
          exact this
/-- what 'slotsOk' gives -/
theorem slotsOk_spec {all : List Oper} (h : slotsOk all = true) : backOk all all.length = true ∧
    ∀ (i j : Nat) (oi oj : Oper), i < j → all[i]? = some oi → all[j]? = some oj → ¬ Anc all j i → (∀ t, oi.dst = some t → t ∉ looksL all oj ∧ oj.dst ≠ some t) ∧ ∀ t, oj.dst = some t → t ∉ looksL all oi := by
  unfold slotsOk at h
  simp only [Bool.and_eq_true] at h
  refine ⟨h.2, fun i j oi oj hij hi hj hna => ?_⟩
  have := (slotsGo_spec h.1).2 i j oi _ oj _ hij (zip_get hi) (zip_get hj)
  rw [Nat.zero_add] at this
  rcases this with h1 | ⟨h1, h2, h3⟩
  · exact absurd h1 hna
  · refine ⟨fun t ht => ⟨fun hm => h1 ((hasN_iff _ _).2 ⟨t, ht, hm⟩), fun he => h3 ((sameD_iff _ _).2 ⟨t, he, ht⟩)⟩, fun t ht hm => h2 ((hasN_iff _ _).2 ⟨t, ht, hm⟩)⟩
end Go.Proofs.YtpbnlbbieaokoaaGreatDoor.Ev
