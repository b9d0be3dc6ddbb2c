/-
  What the evaluator says of single operations holds of their runs: joined.
-/
import Derived.Test.YtokpobfimphhgaaEvE
set_option linter.unusedVariables false
set_option linter.unusedSimpArgs false
namespace Go.Proofs.Ytokpobfimphhgaa.Ev
open Go

theorem ble_le {a b : Nat} (h : Nat.ble a b = true) : a ≤ b := Nat.le_of_ble_eq_true h
theorem blt_lt {a b : Nat} (h : Nat.blt a b = true) : a < b := by simpa using h

set_option maxHeartbeats 1000000 in
theorem aOp_sound {P : Program} {f : AFr} {st : ASt} {o : Oper} {r : AN} (h : aOp P f st o = .ok r) : OpR P o f st r := by
  unfold aOp at h
  cases hop : o.op with
  | move x => simp only [hop] at h; cases h; exact op_move (.inl hop)
  | assign x => simp only [hop] at h; cases h; exact op_move (.inr hop)
  | pick c a b =>
    simp only [hop] at h
    split at h
    · rename_i b' hb; cases h; exact op_pick hop hb
    · cases h
  | alloc t =>
    simp only [hop] at h
    obtain ⟨z, hz, h1⟩ := bnd_ok h
    cases h1
    exact op_alloc hop hz
  | box t x =>
    simp only [hop] at h
    obtain ⟨h1, h2⟩ := cond_ok h
    cases h2
    exact op_box hop h1
  | build t ps =>
    simp only [hop] at h
    obtain ⟨z, hz, h1⟩ := bnd_ok h
    obtain ⟨d, hd, h2⟩ := bnd_ok h1
    split at h2
    · obtain ⟨pl, hp, h3⟩ := bnd_ok h2
      obtain ⟨cs, hc, h4⟩ := bnd_ok h3
      cases h4
      exact op_build_struct hop hz hd hp hc
    · obtain ⟨n, hn, h3⟩ := bnd_ok h2
      obtain ⟨cs, hc, h4⟩ := bnd_ok h3
      cases h4
      exact op_build_array hop hz hd hn hc
    · cases h2
  | buildSlice t len ps =>
    simp only [hop] at h
    obtain ⟨d, hd, h2⟩ := bnd_ok h
    split at h2
    · obtain ⟨n, hn, h3⟩ := bnd_ok h2
      obtain ⟨z, hz, h4⟩ := bnd_ok h3
      obtain ⟨hc, h5⟩ := cond_ok h4
      simp only [Bool.and_eq_true] at hc
      obtain ⟨cs, hf, h6⟩ := bnd_ok h5
      cases h6
      exact op_buildSlice hop hd hn hz (Nat.eq_of_beq_eq_true hc.1) (ble_le hc.2) hf
    · cases h2
  | load t x =>
    simp only [hop] at h
    split at h
    · rename_i a0 hx
      obtain ⟨n, hn, h3⟩ := bnd_ok h
      obtain ⟨l, hl, h4⟩ := bnd_ok h3
      obtain ⟨v, hv, h5⟩ := bnd_ok h4
      cases h5
      exact op_load hop hx hn hl hv
    · cases h
  | store t x y =>
    simp only [hop] at h
    split at h
    · rename_i a0 hx
      obtain ⟨n, hn, h3⟩ := bnd_ok h
      obtain ⟨hc, h4⟩ := cond_ok h3
      obtain ⟨st', hw, h5⟩ := bnd_ok h4
      cases h5
      exact op_store hop hx hn (Nat.eq_of_beq_eq_true hc) hw
    · cases h
  | nilCheck x =>
    simp only [hop] at h
    split at h <;> first
      | (cases h; done)
      | (rename_i hx; cases h; rw [← hx]; exact op_nilCheck hop (by rw [hx]))
  | binOp op t x y ty =>
    simp only [hop] at h
    split at h
    · rename_i v hv
      cases h
      exact op_float hop hv
    · obtain ⟨q, hq, h1⟩ := bnd_ok h
      obtain ⟨k1, k2⟩ := op_binOp hop hq (st := st)
      split at h1
      · cases h1; exact k1 _ rfl
      · cases h1; exact k2 _ rfl
      · cases h1
  | unOp op t x =>
    simp only [hop] at h
    split at h
    · rename_i v hv
      cases h
      exact op_negF hop hv
    obtain ⟨hc, h1⟩ := cond_ok h
    split at h1
    · rename_i v hv
      obtain ⟨hg, h2⟩ := cond_ok h1
      cases h2
      exact op_unOp hop hc hv hg
    · cases h1
  | convert s d x => simp only [hop] at h; exact op_conv hop h
  | makeInterface t x =>
    simp only [hop] at h
    obtain ⟨d, hd, h1⟩ := bnd_ok h
    split at h1
    · cases h1
    · rename_i hne
      cases h1
      exact op_makeInterface hop hd (fun m e => hne m e)
  | makeFunc fn a b => simp only [hop] at h; cases h; exact op_makeFunc hop
  | makeMap t q =>
    simp only [hop] at h
    split at h
    · cases h; exact op_makeMap hop (fun x e => by cases e)
    · rename_i x
      split at h
      · rename_i k n hx
        obtain ⟨d, hd, h1⟩ := bnd_ok h
        split at h1
        · cases h1
          exact op_makeMap hop (fun y e => by cases e; exact ⟨⟨_, _, hx⟩, _, _, hd⟩)
        · cases h1
      · cases h
  | makeSlice t l c =>
    simp only [hop] at h
    split at h
    · rename_i k1 l' k2 c' hl hc
      obtain ⟨d, hd, h1⟩ := bnd_ok h
      split at h1
      · obtain ⟨z, hz, h2⟩ := bnd_ok h1
        obtain ⟨n, hn, h3⟩ := bnd_ok h2
        obtain ⟨b, hb, h4⟩ := bnd_ok h3
        obtain ⟨hcc, h5⟩ := cond_ok h4
        simp only [Bool.and_eq_true] at hcc
        cases h5
        exact op_makeSlice hop hl hc hd hz hn hb (ble_le hcc.1.1.1) (ble_le hcc.1.1.2) (ble_le hcc.1.2) (Nat.eq_of_beq_eq_true hcc.2)
      · cases h1
    · cases h
  | slice t x lo hi mx =>
    simp only [hop] at h
    split at h
    · obtain ⟨v, hv, h1⟩ := bnd_ok h
      cases h1
      unfold aSlice at hv
      obtain ⟨d, hd, h2⟩ := bnd_ok hv
      split at h2
      · rename_i s hx
        obtain ⟨b1, e1, h3⟩ := bnd_ok h2
        obtain ⟨b2, e2, h4⟩ := bnd_ok h3
        cases h4
        exact op_slice_str hop hx hd e1 e2
      · rename_i e hx
        obtain ⟨b1, e1, h3⟩ := bnd_ok h2
        obtain ⟨b2, e2, h4⟩ := bnd_ok h3
        obtain ⟨n, hn, h5⟩ := bnd_ok h4
        cases h5
        have hb : b1 = 0 := by
          unfold boundL at e1
          split at e1
          · cases e1; rfl
          · obtain ⟨q, e3⟩ := cond_ok e1; cases e3; have := ble_le q; omega
          · cases e1
        subst hb
        exact op_slice_nil hop hx hd hn e1 e2
      · rename_i e b0 o0 len cap hx
        obtain ⟨b1, e1, h3⟩ := bnd_ok h2
        obtain ⟨b2, e2, h4⟩ := bnd_ok h3
        obtain ⟨n, hn, h5⟩ := bnd_ok h4
        split at h5
        · rename_i cs es hg
          cases h5
          exact op_slice_ex hop hx hd hn hg e1 e2
        · rename_i cs es hg
          obtain ⟨hes, h6⟩ := cond_ok h5
          cases h6
          have := Nat.eq_of_beq_eq_true hes
          subst this
          exact op_slice_own hop hx hd hn hg e1 e2
        · cases h5
      · rename_i e b0 i0 len cap hx
        obtain ⟨b1, e1, h3⟩ := bnd_ok h2
        obtain ⟨b2, e2, h4⟩ := bnd_ok h3
        obtain ⟨n, hn, h5⟩ := bnd_ok h4
        split at h5
        · rename_i own es lo m elem hg
          obtain ⟨hes, h6⟩ := cond_ok h5
          cases h6
          have := Nat.eq_of_beq_eq_true hes
          subst this
          exact op_slice_row hop hx hd hn hg e1 e2
        · cases h5
      · cases h2
    · rename_i m
      split at h
      · rename_i k2 k3 hm hh
        cases hi with
        | none => cases hh
        | some hi =>
        simp only [Option.map_some, Option.some.injEq] at hh
        obtain ⟨d, hd, h1⟩ := bnd_ok h
        split at h1
        · rename_i e b0 i0 a c hx
          obtain ⟨n, hn, h2⟩ := bnd_ok h1
          cases h2
          exact op_slice_none hop hm hh hd hn (.inl ⟨_, _, _, _, hx, rfl⟩)
        · rename_i e hx
          obtain ⟨n, hn, h2⟩ := bnd_ok h1
          cases h2
          exact op_slice_none hop hm hh hd hn (.inr (.inl ⟨hx, rfl⟩))
        · rename_i e b0 o0 a c hx
          obtain ⟨n, hn, h2⟩ := bnd_ok h1
          cases h2
          exact op_slice_none hop hm hh hd hn (.inr (.inr ⟨_, _, _, _, hx, rfl⟩))
        · cases h1
      · cases h
  | fieldAddr s x i =>
    simp only [hop] at h
    split at h
    · rename_i b0 o0 hx
      obtain ⟨fd, hf, h1⟩ := bnd_ok h
      obtain ⟨n, hn, h2⟩ := bnd_ok h1
      cases hb : Nat.beq n 0 with
      | true => rw [hb] at h2; cases h2
      | false =>
        rw [hb] at h2
        cases h2
        exact op_fieldAddr hop hx hf hn (Nat.ne_of_beq_eq_false hb)
    · rename_i b0 o0 i0 hx
      obtain ⟨fd, hf, h1⟩ := bnd_ok h
      obtain ⟨n, hn, h2⟩ := bnd_ok h1
      cases hb : Nat.beq n 0 with
      | true => rw [hb] at h2; cases h2
      | false =>
        rw [hb] at h2
        cases h2
        exact op_fieldAddrI hop hx hf hn (Nat.ne_of_beq_eq_false hb)
    · cases h
  | field t x i =>
    simp only [hop] at h
    split at h
    · rename_i cs hx
      obtain ⟨fd, hf, h1⟩ := bnd_ok h
      obtain ⟨v, hv, h2⟩ := bnd_ok h1
      cases h2
      exact op_field hop hx hf hv
    · cases h
  | indexAddr t x i =>
    simp only [hop] at h
    split at h
    · rename_i k i' hi
      obtain ⟨d, hd, h1⟩ := bnd_ok h
      split at h1
      · rename_i e b0 o0 n c hx
        obtain ⟨s, hs, h2⟩ := bnd_ok h1
        obtain ⟨hc, h3⟩ := cond_ok h2
        cases h3
        exact op_indexAddr hop hi hd hx hs (blt_lt hc)
      · rename_i e b0 i0 n c hx
        obtain ⟨s, hs, h2⟩ := bnd_ok h1
        split at h2
        · rename_i own es lo m elem hg
          obtain ⟨hes, h3⟩ := cond_ok h2
          obtain ⟨hc, h3⟩ := cond_ok h3
          cases h3
          have := Nat.eq_of_beq_eq_true hes
          subst this
          exact op_indexAddrI hop hi hd hx hs (blt_lt hc) hg
        · cases h2
      · rename_i n e b0 o0 hx
        obtain ⟨s, hs, h2⟩ := bnd_ok h1
        obtain ⟨hc, h3⟩ := cond_ok h2
        cases h3
        exact op_indexAddr_arr hop hi hd hx hs (blt_lt hc)
      · cases h1
    · cases h
  | index t x i =>
    simp only [hop] at h
    split at h
    · rename_i k i' s hi hx
      obtain ⟨d, hd, h1⟩ := bnd_ok h
      split at h1
      · split at h1
        · rename_i b hb
          cases h1
          exact op_index_str hop hi hx hd hb
        · cases h1
      · cases h1
    · rename_i k i' cs hi hx
      obtain ⟨d, hd, h1⟩ := bnd_ok h
      split at h1
      · obtain ⟨s, hs, h2⟩ := bnd_ok h1
        obtain ⟨hc, h3⟩ := cond_ok h2
        obtain ⟨v, hv, h4⟩ := bnd_ok h3
        cases h4
        exact op_index_arr hop hi hx hd hs (blt_lt hc) hv
      · cases h1
    · cases h
  | lookup t x i ok =>
    simp only [hop] at h
    obtain ⟨d, hd, h1⟩ := bnd_ok h
    split at h1
    · rename_i kt et
      obtain ⟨kd, hk, h1⟩ := bnd_ok h1
      obtain ⟨es, hm, h2⟩ := bnd_ok h1
      obtain ⟨u, hu, h3⟩ := bnd_ok h2
      obtain ⟨q, hq, h4⟩ := bnd_ok h3
      obtain ⟨z, hz, h5⟩ := bnd_ok h4
      cases h5
      exact op_lookup hop hd ⟨kd, hk⟩ hm hu hq hz
    · cases h1
  | mapUpdate t m k x =>
    simp only [hop] at h
    obtain ⟨d, hd, h1⟩ := bnd_ok h
    split at h1
    · obtain ⟨kd, hk, h1⟩ := bnd_ok h1
      split at h1
      · rename_i b hm
        split at h1
        · rename_i es clock hg
          obtain ⟨u, hu, h2⟩ := bnd_ok h1
          obtain ⟨q, hq, h3⟩ := bnd_ok h2
          exact op_mapUpdate (.inl hop) hd ⟨kd, hk⟩ hm hg hu h3 hq
        · cases h1
      · cases h1
    · cases h1
  | insert t m k x =>
    simp only [hop] at h
    obtain ⟨d, hd, h1⟩ := bnd_ok h
    split at h1
    · obtain ⟨kd, hk, h1⟩ := bnd_ok h1
      split at h1
      · rename_i b hm
        split at h1
        · rename_i es clock hg
          obtain ⟨u, hu, h2⟩ := bnd_ok h1
          obtain ⟨q, hq, h3⟩ := bnd_ok h2
          exact op_mapUpdate (.inr hop) hd ⟨kd, hk⟩ hm hg hu h3 hq
        · cases h1
      · cases h1
    · cases h1
  | typeAssert x xt t ok =>
    simp only [hop] at h
    obtain ⟨d, hd, h1⟩ := bnd_ok h
    split at h1
    · cases h1
    · rename_i hne hx
      refine op_typeAssert hop hd (fun m e => hne m e) ?_
      rw [hx]; exact h1
    · rename_i t' v hne hx
      refine op_typeAssert hop hd (fun m e => hne m e) ?_
      rw [hx]; exact h1
    · cases h1
  | extract t i =>
    simp only [hop] at h
    split at h
    · rename_i vs hx
      obtain ⟨v, hv, h1⟩ := bnd_ok h
      cases h1
      exact op_extract hop hx (of_ok hv)
    · cases h
  | call c =>
    simp only [hop] at h
    obtain ⟨callee, ⟨args⟩, ⟨ts⟩⟩ := c
    split at h
    · rename_i b hb
      simp only at hb
      subst hb
      exact op_builtin hop h
    · rename_i g hb
      simp only at hb
      subst hb
      split at h
      · rename_i fn a b hg
        exact op_callValue hop hg h
      · cases h
    · cases h
  | defer c =>
    simp only [hop] at h
    obtain ⟨callee, ⟨args⟩, ts⟩ := c
    split at h
    · rename_i g hb
      simp only at hb
      subst hb
      split at h
      · rename_i fn a b hg
        cases h
        exact op_defer hop hg
      · cases h
    · cases h
  | panic x =>
    simp only [hop] at h
    split at h
    · rename_i t v hx; cases h; exact op_panic hop hx
    · cases h
  | _ => simp only [hop] at h; cases h
end Go.Proofs.Ytokpobfimphhgaa.Ev
