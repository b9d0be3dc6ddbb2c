/-
  What the evaluator says of single operations holds of their runs: conversions, builtin functions, calls.
-/
import Derived.Test.YtbkbimmelmoohaaEvA
set_option linter.unusedVariables false
set_option linter.unusedSimpArgs false
namespace Go.Proofs.Ytbkbimmelmoohaa.Ev
open Go
theorem bytes_fold : ∀ (l : List UInt8) (s : ByteArray), (l.map fun b => ((b.toNat : Nat) : Int)).foldl (fun r n => r.push (UInt8.ofNat n.toNat)) s = ⟨(s.data.toList ++ l).toArray⟩ := by
 intro l
 induction l with
 | nil => intro s; simp
 | cons b l ih =>
  intro s
  simp only [List.map_cons, List.foldl_cons, ih]
  simp [ByteArray.push]
theorem bytesOf_ok : ∀ {l : List Value} {bs : List UInt8}, bytesOf l = .ok bs → ∃ ns : List Int, l = ns.map (Value.int .u8) ∧ bs = ns.map fun n => UInt8.ofNat n.toNat := by
 intro l
 induction l with
 | nil => intro bs h; cases h; exact ⟨[], rfl, rfl⟩
 | cons v l ih =>
  intro bs h
  unfold bytesOf at h
  split at h
  ·rename_i e; cases e
  ·rename_i n l' e
   cases e
   obtain ⟨r, h1, h2⟩ := bnd_ok h
   cases h2
   obtain ⟨ns, e1, e2⟩ := ih h1
   exact ⟨n :: ns, by simp [e1], by simp [e2]⟩
  ·cases h
theorem push_fold : ∀ (ns : List Int) (s : ByteArray), ns.foldl (fun r n => r.push (UInt8.ofNat n.toNat)) s = ⟨(s.data.toList ++ ns.map fun n => UInt8.ofNat n.toNat).toArray⟩ := by
 intro ns
 induction ns with
 | nil => intro s; simp
 | cons n ns ih =>
  intro s
  simp only [List.foldl_cons, ih, List.map_cons]
  simp [ByteArray.push]
theorem VRL.ints {ρ : Rho} {ns : List Int} {l' : List Value} (h : VRL ρ (ns.map (Value.int .u8)) l') : l' = ns.map (Value.int .u8) := by
 apply List.ext_getElem?
 intro i
 cases hx : (ns.map (Value.int .u8))[i]? with
 | none =>
  have := h.1
  rw [List.getElem?_eq_none_iff] at hx ⊢
  omega
 | some x =>
  obtain ⟨y, hy, hv⟩ := h.get hx
  simp only [List.getElem?_map] at hx
  cases hn : ns[i]? with
  | none => rw [hn] at hx; cases hx
  | some n =>
   rw [hn] at hx
   cases hx
   cases hv
   exact hy
theorem op_conv {P : Program} {o : Oper} {f : AFr} {st : ASt} {src dst : TypeId} {x : Operand} {r : AN} (h : o.op = .convert src dst x) (hr : aConv P st src dst (f.ev x) = .ok r) : OpR P o f st r := by
 have hev : ∀ ρ a, FrR ρ f a → VR ρ (f.ev x) (a.eval x) := fun ρ a hf => hf.ev x
 generalize f.ev x = X at hr hev
 unfold aConv at hr
 obtain ⟨s, hs, hr1⟩ := bnd_ok hr
 clear hr
 obtain ⟨d, hd, hr⟩ := bnd_ok hr1
 clear hr1
 split at hr
 ·rename_i k _ n
  cases hr
  refine OpR.quiet fun ρ w a hf hw => ?_
  have hX := hev ρ a hf
  generalize hA : a.eval x = A at hX
  cases hX
  exact ⟨.int k (k.wrap n), by simp [execOp, h, hA, convert, run_und hs, run_und hd, Conv.intToInt], .int _ _⟩
 ·rename_i b
  cases hr
  refine OpR.quiet fun ρ w a hf hw => ?_
  have hX := hev ρ a hf
  have hA := hX.string_inv
  exact ⟨.string b, by simp [execOp, h, hA, convert, run_und hs, run_und hd], .string _⟩
 ·rename_i e b
  obtain ⟨u, hu, hr1⟩ := bnd_ok hr
  clear hr
  have hr := hr1
  clear hr1
  split at hr
  ·cases hr
   refine ⟨LoS.new _ _, fun ρ w a hf hw hfr => ?_⟩
   have hX := hev ρ a hf
   have hA := hX.string_inv
   obtain ⟨nc, hnc, hle⟩ : ∃ nc, (Question.appendCap b.size 0 e).cut (w.tape w.drawn (.appendCap b.size 0 e)) = nc ∧ b.size ≤ nc := ⟨_, rfl, by simp only [Question.cut]; omega⟩
   have hq : (choose (.appendCap b.size 0 e)).run P w = .ok nc w.drew := by
    rw [← hnc]; simp [run_choose_drew, Question.forced]
   generalize hC : (b.data.map fun c => Value.int .u8 c.toNat) ++ Array.replicate (nc - b.size) (Value.int .u8 0) = C
   have hCs : C.size = nc := by rw [← hC]; simp; have : b.data.size = b.size := rfl; omega
   have hsh : (w.drew.alloc (.cells C e)).shape? w.drew.heap.size = some (e, C.size) := by
    simp only [World.shape?]
    have : (w.drew.alloc (.cells C e)).heap[w.drew.heap.size]? = some (.cells C e) := by show (w.heap.push _)[w.heap.size]? = _; simp
    rw [this]
   refine ⟨upd ρ st.next (some ⟨w.heap.size, 0, false, 1, C.size, false, nofz⟩), .slice (some ⟨w.heap.size, 0, none⟩) b.size nc, (w.drew.alloc (.cells C e)).freeze ⟨w.heap.size, C.size, none⟩ 1, .inl ?_, ?_, ?_⟩
   ·have hsh' : (w.drew.alloc (.cells C e)).shape? w.heap.size = some (e, C.size) := hsh
    have hh : w.drew.heap.size = w.heap.size := rfl
    simp only [execOp, h, hA, convert, Sem.run_bind, run_und hs, run_und hd, Result.andThen_ok]
    cases s <;> simp only [Sem.run_bind, run_und hu, Result.andThen_ok, Conv.stringToBytes, hq, newRow, run_newObj_alloc, Sem.run_pure, hC, markStringish, run_shape, hh, hsh', run_freeze]
   ·exact slice_new rfl (Nat.le_refl _) hle (fun h => by cases h) (fun _ => by show nc * 1 ≤ C.size; omega)
   ·have hheap : ((w.drew.alloc (.cells C e)).freeze ⟨w.heap.size, C.size, none⟩ 1).heap = w.heap.push (.cells C e (C.size, C.size + 1)) := by
     simp only [World.freeze]
     rw [if_neg (by omega)]
     apply Array.ext_getElem?
     intro i
     simp only [Array.getElem?_modify, World.alloc, Array.getElem?_push]
     by_cases hi : w.heap.size = i
     ·subst hi
      simp
     ·rw [if_neg hi]
      have : w.drew.heap = w.heap := rfl
      rw [this, if_neg (by omega), if_neg (by omega)]
    refine Mv.row (C := C) (t := e) false 1 (C.size, C.size + 1) hw hfr ?_ (.inr (Nat.le_refl _)) hheap ?_ ?_ ?_
    ·have hbs : b.data.size = b.size := rfl
     have e5 : C.toList.take (b.data.toList.map fun c => Value.int .u8 c.toNat).length = b.data.toList.map fun c => Value.int .u8 c.toNat := by
      rw [← hC]
      simp
     rw [e5]
     refine ⟨rfl, fun i x y hx hy => ?_⟩
     rw [hx] at hy; cases hy
     simp only [List.getElem?_map] at hx
     cases hd2 : b.data.toList[i]? with
     | none => rw [hd2] at hx; cases hx
     | some c => rw [hd2] at hx; cases hx; exact .int _ _
    ·simp only [World.freeze]; rw [if_neg (by omega)]; rfl
    ·simp only [World.freeze]; rw [if_neg (by omega)]; rfl
    ·simp only [World.freeze]; rw [if_neg (by omega)]; rfl
  ·cases hr
 ·rename_i e n c
  obtain ⟨u, hu, hr1⟩ := bnd_ok hr
  clear hr
  have hr := hr1
  clear hr1
  split at hr
  ·cases hr
   refine OpR.quiet fun ρ w a hf hw => ?_
   have hX := hev ρ a hf
   generalize hA : a.eval x = A at hX
   cases hX
   refine ⟨.string ⟨#[]⟩, ?_, .string _⟩
   simp [execOp, h, hA, convert, run_und hs, run_und hd, run_und hu, Conv.bytesToString]
   rfl
  ·cases hr
 ·rename_i e b0 o0 n c
  obtain ⟨u, hu, hr1⟩ := bnd_ok hr
  clear hr
  have hr := hr1
  clear hr1
  split at hr
  ·obtain ⟨l, hl, hr⟩ := bnd_ok hr
   obtain ⟨bs, hb, hr⟩ := bnd_ok hr
   cases hr
   refine OpR.quiet fun ρ w a hf hw => ?_
   have hX := hev ρ a hf
   generalize hA : a.eval x = A at hX
   cases hX with
   | slice _ _ s _ _ c' o' hsp hn hc hxx hro hoo =>
    obtain ⟨ns, e1, e2⟩ := bytesOf_ok hb
    obtain ⟨l', r1, r2, r3⟩ := readC_rel hl hw hsp
    rw [e1] at r1
    have e3 := r1.ints
    have hload : (loadCells ⟨s.blk, o', none⟩ n).run P w = .ok (ns.map (Value.int .u8)).toArray w := by
     rw [← e3]
     by_cases h0 : n = 0
     ·have : l' = [] := List.eq_nil_of_length_eq_zero (by omega)
      subst this; subst h0
      rfl
     ·have ho' : o' = s.base + o0 := by rcases hoo with hoo | hoo <;> omega
      rw [ho', ← r2]
      exact run_loadCells_list _ _ _ r3
    refine ⟨.string ⟨bs.toArray⟩, ?_, .string _⟩
    have := run_bytesToString (P := P) w ⟨s.blk, o', none⟩ n c' ns hload
    rw [push_fold] at this
    have he : (⟨(ByteArray.empty.data.toList ++ ns.map fun n => UInt8.ofNat n.toNat).toArray⟩ : ByteArray) = ⟨bs.toArray⟩ := by rw [e2]; rfl
    rw [he] at this
    simp [execOp, h, hA, convert, run_und hs, run_und hd, run_und hu, this]
  ·cases hr
 ·rename_i e b0 i0 n c
  obtain ⟨u, hu, hr1⟩ := bnd_ok hr
  clear hr
  have hr := hr1
  clear hr1
  split at hr
  ·rename_i own es lo m g hg
   obtain ⟨c1, hr⟩ := cond_ok hr
   obtain ⟨c2, hr⟩ := cond_ok hr
   obtain ⟨c3, hr⟩ := cond_ok hr
   cases hr
   have hes : es = 1 := Nat.eq_of_beq_eq_true c1
   subst hes
   simp only [Bool.and_eq_true] at c2
   have k1 : lo ≤ i0 := Nat.le_of_ble_eq_true c2.1
   have k2 : i0 + n ≤ m := Nat.le_of_ble_eq_true c2.2
   refine OpR.quiet fun ρ w a hf hw => ?_
   have hX := hev ρ a hf
   have fin : ∀ (b : Option Addr) (c' : Nat), a.eval x = .slice b n c' → (n = 0 ∨ ∃ s, ρ b0 = some s ∧ b = some ⟨s.blk, s.base + i0 * s.es, none⟩) → ∃ v', (execOp a.eval o).run P w = .ok (.value v') w ∧ VR ρ (.string (strOf n fun j => g (i0 + j))) v' := by
    intro b c' hA hb
    have hbytes : ∀ j, j < n → ∃ y : Int, g (i0 + j) 0 = .sc (.int .u8 y) := by
     intro j hj
     have hc3 := c3
     unfold allB at hc3
     rw [List.all_eq_true] at hc3
     have := hc3 j (List.mem_range.2 hj)
     unfold isByte at this
     split at this
     ·rename_i y hy; exact ⟨y, hy⟩
     ·cases this
    let ns : List Int := (List.range n).map fun j => match g (i0 + j) 0 with | .sc (.int .u8 y) => y | _ => 0
    have hns : ns.map (fun n => UInt8.ofNat n.toNat) = (List.range n).map fun j => byteF (g (i0 + j) 0) := by
     simp only [ns, List.map_map]
     apply List.map_congr_left
     intro j hj
     obtain ⟨y, hy⟩ := hbytes j (List.mem_range.1 hj)
     simp [hy, byteF]
    have hload : ∀ s : Spot, ρ b0 = some s → (loadCells ⟨s.blk, s.base + i0 * s.es, none⟩ n).run P w = .ok (ns.map (Value.int .u8)).toArray w := by
     intro s hs
     obtain ⟨s', e1, e2, _, _, _, e3⟩ := hw.obj _ _ hg
     rw [hs] at e1; cases e1
     have hl := run_loadCells_list (P := P) (w := w) ⟨s.blk, s.base + i0 * s.es, none⟩ (ns.map (Value.int .u8)) (fun j v hv => by
      simp only [ns, List.map_map, List.getElem?_map] at hv
      cases hq : (List.range n)[j]? with
      | none => rw [hq] at hv; cases hv
      | some q =>
       rw [hq] at hv
       have hjn : j < n := by have := (List.getElem?_eq_some_iff.1 hq).1; simpa using this
       have hqj : q = j := by rw [List.getElem?_range hjn] at hq; cases hq; rfl
       subst hqj
       obtain ⟨y, hy⟩ := hbytes q hjn
       obtain ⟨u, hu1, _, hu2⟩ := e3 (i0 + q) (by omega) (by omega) 0 (by omega)
       rw [hy] at hu2
       have hu2 : VR noRho (.int .u8 y) u := hu2
       simp [hy] at hv
       subst hv
       cases hu2
       rw [add_at]
       rw [e2] at hu1 ⊢
       rw [← hu1]
       congr 2
       simp only [Nat.mul_one, Nat.add_zero, Nat.add_assoc])
     have hlen : (ns.map (Value.int .u8)).length = n := by simp [ns]
     rw [hlen] at hl
     exact hl
    have he : (⟨(ByteArray.empty.data.toList ++ ns.map fun n => UInt8.ofNat n.toNat).toArray⟩ : ByteArray) = strOf n fun j => g (i0 + j) := by
     unfold strOf; rw [hns]; rfl
    refine ⟨.string (strOf n fun j => g (i0 + j)), ?_, .string _⟩
    rcases hb with rfl | ⟨sp, hsp, rfl⟩
    ·cases b with
     | none =>
      simp [execOp, h, hA, convert, run_und hs, run_und hd, run_und hu, Conv.bytesToString]
      rfl
     | some ad =>
      have hl0 : (loadCells ad 0).run P w = .ok (([] : List Int).map (Value.int .u8)).toArray w := rfl
      have := run_bytesToString (P := P) w ad 0 c' [] hl0
      rw [push_fold] at this
      simp [execOp, h, hA, convert, run_und hs, run_und hd, run_und hu, this]
      rfl
    ·have := run_bytesToString (P := P) w ⟨sp.blk, sp.base + i0 * sp.es, none⟩ n c' ns (hload sp hsp)
     rw [push_fold, he] at this
     simp [execOp, h, hA, convert, run_und hs, run_und hd, run_und hu, this]
   generalize hA : a.eval x = A at hX
   cases hX with
   | sliceI _ _ s _ _ c' o' hs hn hc hr hv ho =>
    refine fin _ _ hA ?_
    rcases ho with ho | ho
    ·exact .inr ⟨s, hs, by rw [ho]⟩
    ·exact .inl (by omega)
   | sliceE => exact fin _ _ hA (.inl rfl)
   | sliceN => exact fin _ _ hA (.inl rfl)
   | sliceZ => exact fin _ _ hA (.inl rfl)
  ·cases hr
 ·rename_i e0 e b0 o0 n c
  obtain ⟨u, hu, hr1⟩ := bnd_ok hr
  clear hr
  have hr := hr1
  clear hr1
  split at hr
  ·obtain ⟨hsd, hr⟩ := cond_ok hr
   split at hr
   ·rename_i cs ex es hg
    cases hr
    have hlo := minN_le st.lo b0
    refine ⟨⟨Nat.le_refl _, hlo.1, fun _ _ _ => rfl, fun x o h => .inl ⟨o, h⟩⟩, fun ρ w a hf hw hfr => ?_⟩
    have hX := hev ρ a hf
    generalize hA : a.eval x = A at hX
    cases hX with
    | slice _ _ s _ _ c' o' hsp hn hc hxx hro hoo =>
     obtain ⟨s', e1, e2⟩ := hw.obj _ _ hg
     rw [hsp] at e1; cases e1
     obtain ⟨x0, x1, x2, C, t, fr, e3, e4, e5, e6, e7⟩ := e2
     have hsd' : src = dst := Nat.eq_of_beq_eq_true hsd
     have hsh : w.shape? s.blk = some (t, C.size) := by simp [World.shape?, e3]
     have hrun : (execOp a.eval o).run P w = .ok (.value (.slice (some ⟨s.blk, o', none⟩) n c')) (w.freeze ⟨s.blk, C.size, none⟩ 1) := by
      simp only [execOp, h, hA, convert, Sem.run_bind, run_und hs, run_und hd, Result.andThen_ok, run_und hu, hsd', BEq.rfl, markStringish, run_shape, hsh, run_freeze, Sem.run_pure]
     have hh : ∀ b', (w.freeze ⟨s.blk, C.size, none⟩ 1).heap[b']? = if s.blk = b' then some (.cells C t (if fr.1 == fr.2 then (C.size, C.size + 1) else (min fr.1 C.size, max fr.2 (C.size + 1)))) else w.heap[b']? := by
      intro b'
      simp only [World.freeze]
      rw [if_neg (by omega)]
      simp only [Array.getElem?_modify]
      split
      ·rename_i hb
       subst hb
       rw [e3]
       obtain ⟨lo, hi⟩ := fr
       rfl
      ·rfl
     refine ⟨ρ, _, _, .inl hrun, .slice b0 o0 s _ _ c' o' hsp hn hc hxx hro hoo, ?_⟩
     have hfr2 : FrOk C.size (if fr.1 == fr.2 then (C.size, C.size + 1) else (min fr.1 C.size, max fr.2 (C.size + 1))) := by
      split
      ·exact .inr (Nat.le_refl _)
      ·rename_i hne
       rcases e5 with e5 | e5
       ·subst e5; simp at hne
       ·exact .inr (by simp only; rw [Nat.min_eq_right e5]; exact Nat.le_refl _)
     have hup : st.h.get = upd st.h.get b0 (some (.cells cs ex es)) := by
      funext q
      by_cases hq : q = b0
      ·subst hq; rw [upd_same, hg]
      ·rw [upd_ne _ _ hq]
     show Mv ρ ρ st.h.get st.h.get st.next st.next _ _
     conv => arg 4; rw [hup]
     refine Mv.write _ hw hg rfl hsp x0 _ rfl ⟨x0, x1, x2, C, t, _, by rw [hh, if_pos rfl], e4, hfr2, e6, e7⟩ ?_ (fun b' hb => by rw [hh, if_neg (Ne.symm hb)]) ?_ ?_ ?_
     all_goals (simp only [World.freeze]; rw [if_neg (by omega)])
     simp
   ·cases hr
  ·cases hr
 ·obtain ⟨hg, hr⟩ := cond_ok hr
  split at hr
  ·rename_i v hv
   obtain ⟨hg1, hr⟩ := cond_ok hr
   cases hr
   refine OpR.quiet fun ρ w a hf hw => ?_
   have hX := VR.ground 1 hg (hev ρ a hf)
   exact ⟨v, by simp [execOp, h, hX, pureRun_ok hv], refl1_VR hg1⟩
  ·cases hr
end Go.Proofs.Ytbkbimmelmoohaa.Ev
