/-
  What the evaluator says of single operations holds of their runs: conversions, builtin functions, calls.
-/
import Derived.Test.YtpogcoolgnjejaaGreatDoorEvA
import Derived.Laws.StructEq
set_option linter.unusedVariables false
set_option linter.unusedSimpArgs false
namespace Go.Proofs.YtpogcoolgnjejaaGreatDoor.Ev
open Go

/-! ### conversions -/
theorem bytes_fold : ∀ (l : List UInt8) (s : ByteArray), (l.map fun b => ((b.toNat : Nat) : Int)).foldl (fun r n => r.push (UInt8.ofNat n.toNat)) s = ⟨(s.data.toList ++ l).toArray⟩ := by
  intro l
  induction l with
  | nil => intro s; simp
  | cons b l ih =>
    intro s
    simp only [List.map_cons, List.foldl_cons, ih]
    simp [ByteArray.push]
theorem bytesOf_ok : ∀ {l : List Value} {bs : List UInt8}, bytesOf l = .ok bs → ∃ ns : List Int, l = ns.map (Value.int .u8) ∧ bs = ns.map fun n => UInt8.ofNat n.toNat := by
  intro l
  induction l with
  | nil => intro bs h; cases h; exact ⟨[], rfl, rfl⟩
  | cons v l ih =>
    intro bs h
    unfold bytesOf at h
    split at h
    · rename_i e; cases e
    · rename_i n l' e
      cases e
      obtain ⟨r, h1, h2⟩ := bnd_ok h
      cases h2
      obtain ⟨ns, e1, e2⟩ := ih h1
      exact ⟨n :: ns, by simp [e1], by simp [e2]⟩
    · cases h
theorem push_fold : ∀ (ns : List Int) (s : ByteArray), ns.foldl (fun r n => r.push (UInt8.ofNat n.toNat)) s = ⟨(s.data.toList ++ ns.map fun n => UInt8.ofNat n.toNat).toArray⟩ := by
  intro ns
  induction ns with
  | nil => intro s; simp
  | cons n ns ih =>
    intro s
    simp only [List.foldl_cons, ih, List.map_cons]
    simp [ByteArray.push]
theorem VRL.ints {ρ : Rho} {ns : List Int} {l' : List Value} (h : VRL ρ (ns.map (Value.int .u8)) l') : l' = ns.map (Value.int .u8) := by
  apply List.ext_getElem?
  intro i
  cases hx : (ns.map (Value.int .u8))[i]? with
  | none =>
    have := h.1
    rw [List.getElem?_eq_none_iff] at hx ⊢
    omega
  | some x =>
    obtain ⟨y, hy, hv⟩ := h.get hx
    simp only [List.getElem?_map] at hx
    cases hn : ns[i]? with
    | none => rw [hn] at hx; cases hx
    | some n =>
      rw [hn] at hx
      cases hx
      cases hv
      exact hy
theorem op_conv {P : Program} {o : Oper} {f : AFr} {st : ASt} {src dst : TypeId} {x : Operand} {r : AN} (h : o.op = .convert src dst x) (hr : aConv P st src dst (f.ev x) = .ok r) : OpR P o f st r := by
  have hev : ∀ ρ a, FrR ρ f a → VR ρ (f.ev x) (a.eval x) := fun ρ a hf => hf.ev x
  generalize f.ev x = X at hr hev
  unfold aConv at hr
  obtain ⟨s, hs, hr1⟩ := bnd_ok hr
  clear hr
  obtain ⟨d, hd, hr⟩ := bnd_ok hr1
  clear hr1
  split at hr
  · rename_i k _ n
    cases hr
    refine OpR.quiet fun ρ w a hf hw => ?_
    have hX := hev ρ a hf
    generalize hA : a.eval x = A at hX
    cases hX
    exact ⟨.int k (k.wrap n), by simp [execOp, h, hA, convert, run_und hs, run_und hd, Conv.intToInt], .int _ _⟩
  · rename_i b
    cases hr
    refine OpR.quiet fun ρ w a hf hw => ?_
    have hX := hev ρ a hf
    have hA := hX.string_inv
    exact ⟨.string b, by simp [execOp, h, hA, convert, run_und hs, run_und hd], .string _⟩
  · rename_i e b
    obtain ⟨u, hu, hr1⟩ := bnd_ok hr
    clear hr
    have hr := hr1
    clear hr1
    split at hr
    · cases hr
      refine ⟨LoS.new _ _, fun ρ w a hf hw hfr => ?_⟩
      have hX := hev ρ a hf
      have hA := hX.string_inv
      obtain ⟨nc, hnc, hle⟩ : ∃ nc, (Question.appendCap b.size 0 e).cut (w.tape w.drawn (.appendCap b.size 0 e)) = nc ∧ b.size ≤ nc := ⟨_, rfl, by simp only [Question.cut]; omega⟩
      have hq : (choose (.appendCap b.size 0 e)).run P w = .ok nc w.drew := by
        rw [← hnc]; simp [run_choose_drew, Question.forced]
      generalize hC : (b.data.map fun c => Value.int .u8 c.toNat) ++ Array.replicate (nc - b.size) (Value.int .u8 0) = C
      have hCs : C.size = nc := by rw [← hC]; simp; have : b.data.size = b.size := rfl; omega
      have hsh : (w.drew.alloc (.cells C e)).shape? w.drew.heap.size = some (e, C.size) := by
        simp only [World.shape?]
        have : (w.drew.alloc (.cells C e)).heap[w.drew.heap.size]? = some (.cells C e) := by show (w.heap.push _)[w.heap.size]? = _; simp
        rw [this]
      refine ⟨upd ρ st.next (some ⟨w.heap.size, 0, false, 1, C.size, false, nofz⟩), .slice (some ⟨w.heap.size, 0, none⟩) b.size nc, (w.drew.alloc (.cells C e)).freeze ⟨w.heap.size, C.size, none⟩ 1, .inl ?_, ?_, ?_⟩
      · have hsh' : (w.drew.alloc (.cells C e)).shape? w.heap.size = some (e, C.size) := hsh
        have hh : w.drew.heap.size = w.heap.size := rfl
        simp only [execOp, h, hA, convert, Sem.run_bind, run_und hs, run_und hd, Result.andThen_ok]
        cases s <;> simp only [Sem.run_bind, run_und hu, Result.andThen_ok, Conv.stringToBytes, hq, newRow, run_newObj_alloc, Sem.run_pure, hC, markStringish, run_shape, hh, hsh', run_freeze]
      · exact slice_new rfl (Nat.le_refl _) hle (fun h => by cases h) (fun _ => by show nc * 1 ≤ C.size; omega)
      · have hheap : ((w.drew.alloc (.cells C e)).freeze ⟨w.heap.size, C.size, none⟩ 1).heap = w.heap.push (.cells C e (C.size, C.size + 1)) := by
          simp only [World.freeze]
          rw [if_neg (by omega)]
          apply Array.ext_getElem?
          intro i
          simp only [Array.getElem?_modify, World.alloc, Array.getElem?_push]
          by_cases hi : w.heap.size = i
          · subst hi
            simp
          · rw [if_neg hi]
            have : w.drew.heap = w.heap := rfl
            rw [this, if_neg (by omega), if_neg (by omega)]
        refine Mv.row (C := C) (t := e) false 1 (C.size, C.size + 1) hw hfr ?_ (.inr (Nat.le_refl _)) hheap ?_ ?_ ?_
        · have hbs : b.data.size = b.size := rfl
          have e5 : C.toList.take (b.data.toList.map fun c => Value.int .u8 c.toNat).length = b.data.toList.map fun c => Value.int .u8 c.toNat := by
            rw [← hC]
            simp
          rw [e5]
          refine ⟨rfl, fun i x y hx hy => ?_⟩
          rw [hx] at hy; cases hy
          simp only [List.getElem?_map] at hx
          cases hd2 : b.data.toList[i]? with
          | none => rw [hd2] at hx; cases hx
          | some c => rw [hd2] at hx; cases hx; exact .int _ _
        · simp only [World.freeze]; rw [if_neg (by omega)]; rfl
        · simp only [World.freeze]; rw [if_neg (by omega)]; rfl
        · simp only [World.freeze]; rw [if_neg (by omega)]; rfl
    · cases hr
  · rename_i e n c
    obtain ⟨u, hu, hr1⟩ := bnd_ok hr
    clear hr
    have hr := hr1
    clear hr1
    split at hr
    · cases hr
      refine OpR.quiet fun ρ w a hf hw => ?_
      have hX := hev ρ a hf
      generalize hA : a.eval x = A at hX
      cases hX
      refine ⟨.string ⟨#[]⟩, ?_, .string _⟩
      simp [execOp, h, hA, convert, run_und hs, run_und hd, run_und hu, Conv.bytesToString]
      rfl
    · cases hr
  · rename_i e b0 o0 n c
    obtain ⟨u, hu, hr1⟩ := bnd_ok hr
    clear hr
    have hr := hr1
    clear hr1
    split at hr
    · obtain ⟨l, hl, hr⟩ := bnd_ok hr
      obtain ⟨bs, hb, hr⟩ := bnd_ok hr
      cases hr
      refine OpR.quiet fun ρ w a hf hw => ?_
      have hX := hev ρ a hf
      generalize hA : a.eval x = A at hX
      cases hX with
      | slice _ _ s _ _ c' o' hsp hn hc hxx hro hoo =>
        obtain ⟨ns, e1, e2⟩ := bytesOf_ok hb
        obtain ⟨l', r1, r2, r3⟩ := readC_rel hl hw hsp
        rw [e1] at r1
        have e3 := r1.ints
        have hload : (loadCells ⟨s.blk, o', none⟩ n).run P w = .ok (ns.map (Value.int .u8)).toArray w := by
          rw [← e3]
          by_cases h0 : n = 0
          · have : l' = [] := List.eq_nil_of_length_eq_zero (by omega)
            subst this; subst h0
            rfl
          · have ho' : o' = s.base + o0 := by rcases hoo with hoo | hoo <;> omega
            rw [ho', ← r2]
            exact run_loadCells_list _ _ _ r3
        refine ⟨.string ⟨bs.toArray⟩, ?_, .string _⟩
        have := run_bytesToString (P := P) w ⟨s.blk, o', none⟩ n c' ns hload
        rw [push_fold] at this
        have he : (⟨(ByteArray.empty.data.toList ++ ns.map fun n => UInt8.ofNat n.toNat).toArray⟩ : ByteArray) = ⟨bs.toArray⟩ := by rw [e2]; rfl
        rw [he] at this
        simp [execOp, h, hA, convert, run_und hs, run_und hd, run_und hu, this]
    · cases hr
  · rename_i e b0 i0 n c
    obtain ⟨u, hu, hr1⟩ := bnd_ok hr
    clear hr
    have hr := hr1
    clear hr1
    split at hr
    · rename_i own es lo m g hg
      obtain ⟨c1, hr⟩ := cond_ok hr
      obtain ⟨c2, hr⟩ := cond_ok hr
      obtain ⟨c3, hr⟩ := cond_ok hr
      cases hr
      have hes : es = 1 := Nat.eq_of_beq_eq_true c1
      subst hes
      simp only [Bool.and_eq_true] at c2
      have k1 : lo ≤ i0 := Nat.le_of_ble_eq_true c2.1
      have k2 : i0 + n ≤ m := Nat.le_of_ble_eq_true c2.2
      refine OpR.quiet fun ρ w a hf hw => ?_
      have hX := hev ρ a hf
      have fin : ∀ (b : Option Addr) (c' : Nat), a.eval x = .slice b n c' → (n = 0 ∨ ∃ s, ρ b0 = some s ∧ b = some ⟨s.blk, s.base + i0 * s.es, none⟩) → ∃ v', (execOp a.eval o).run P w = .ok (.value v') w ∧ VR ρ (.string (strOf n fun j => g (i0 + j))) v' := by
        intro b c' hA hb
        have hbytes : ∀ j, j < n → ∃ y : Int, g (i0 + j) 0 = .sc (.int .u8 y) := by
          intro j hj
          have hc3 := c3
          unfold allB at hc3
          rw [List.all_eq_true] at hc3
          have := hc3 j (List.mem_range.2 hj)
          unfold isByte at this
          split at this
          · rename_i y hy; exact ⟨y, hy⟩
          · cases this
        let ns : List Int := (List.range n).map fun j => match g (i0 + j) 0 with | .sc (.int .u8 y) => y | _ => 0
        have hns : ns.map (fun n => UInt8.ofNat n.toNat) = (List.range n).map fun j => byteF (g (i0 + j) 0) := by
          simp only [ns, List.map_map]
          apply List.map_congr_left
          intro j hj
          obtain ⟨y, hy⟩ := hbytes j (List.mem_range.1 hj)
          simp [hy, byteF]
        have hload : ∀ s : Spot, ρ b0 = some s → (loadCells ⟨s.blk, s.base + i0 * s.es, none⟩ n).run P w = .ok (ns.map (Value.int .u8)).toArray w := by
          intro s hs
          obtain ⟨s', e1, e2, _, _, _, e3⟩ := hw.obj _ _ hg
          rw [hs] at e1; cases e1
          have hl := run_loadCells_list (P := P) (w := w) ⟨s.blk, s.base + i0 * s.es, none⟩ (ns.map (Value.int .u8)) (fun j v hv => by
            simp only [ns, List.map_map, List.getElem?_map] at hv
            cases hq : (List.range n)[j]? with
            | none => rw [hq] at hv; cases hv
            | some q =>
              rw [hq] at hv
              have hjn : j < n := by have := (List.getElem?_eq_some_iff.1 hq).1; simpa using this
              have hqj : q = j := by rw [List.getElem?_range hjn] at hq; cases hq; rfl
              subst hqj
              obtain ⟨y, hy⟩ := hbytes q hjn
              obtain ⟨u, hu1, _, hu2⟩ := e3 (i0 + q) (by omega) (by omega) 0 (by omega)
              rw [hy] at hu2
              have hu2 : VR noRho (.int .u8 y) u := hu2
              simp [hy] at hv
              subst hv
              cases hu2
              rw [add_at]
              rw [e2] at hu1 ⊢
              rw [← hu1]
              congr 2
              simp only [Nat.mul_one, Nat.add_zero, Nat.add_assoc])
          have hlen : (ns.map (Value.int .u8)).length = n := by simp [ns]
          rw [hlen] at hl
          exact hl
        have he : (⟨(ByteArray.empty.data.toList ++ ns.map fun n => UInt8.ofNat n.toNat).toArray⟩ : ByteArray) = strOf n fun j => g (i0 + j) := by
          unfold strOf; rw [hns]; rfl
        refine ⟨.string (strOf n fun j => g (i0 + j)), ?_, .string _⟩
        rcases hb with rfl | ⟨sp, hsp, rfl⟩
        · cases b with
          | none =>
            simp [execOp, h, hA, convert, run_und hs, run_und hd, run_und hu, Conv.bytesToString]
            rfl
          | some ad =>
            have hl0 : (loadCells ad 0).run P w = .ok (([] : List Int).map (Value.int .u8)).toArray w := rfl
            have := run_bytesToString (P := P) w ad 0 c' [] hl0
            rw [push_fold] at this
            simp [execOp, h, hA, convert, run_und hs, run_und hd, run_und hu, this]
            rfl
        · have := run_bytesToString (P := P) w ⟨sp.blk, sp.base + i0 * sp.es, none⟩ n c' ns (hload sp hsp)
          rw [push_fold, he] at this
          simp [execOp, h, hA, convert, run_und hs, run_und hd, run_und hu, this]
      generalize hA : a.eval x = A at hX
      cases hX with
      | sliceI _ _ s _ _ c' o' hs hn hc hr hv ho =>
        refine fin _ _ hA ?_
        rcases ho with ho | ho
        · exact .inr ⟨s, hs, by rw [ho]⟩
        · exact .inl (by omega)
      | sliceE => exact fin _ _ hA (.inl rfl)
      | sliceN => exact fin _ _ hA (.inl rfl)
      | sliceZ => exact fin _ _ hA (.inl rfl)
    · cases hr
  · rename_i e0 e b0 o0 n c
    obtain ⟨u, hu, hr1⟩ := bnd_ok hr
    clear hr
    have hr := hr1
    clear hr1
    split at hr
    · obtain ⟨hsd, hr⟩ := cond_ok hr
      split at hr
      · rename_i cs ex es hg
        cases hr
        have hlo := minN_le st.lo b0
        refine ⟨⟨Nat.le_refl _, hlo.1, fun _ _ _ => rfl, fun x o h => .inl ⟨o, h⟩⟩, fun ρ w a hf hw hfr => ?_⟩
        have hX := hev ρ a hf
        generalize hA : a.eval x = A at hX
        cases hX with
        | slice _ _ s _ _ c' o' hsp hn hc hxx hro hoo =>
          obtain ⟨s', e1, e2⟩ := hw.obj _ _ hg
          rw [hsp] at e1; cases e1
          obtain ⟨x0, x1, x2, C, t, fr, e3, e4, e5, e6, e7⟩ := e2
          have hsd' : src = dst := Nat.eq_of_beq_eq_true hsd
          have hsh : w.shape? s.blk = some (t, C.size) := by simp [World.shape?, e3]
          have hrun : (execOp a.eval o).run P w = .ok (.value (.slice (some ⟨s.blk, o', none⟩) n c')) (w.freeze ⟨s.blk, C.size, none⟩ 1) := by
            simp only [execOp, h, hA, convert, Sem.run_bind, run_und hs, run_und hd, Result.andThen_ok, run_und hu, hsd', BEq.rfl, markStringish, run_shape, hsh, run_freeze, Sem.run_pure]
          have hh : ∀ b', (w.freeze ⟨s.blk, C.size, none⟩ 1).heap[b']? = if s.blk = b' then some (.cells C t (if fr.1 == fr.2 then (C.size, C.size + 1) else (min fr.1 C.size, max fr.2 (C.size + 1)))) else w.heap[b']? := by
            intro b'
            simp only [World.freeze]
            rw [if_neg (by omega)]
            simp only [Array.getElem?_modify]
            split
            · rename_i hb
              subst hb
              rw [e3]
              obtain ⟨lo, hi⟩ := fr
              rfl
            · rfl
          refine ⟨ρ, _, _, .inl hrun, .slice b0 o0 s _ _ c' o' hsp hn hc hxx hro hoo, ?_⟩
          have hfr2 : FrOk C.size (if fr.1 == fr.2 then (C.size, C.size + 1) else (min fr.1 C.size, max fr.2 (C.size + 1))) := by
            split
            · exact .inr (Nat.le_refl _)
            · rename_i hne
              rcases e5 with e5 | e5
              · subst e5; simp at hne
              · exact .inr (by simp only; rw [Nat.min_eq_right e5]; exact Nat.le_refl _)
          have hup : st.h.get = upd st.h.get b0 (some (.cells cs ex es)) := by
            funext q
            by_cases hq : q = b0
            · subst hq; rw [upd_same, hg]
            · rw [upd_ne _ _ hq]
          show Mv ρ ρ st.h.get st.h.get st.next st.next _ _
          conv => arg 4; rw [hup]
          refine Mv.write _ hw hg rfl hsp x0 _ rfl ⟨x0, x1, x2, C, t, _, by rw [hh, if_pos rfl], e4, hfr2, e6, e7⟩ ?_ (fun b' hb => by rw [hh, if_neg (Ne.symm hb)]) ?_ ?_ ?_
          all_goals (simp only [World.freeze]; rw [if_neg (by omega)])
          simp
      · cases hr
    · cases hr
  · obtain ⟨hg, hr⟩ := cond_ok hr
    split at hr
    · rename_i v hv
      obtain ⟨hg1, hr⟩ := cond_ok hr
      cases hr
      refine OpR.quiet fun ρ w a hf hw => ?_
      have hX := VR.ground 1 hg (hev ρ a hf)
      exact ⟨v, by simp [execOp, h, hX, pureRun_ok hv], refl1_VR hg1⟩
    · cases hr
end Go.Proofs.YtpogcoolgnjejaaGreatDoor.Ev
/-
  What the evaluator says of single operations holds of their runs: maps.
-/
set_option linter.unusedVariables false
set_option linter.unusedSimpArgs false
namespace Go.Proofs.YtpogcoolgnjejaaGreatDoor.Ev
open Go

def EL (ρ : Rho) : List MapEntry → List MapEntry → Prop
  | [], [] => True
  | e :: l, e' :: l' => (e'.key = e.key ∧ e'.born = e.born ∧ ground 3 e.key = true ∧ VR ρ e.val e'.val) ∧ EL ρ l l'
  | _, _ => False
theorem EL.of_idx {ρ : Rho} : ∀ {l l' : List MapEntry}, l'.length = l.length → (∀ (i : Nat) (e : MapEntry), l[i]? = some e → ∃ e', l'[i]? = some e' ∧ e'.key = e.key ∧ e'.born = e.born ∧ ground 3 e.key = true ∧ VR ρ e.val e'.val) → EL ρ l l'
  | [], [], _, _ => trivial
  | e :: l, e' :: l', hl, h => by
    obtain ⟨e2, h1, h2⟩ := h 0 e rfl
    cases h1
    exact ⟨h2, EL.of_idx (by simpa using hl) fun i x hx => by simpa using h (i + 1) x (by simpa using hx)⟩
  | [], _ :: _, hl, _ => by simp at hl
  | _ :: _, [], hl, _ => by simp at hl
theorem EL.idx {ρ : Rho} : ∀ {l l' : List MapEntry}, EL ρ l l' → l'.length = l.length ∧ ∀ (i : Nat) (e : MapEntry), l[i]? = some e → ∃ e', l'[i]? = some e' ∧ e'.key = e.key ∧ e'.born = e.born ∧ ground 3 e.key = true ∧ VR ρ e.val e'.val
  | [], [], _ => ⟨rfl, fun i e h => by simp at h⟩
  | e :: l, e' :: l', h => by
    obtain ⟨h1, h2⟩ := EL.idx h.2
    refine ⟨by simp [h1], fun i x hx => ?_⟩
    cases i with
    | zero => simp at hx; subst hx; exact ⟨e', rfl, h.1⟩
    | succ i => simpa using h2 i x (by simpa using hx)
  | [], _ :: _, h => h.elim
  | _ :: _, [], h => h.elim
theorem keyEq_run {P : Program} {kt : TypeId} {k l : Value} {b : Bool} (h : keyEq P kt k l = .ok b) (w : World) : (Op.equal kt k l).run P w = .ok b w := by
  unfold keyEq at h
  split at h
  · rename_i b' hb; cases h; exact pureRun_ok hb w
  · cases h
theorem sameNow_eq {P : Program} {kt : TypeId} {d : TypeDesc} {k l : Value} {b b' : Bool} (n : Nat) (hd : undL P kt = .ok d) (h : Instr.sameNow d k l = some b) (w : World) (hr : (Op.equalIn (n + 1) kt k l).run P w = .ok b' w) : b = b' := by
  unfold Instr.sameNow at h
  split at h
  · rename_i _ kk a kk' b2
    split at h
    · rename_i hk
      cases h
      simp [Op.equalIn, run_und hd, hk] at hr
      exact hr
    · cases h
  · cases h
    simp [Op.equalIn, run_und hd] at hr
    exact hr
  · cases h
    simp [Op.equalIn, run_und hd] at hr
    exact hr
  · cases h
theorem findL_run {P : Program} {ρ : Rho} {kt : TypeId} {k : Value} {d : TypeDesc} (w : World) (hd : undL P kt = .ok d) : ∀ {es E : List MapEntry} {i : Nat} {r : Option (Nat × MapEntry)}, findL P kt k es i = .ok r → EL ρ es E →
    ∃ r', (Instr.findAsking kt k E i).run P w = .ok r' w ∧ (∀ q, Instr.findNow d k E i = some q → q = r') ∧
      ((r = none ∧ r' = none) ∨ ∃ j e e', r = some (i + j, e) ∧ r' = some (i + j, e'.val) ∧ es[j]? = some e ∧ E[j]? = some e' ∧ VR ρ e.val e'.val) := by
  intro es
  induction es with
  | nil =>
    intro E i r h hE
    cases E with
    | nil => cases h; exact ⟨none, rfl, fun q hq => by simp only [Instr.findNow, Option.some.injEq] at hq; exact hq.symm, .inl ⟨rfl, rfl⟩⟩
    | cons e' E => exact hE.elim
  | cons e es ih =>
    intro E i r h hE
    cases E with
    | nil => exact hE.elim
    | cons e' E =>
      simp only [findL] at h
      obtain ⟨b, h1, h2⟩ := bnd_ok h
      have hk := keyEq_run h1 w
      obtain ⟨⟨a1, a2, a3, a4⟩, a5⟩ := hE
      rw [← a1] at hk
      cases b with
      | true =>
        simp only [cond_true] at h2
        cases h2
        refine ⟨some (i, e'.val), by simp only [Instr.findAsking, Sem.run_bind, hk, Result.andThen_ok, if_true, Sem.run_pure], fun q hq => ?_, .inr ⟨0, e, e', by simp, by simp, rfl, rfl, a4⟩⟩
        simp only [Instr.findNow] at hq
        cases hs : Instr.sameNow d k e'.key with
        | none => rw [hs] at hq; cases hq
        | some b =>
          have := sameNow_eq 9999 hd hs w hk
          subst this
          rw [hs] at hq
          simp only [Option.some.injEq] at hq
          exact hq.symm
      | false =>
        simp only [cond_false] at h2
        obtain ⟨r', r1, r2, r3⟩ := ih h2 a5
        refine ⟨r', by simp only [Instr.findAsking, Sem.run_bind, hk, Result.andThen_ok, Bool.false_eq_true, if_false]; exact r1, fun q hq => ?_, ?_⟩
        · simp only [Instr.findNow] at hq
          cases hs : Instr.sameNow d k e'.key with
          | none => rw [hs] at hq; cases hq
          | some b =>
            have := sameNow_eq 9999 hd hs w hk
            subst this
            rw [hs] at hq
            exact r2 q hq
        · rcases r3 with r3 | ⟨j, x, x', b1, b2, b3, b4, b5⟩
          · exact .inl r3
          · exact .inr ⟨j + 1, x, x', by rw [b1]; congr 2; omega, by rw [b2]; congr 2; omega, by simpa using b3, by simpa using b4, b5⟩
theorem findKey_run {P : Program} {ρ : Rho} {kt : TypeId} {k : Value} (w : World) (hdd : ∃ d, undL P kt = .ok d) {es E : List MapEntry} {r : Option (Nat × MapEntry)} (h : findL P kt k es 0 = .ok r) (hE : EL ρ es E) :
    ∃ r', (Instr.findKey kt k E).run P w = .ok r' w ∧ ((r = none ∧ r' = none) ∨ ∃ j e e', r = some (j, e) ∧ r' = some (j, e'.val) ∧ es[j]? = some e ∧ E[j]? = some e' ∧ VR ρ e.val e'.val) := by
  obtain ⟨d, hd⟩ := hdd
  obtain ⟨r', r1, r2, r3⟩ := findL_run w hd h hE
  refine ⟨r', ?_, by simpa using r3⟩
  simp only [Instr.findKey, Sem.run_bind, run_und hd, Result.andThen_ok]
  cases hq : Instr.findNow d k E 0 with
  | none => exact r1
  | some q => rw [r2 q hq]; rfl
theorem keyOk_run {P : Program} {kt : TypeId} {e : Bool} {k : Value} {u : Unit} (h : keyOk P kt e k = .ok u) : ground 3 k = true ∧ ∀ w, (Instr.checkKey e 10000 kt k).run P w = .ok () w := by
  unfold keyOk at h
  obtain ⟨h1, h2⟩ := cond_ok h
  split at h2
  · rename_i hu; exact ⟨h1, fun w => pureRun_ok hu w⟩
  · cases h2
theorem ObjR.map_el {ρ : Rho} {es : List MapEntry} {clock : Nat} {s : Spot} {w : World} (h : ObjR ρ (.map es clock) s w) : ∃ E, w.heap[s.blk]? = some (.map E clock) ∧ EL ρ es E.toList := by
  obtain ⟨_, E, h1, h2, h3⟩ := h
  exact ⟨E, h1, EL.of_idx (by simpa using h2) fun i e he => by simpa using h3 i e he⟩
theorem ObjR.of_el {ρ : Rho} {es : List MapEntry} {clock : Nat} {s : Spot} {w : World} {E : Array MapEntry} (h0 : s.void = false) (h1 : w.heap[s.blk]? = some (.map E clock)) (h2 : EL ρ es E.toList) : ObjR ρ (.map es clock) s w := by
  obtain ⟨h3, h4⟩ := h2.idx
  exact ⟨h0, E, h1, by simpa using h3, fun i e he => by simpa using h4 i e he⟩
theorem op_lookup {P : Program} {o : Oper} {f : AFr} {st : ASt} {t kt et : TypeId} {x i : Operand} {ok : Bool} {es : List MapEntry} {u : Unit} {r : Option (Nat × MapEntry)} {z : Value} (h : o.op = .lookup t x i ok) (hd : undL P t = .ok (.map kt et)) (hk : ∃ d, undL P kt = .ok d)
    (hm : mapEs st (f.ev x) = .ok es) (hc : keyOk P kt es.isEmpty (f.ev i) = .ok u) (hf : findL P kt (f.ev i) es 0 = .ok r) (hz : zeroV P et = .ok z) :
    OpR P o f st (.val (cond ok (.tuple #[foundV r z, .bool r.isSome]) (foundV r z)) st) :=
  OpR.quiet fun ρ w a hfr hw => by
    obtain ⟨g1, g2⟩ := keyOk_run hc
    have hI := VR.ground 3 g1 (hfr.ev i)
    have hX := hfr.ev x
    obtain ⟨z1, z2⟩ := zeroV_run (ρ := ρ) hz
    have main : ∃ E : Array MapEntry, EL ρ es E.toList ∧ ((a.eval x = .map none ∧ E = #[]) ∨ ∃ b clock, a.eval x = .map (some b) ∧ w.heap[b]? = some (.map E clock)) := by
      unfold mapEs at hm
      split at hm
      · rename_i e
        cases hm
        rw [e] at hX
        generalize hA : a.eval x = A at hX
        cases hX
        exact ⟨#[], trivial, .inl ⟨rfl, rfl⟩⟩
      · rename_i b e
        split at hm
        · rename_i es' clock hg
          cases hm
          rw [e] at hX
          generalize hA : a.eval x = A at hX
          cases hX with
          | map _ s hs =>
            obtain ⟨s', e1, e2⟩ := hw.obj _ _ hg
            rw [hs] at e1; cases e1
            obtain ⟨E, e3, e4⟩ := e2.map_el
            exact ⟨E, e4, .inr ⟨_, _, rfl, e3⟩⟩
        · cases hm
      · cases hm
    obtain ⟨E, hE, hx⟩ := main
    obtain ⟨r', r1, r2⟩ := findKey_run (P := P) w hk hf hE
    have hemp : E.isEmpty = es.isEmpty := by
      have := hE.idx.1
      cases es with
      | nil => simp at this; simp [this]
      | cons e l => cases hl : E.toList with
        | nil => rw [hl] at this; simp at this
        | cons => simp only [List.isEmpty_cons]; rw [← Array.isEmpty_toList, hl]; rfl
    have hval : ∀ v', (v' = (match r' with | some (_, v) => v | none => z)) → VR ρ (cond ok (.tuple #[foundV r z, .bool r.isSome]) (foundV r z)) (if ok then .tuple #[v', .bool r.isSome] else v') := by
      intro v' hv'
      have hv : VR ρ (foundV r z) v' := by
        rcases r2 with ⟨rfl, rfl⟩ | ⟨j, e, e', rfl, rfl, _, _, hv⟩
        · rw [hv']; exact z2
        · rw [hv']; exact hv
      cases ok with
      | true => exact VR.pair hv _
      | false => exact hv
    refine ⟨_, ?_, hval _ rfl⟩
    have hgo : ∀ b clock, w.heap[b]? = some (.map E clock) → (getObj b).run P w = .ok (.map E clock) w := fun b clock e => by simp [getObj, Sem.run, e]
    rcases hx with ⟨hx, rfl⟩ | ⟨b, clock, hx, hb⟩
    · rcases r2 with ⟨rfl, rfl⟩ | ⟨j, e, e', rfl, rfl, _, hj, hv⟩
      · simp only [execOp, h, Instr.lookup, Sem.run_bind, run_und hd, Result.andThen_ok, hx, Sem.run_pure, hI, hemp, g2, r1, z1]
        cases ok <;> rfl
      · simp at hj
    · rcases r2 with ⟨rfl, rfl⟩ | ⟨j, e, e', rfl, rfl, _, hj, hv⟩
      · simp only [execOp, h, Instr.lookup, Sem.run_bind, run_und hd, Result.andThen_ok, hx, hgo b clock hb, Sem.run_pure, hI, hemp, g2, r1, z1]
        cases ok <;> rfl
      · simp only [execOp, h, Instr.lookup, Sem.run_bind, run_und hd, Result.andThen_ok, hx, hgo b clock hb, Sem.run_pure, hI, hemp, g2, r1, z1]
        cases ok <;> rfl
theorem EL.mono {ρ ρ' : Rho} (hs : Sub ρ ρ') : ∀ {l l' : List MapEntry}, EL ρ l l' → EL ρ' l l'
  | [], [], _ => trivial
  | _ :: _, _ :: _, h => ⟨⟨h.1.1, h.1.2.1, h.1.2.2.1, h.1.2.2.2.mono hs⟩, EL.mono hs h.2⟩
  | [], _ :: _, h => h.elim
  | _ :: _, [], h => h.elim
theorem EL.snoc {ρ : Rho} {x x' : MapEntry} (hx : x'.key = x.key ∧ x'.born = x.born ∧ ground 3 x.key = true ∧ VR ρ x.val x'.val) : ∀ {l l' : List MapEntry}, EL ρ l l' → EL ρ (l ++ [x]) (l' ++ [x'])
  | [], [], _ => ⟨hx, trivial⟩
  | _ :: _, _ :: _, h => ⟨h.1, EL.snoc hx h.2⟩
  | [], _ :: _, h => h.elim
  | _ :: _, [], h => h.elim
theorem EL.set {ρ : Rho} {x x' : MapEntry} (hx : x'.key = x.key ∧ x'.born = x.born ∧ ground 3 x.key = true ∧ VR ρ x.val x'.val) : ∀ {l l' : List MapEntry} (i : Nat), EL ρ l l' → EL ρ (l.set i x) (l'.set i x')
  | [], [], _, _ => trivial
  | _ :: _, _ :: _, 0, h => ⟨hx, h.2⟩
  | _ :: _, _ :: _, i + 1, h => ⟨h.1, EL.set hx i h.2⟩
  | [], _ :: _, _, h => h.elim
  | _ :: _, [], _, h => h.elim
theorem op_mapUpdate {P : Program} {o : Oper} {f : AFr} {st : ASt} {t kt et : TypeId} {m k x : Operand} {b : Nat} {es : List MapEntry} {clock : Nat} {u : Unit} {r : Option (Nat × MapEntry)} {out : AN} (h : o.op = .mapUpdate t m k x ∨ o.op = .insert t m k x) (hd : undL P t = .ok (.map kt et)) (hk : ∃ d, undL P kt = .ok d)
    (hm : f.ev m = .map (some b)) (hg : st.h.get b = some (.map es clock)) (hc : keyOk P kt false (f.ev k) = .ok u)
    (ho : (match r with
      | some (i, e) => cond (Instr.sameBits 10000 e.key (f.ev k)) (.ok (.val undef (st.set b (some (.map (es.set i { e with key := f.ev k, val := f.ev x }) clock))))) (.er "update: bits")
      | none => .ok (.val undef (st.set b (some (.map (es ++ [{ key := f.ev k, val := f.ev x, born := clock }]) (clock + 1))))) : Rs AN) = .ok out) (hf : findL P kt (f.ev k) es 0 = .ok r) : OpR P o f st out := by
  obtain ⟨g1, g2⟩ := keyOk_run hc
  have hexec : ∀ ρv : Operand → Value, execOp ρv o = (do Instr.mapUpdate t (ρv m) (ρv k) (ρv x); pure .skip) := by
    intro ρv; rcases h with h | h <;> simp only [execOp, h]
  have common : ∀ (ρ : Rho) (w : World) (a : Act), FrR ρ f a → WR ρ st.h.get w → ∃ s E, ρ b = some s ∧ a.eval m = .map (some s.blk) ∧ w.heap[s.blk]? = some (.map E clock) ∧ EL ρ es E.toList ∧ a.eval k = f.ev k ∧ (getObj s.blk).run P w = .ok (.map E clock) w ∧
      ∀ o' : Obj, (setObj s.blk o').run P w = .ok () { w with heap := w.heap.setIfInBounds s.blk o' } := by
    intro ρ w a hfr hw
    have hM := hfr.ev m
    rw [hm] at hM
    generalize hA : a.eval m = A at hM
    cases hM with
    | map _ s hs =>
      obtain ⟨s', e1, e2⟩ := hw.obj _ _ hg
      rw [hs] at e1; cases e1
      obtain ⟨E, e3, e4⟩ := e2.map_el
      exact ⟨s, E, hs, rfl, e3, e4, VR.ground 3 g1 (hfr.ev k), by simp [getObj, Sem.run, e3], fun o' => by simp [setObj, Sem.run, e3]⟩
  have fin : ∀ (ρ : Rho) (w : World) (es' : List MapEntry) (cl : Nat) (E' : Array MapEntry) (s : Spot), WR ρ st.h.get w → ρ b = some s → EL ρ es' E'.toList →
      Mv ρ ρ st.h.get (st.set b (some (.map es' cl))).h.get st.next st.next w { w with heap := w.heap.setIfInBounds s.blk (.map E' cl) } := by
    intro ρ w es' cl E' s hw hs hE
    have : (st.set b (some (.map es' cl))).h.get = upd st.h.get b (some (.map es' cl)) := by simp [ASt.set, set_get]
    rw [this]
    have h0 : s.void = false := by obtain ⟨s', e1, e2⟩ := hw.obj _ _ hg; rw [hs] at e1; cases e1; exact e2.1
    have hlt := hw.blk b s hs h0
    exact Mv.write _ hw hg rfl hs h0 _ rfl (ObjR.of_el h0 (E := E') (by simp [hlt]) hE) (by simp) (fun b' hb => by simp only; rw [Array.getElem?_setIfInBounds_ne (Ne.symm hb)]) rfl rfl rfl
  cases r with
  | none =>
    cases ho
    refine ⟨LoS.set _ _ _ (.inr ⟨_, hg⟩), fun ρ w a hfr hw _ => ?_⟩
    obtain ⟨s, E, c1, c2, c3, c4, c5, c6, c7⟩ := common ρ w a hfr hw
    obtain ⟨r', r1, r2⟩ := findKey_run (P := P) w hk hf c4
    rcases r2 with ⟨_, rfl⟩ | ⟨j, e, e', q, _⟩
    · refine ⟨ρ, undef, _, .inr ⟨?_, rfl⟩, .tuple _ _ rfl (fun i x y hx => by simp at hx), fin ρ w _ _ (E.push { key := f.ev k, val := a.eval x, born := clock }) s hw c1 ?_⟩
      · rw [hexec, c2, c5]
        simp only [Instr.mapUpdate, Sem.run_bind, run_und hd, Result.andThen_ok, c6, g2, r1, c7, Sem.run_pure]
      · rw [Array.toList_push]
        exact EL.snoc (x := { key := f.ev k, val := f.ev x, born := clock }) (x' := { key := f.ev k, val := a.eval x, born := clock }) ⟨rfl, rfl, g1, hfr.ev x⟩ c4
    · cases q
  | some p =>
    obtain ⟨i, e⟩ := p
    simp only at ho
    obtain ⟨hb, ho⟩ := cond_ok ho
    cases ho
    refine ⟨LoS.set _ _ _ (.inr ⟨_, hg⟩), fun ρ w a hfr hw _ => ?_⟩
    obtain ⟨s, E, c1, c2, c3, c4, c5, c6, c7⟩ := common ρ w a hfr hw
    obtain ⟨r', r1, r2⟩ := findKey_run (P := P) w hk hf c4
    rcases r2 with ⟨q, _⟩ | ⟨j, e2, e', q, rfl, q3, q4, q5⟩
    · cases q
    · cases q
      obtain ⟨i1, i2⟩ := c4.idx
      obtain ⟨e3, j1, j2, j3, j4, j5⟩ := i2 i e q3
      rw [q4] at j1; cases j1
      have hE : E[i]? = some e' := by simpa using q4
      refine ⟨ρ, undef, _, .inr ⟨?_, rfl⟩, .tuple _ _ rfl (fun i x y hx => by simp at hx), fin ρ w _ _ (E.modify i fun z => { z with key := f.ev k, val := a.eval x }) s hw c1 ?_⟩
      · rw [hexec, c2, c5]
        simp only [Instr.mapUpdate, Sem.run_bind, run_und hd, Result.andThen_ok, c6, g2, r1, hE, Option.map_some, Option.getD_some, j2, Instr.keyThatStays, hb, if_true, Sem.run_pure, c7]
      · have : (E.modify i fun z => { z with key := f.ev k, val := a.eval x }).toList = E.toList.set i { e' with key := f.ev k, val := a.eval x } := by
          apply List.ext_getElem?
          intro q
          rw [Array.getElem?_toList, Array.getElem?_modify, List.getElem?_set]
          by_cases hq : i = q
          · subst hq
            have hlt : i < E.toList.length := (List.getElem?_eq_some_iff.1 q4).1
            simp [hE, hlt]
            simpa using hlt
          · simp [hq]
        rw [this]
        exact EL.set (x := { e with key := f.ev k, val := f.ev x }) (x' := { e' with key := f.ev k, val := a.eval x }) ⟨rfl, j3, g1, hfr.ev x⟩ i c4
/-! ### maps of which all may be open -/
theorem fitL_len : ∀ {l : List IntKind} {vs : List Value}, fitL l vs = true → vs.length = l.length
  | [], [], _ => rfl
  | [], _ :: _, h => by simp [fitL] at h
  | _ :: _, [], h => by simp [fitL] at h
  | k :: l, v :: vs, h => by
    cases v <;> simp [fitL] at h
    simp [fitL_len h.2]
theorem fitL_cons {k : IntKind} {l : List IntKind} {vs : List Value} (h : fitL (k :: l) vs = true) : ∃ a ws, vs = .int k a :: ws ∧ fitL l ws = true := by
  cases vs with
  | nil => simp [fitL] at h
  | cons v vs =>
    cases v <;> simp [fitL] at h
    rename_i k' a
    obtain ⟨rfl, h2⟩ := h
    exact ⟨a, vs, rfl, h2⟩
theorem keyFit_ground {kk : Kk} {v : Value} (h : keyFit kk v = true) : ground 3 v = true := by
  cases kk with
  | i k => cases v <;> simp [keyFit] at h; rfl
  | s => cases v <;> simp [keyFit] at h; rfl
  | is l =>
    cases v <;> simp [keyFit] at h
    rename_i vs
    have key : ∀ (l : List IntKind) (vs : List Value), fitL l vs = true → vs.all (ground 2) = true := by
      intro l
      induction l with
      | nil => intro vs h; have := fitL_len h; simp at this; subst this; rfl
      | cons k l ih => intro vs h; obtain ⟨a, ws, rfl, h2⟩ := fitL_cons h; simp only [List.all_cons, ih ws h2, Bool.and_true]; rfl
    exact key l vs.toList h
theorem valFit_ground {vk : Vk} {v : Value} (h : valFit vk v = true) : ground 3 v = true := by
  cases vk with
  | b => cases v <;> simp [valFit] at h; rfl
  | i k => cases v <;> simp [valFit] at h; rfl
theorem eqFields_run {P : Program} (w : World) (d : Nat) : ∀ {fs : List Field} {l : List IntKind} {off : Nat} {xs ys : Array Value}, intsK P fs off l = true → fitL l (xs.toList.drop off) = true → fitL l (ys.toList.drop off) = true →
    (Op.eqFields (d + 1) xs ys fs).run P w = .ok (keyBL (xs.toList.drop off) (ys.toList.drop off)) w := by
  intro fs
  induction fs with
  | nil =>
    intro l off xs ys h h1 h2
    cases l with
    | nil =>
      have := fitL_len h1
      have e : xs.toList.drop off = [] := List.eq_nil_of_length_eq_zero this
      rw [e]; rfl
    | cons => simp [intsK] at h
  | cons f fs ih =>
    intro l off xs ys h h1 h2
    cases l with
    | nil => simp [intsK] at h
    | cons k l =>
      simp only [intsK, Bool.and_eq_true] at h
      obtain ⟨⟨⟨o1, o2⟩, o3⟩, o4⟩ := h
      have o1 := Nat.eq_of_beq_eq_true o1
      obtain ⟨a, xs', ex, gx⟩ := fitL_cons h1
      obtain ⟨b, ys', ey, gy⟩ := fitL_cons h2
      have hu : P.underlying f.type = some (.int k) := by
        split at o3
        · rename_i k' hk; have := of_decide_eq_true o3; subst this; exact hk
        · cases o3
      have dr : ∀ (zs : Array Value) (c : Value) (zs' : List Value), zs.toList.drop off = c :: zs' → zs[off]? = some c ∧ zs.toList.drop (off + 1) = zs' := fun zs c zs' e => by
        have h0 : (zs.toList.drop off)[0]? = some c := by rw [e]; rfl
        rw [List.getElem?_drop] at h0
        refine ⟨by simpa using h0, ?_⟩
        rw [← List.drop_drop, e]; rfl
      obtain ⟨x1, x2⟩ := dr xs _ _ ex
      obtain ⟨y1, y2⟩ := dr ys _ _ ey
      have hagg : ∀ w, (isAgg f.type).run P w = .ok false w := fun w => by simp [isAgg, run_underlying hu]
      have hp : ∀ (zs : Array Value) (c : Value), zs[off]? = some c → ∀ w, (part f.type zs f.offset).run P w = .ok c w := fun zs c hz w => by
        simp [part, hagg, o1, hz]
      have hn : f.name ≠ "_" := by simpa using o2
      simp only [Op.eqFields, if_pos hn, Sem.run_bind, hp xs _ x1, hp ys _ y1, Result.andThen_ok, run_equalIn_int w d f.type k k a b hu, Sem.run_ite]
      rw [ex, ey]
      simp only [keyBL]
      cases hab : (a == b) with
      | false => simp
      | true =>
        simp only [Bool.not_true, Bool.false_eq_true, if_false, Bool.true_and]
        have := ih (off := off + 1) (xs := xs) (ys := ys) o4 (by rw [x2]; exact gx) (by rw [y2]; exact gy)
        rw [x2, y2] at this
        exact this
theorem equal_run {P : Program} {kk : Kk} {kt : TypeId} {k l : Value} (hk : keyKd P kt kk = true) (h1 : keyFit kk k = true) (h2 : keyFit kk l = true) (w : World) : (Op.equal kt k l).run P w = .ok (keyB k l) w := by
  cases kk with
  | i k0 =>
    cases k <;> simp [keyFit] at h1
    cases l <;> simp [keyFit] at h2
    subst h1 h2
    simp only [keyKd] at hk
    split at hk
    · rename_i k' hu
      have := of_decide_eq_true hk
      subst this
      exact run_equalIn_int w 9999 kt _ _ _ _ hu
    · cases hk
  | s =>
    cases k with
    | string a => cases l with
      | string b =>
        simp only [keyKd] at hk
        split at hk
        · rename_i hu
          have := run_equalIn_string w 9999 kt a b hu
          rw [← beq_toListBytes] at this
          exact this
        · cases hk
      | _ => simp [keyFit] at h2
    | _ => simp [keyFit] at h1
  | is ks =>
    cases k <;> simp [keyFit] at h1
    cases l <;> simp [keyFit] at h2
    rename_i xs ys
    simp only [keyKd] at hk
    split at hk
    · rename_i fs hu
      simp only [Bool.and_eq_true, Bool.not_eq_true'] at hk
      have hf : P.fieldsOf kt = fs := by unfold Program.fieldsOf; rw [hu]
      have := run_equalIn_struct w 9999 kt xs ys (by rw [hf]; exact hu) hk.1
      rw [hf] at this
      have h3 := eqFields_run (P := P) w 9998 (fs := fs.toList) (off := 0) (xs := xs) (ys := ys) hk.2 (by simpa using h1) (by simpa using h2)
      rw [h3] at this
      have h4 : (Op.equalIn (9999 + 1) kt (.agg xs) (.agg ys)).run P w = .ok (keyBL xs.toList ys.toList) w := by simpa using this
      exact h4
    · cases hk
theorem keyBL_bits : ∀ {l : List IntKind} {a b : List Value}, fitL l a = true → fitL l b = true → keyBL b a = true → (a.zip b).all (fun (x, y) => Instr.sameBits 9999 x y) = true := by
  intro l
  induction l with
  | nil => intro a b h1 h2 _; have := fitL_len h1; have := fitL_len h2; simp_all
  | cons k l ih =>
    intro a b h1 h2 h3
    obtain ⟨x, a', rfl, g1⟩ := fitL_cons h1
    obtain ⟨y, b', rfl, g2⟩ := fitL_cons h2
    simp only [keyBL, Bool.and_eq_true] at h3
    have e : y = x := by simpa using h3.1
    subst e
    simp only [List.zip_cons_cons, List.all_cons, ih g1 g2 h3.2, Bool.and_true]
    simp [Instr.sameBits]
theorem bits_of {kk : Kk} {k l : Value} (h1 : keyFit kk k = true) (h2 : keyFit kk l = true) (h : keyB k l = true) : Instr.sameBits 10000 l k = true := by
  cases kk with
  | i k0 =>
    cases k with
    | int k1 a => cases l with
      | int k2 b =>
        have e1 := of_decide_eq_true h1
        have e2 := of_decide_eq_true h2
        have e3 : (a == b) = true := h
        have e3 := eq_of_beq e3
        subst e1 e2 e3
        simp [Instr.sameBits]
      | _ => simp [keyFit] at h2
    | _ => simp [keyFit] at h1
  | s =>
    cases k with
    | string a => cases l with
      | string b =>
        have h : (a == b) = true := h
        rw [beq_toListBytes] at h
        have h := eq_of_beq h
        show (b == a) = true
        rw [beq_toListBytes, h]; simp
      | _ => simp [keyFit] at h2
    | _ => simp [keyFit] at h1
  | is ks =>
    cases k with
    | agg xs => cases l with
      | agg ys =>
        have e1 := fitL_len h1
        have e2 := fitL_len h2
        have := keyBL_bits h2 h1 h
        simp only [Instr.sameBits, Bool.and_eq_true]
        refine ⟨?_, this⟩
        simp at e1 e2
        simp [e1, e2]
      | _ => simp [keyFit] at h2
    | _ => simp [keyFit] at h1
theorem found_b {v : Value} (h : valFit .b v = true) : Value.bool (boolV v) = v := by cases v <;> first | rfl | (simp [valFit] at h)
theorem found_i {kd : IntKind} {v : Value} (h : valFit (.i kd) v = true) : Value.int kd (intV v) = v := by
  cases v with
  | int k n => have := of_decide_eq_true h; subst this; rfl
  | _ => simp [valFit] at h
/-- what is found among entries -/
theorem findO_run {P : Program} {kk : Kk} {vk : Vk} {kt : TypeId} {k z : Value} {d : TypeDesc} (w : World) (hd : undL P kt = .ok d) (hk : keyKd P kt kk = true) (h1 : keyFit kk k = true) : ∀ {E : List MapEntry} {i : Nat}, (E.all fun e => keyFit kk e.key && valFit vk e.val) = true →
    ∃ r', (Instr.findAsking kt k E i).run P w = .ok r' w ∧ (∀ q, Instr.findNow d k E i = some q → q = r') ∧
      ((r' = none ∧ hasK k (E.map fun e => (e.key, e.val)) = false ∧ getK k z (E.map fun e => (e.key, e.val)) = z ∧ ∀ v, putK k v (E.map fun e => (e.key, e.val)) = (E.map fun e => (e.key, e.val)) ++ [(k, v)]) ∨
       ∃ j e, r' = some (i + j, e.val) ∧ E[j]? = some e ∧ keyB k e.key = true ∧ hasK k (E.map fun e => (e.key, e.val)) = true ∧ getK k z (E.map fun e => (e.key, e.val)) = e.val ∧ ∀ v, putK k v (E.map fun e => (e.key, e.val)) = (E.map fun e => (e.key, e.val)).set j (k, v)) := by
  intro E
  induction E with
  | nil => intro i _; exact ⟨none, rfl, fun q hq => by simp only [Instr.findNow, Option.some.injEq] at hq; exact hq.symm, .inl ⟨rfl, rfl, rfl, fun v => rfl⟩⟩
  | cons e E ih =>
    intro i hE
    simp only [List.all_cons, Bool.and_eq_true] at hE
    obtain ⟨⟨e1, e2⟩, hE⟩ := hE
    have hq := equal_run hk h1 e1 w
    cases hb : keyB k e.key with
    | true =>
      rw [hb] at hq
      refine ⟨some (i, e.val), by simp only [Instr.findAsking, Sem.run_bind, hq, Result.andThen_ok, if_true, Sem.run_pure], fun q hq' => ?_, .inr ⟨0, e, rfl, rfl, hb, by simp [hasK, hb], by simp [getK, hb], fun v => by simp [putK, hb]⟩⟩
      simp only [Instr.findNow] at hq'
      cases hs : Instr.sameNow d k e.key with
      | none => rw [hs] at hq'; cases hq'
      | some b =>
        have := sameNow_eq 9999 hd hs w hq
        subst this
        rw [hs] at hq'
        simp only [Option.some.injEq] at hq'
        exact hq'.symm
    | false =>
      rw [hb] at hq
      obtain ⟨r', r1, r2, r3⟩ := ih (i := i + 1) (by simpa using hE)
      refine ⟨r', by simp only [Instr.findAsking, Sem.run_bind, hq, Result.andThen_ok, Bool.false_eq_true, if_false]; exact r1, fun q hq' => ?_, ?_⟩
      · simp only [Instr.findNow] at hq'
        cases hs : Instr.sameNow d k e.key with
        | none => rw [hs] at hq'; cases hq'
        | some b =>
          have := sameNow_eq 9999 hd hs w hq
          subst this
          rw [hs] at hq'
          exact r2 q hq'
      · rcases r3 with ⟨a1, a2, a3, a4⟩ | ⟨j, x, a1, a2, a3, a4, a5, a6⟩
        · exact .inl ⟨a1, by simp [hasK, hb, a2], by simp [getK, hb, a3], fun v => by simp [putK, hb, a4]⟩
        · exact .inr ⟨j + 1, x, by rw [a1]; congr 2; omega, by simpa using a2, a3, by simp [hasK, hb, a4], by simp [getK, hb, a5], fun v => by simp [putK, hb, a6]⟩
theorem findKeyO_run {P : Program} {kk : Kk} {vk : Vk} {kt : TypeId} {k z : Value} (w : World) (hk : keyKd P kt kk = true) (h1 : keyFit kk k = true) {E : List MapEntry} (hE : (E.all fun e => keyFit kk e.key && valFit vk e.val) = true) :
    ∃ r', (Instr.findKey kt k E).run P w = .ok r' w ∧
      ((r' = none ∧ hasK k (E.map fun e => (e.key, e.val)) = false ∧ getK k z (E.map fun e => (e.key, e.val)) = z ∧ ∀ v, putK k v (E.map fun e => (e.key, e.val)) = (E.map fun e => (e.key, e.val)) ++ [(k, v)]) ∨
       ∃ j e, r' = some (j, e.val) ∧ E[j]? = some e ∧ keyB k e.key = true ∧ hasK k (E.map fun e => (e.key, e.val)) = true ∧ getK k z (E.map fun e => (e.key, e.val)) = e.val ∧ ∀ v, putK k v (E.map fun e => (e.key, e.val)) = (E.map fun e => (e.key, e.val)).set j (k, v)) := by
  have hd : ∃ d, undL P kt = .ok d := by
    unfold undL
    cases kk <;> simp only [keyKd] at hk <;> split at hk <;> first | (rename_i hu; exact ⟨_, by rw [hu]⟩) | cases hk
  obtain ⟨d, hd⟩ := hd
  obtain ⟨r', r1, r2, r3⟩ := findO_run (vk := vk) (z := z) w hd hk h1 (i := 0) hE
  refine ⟨r', ?_, by simpa using r3⟩
  simp only [Instr.findKey, Sem.run_bind, run_und hd, Result.andThen_ok]
  cases hq : Instr.findNow d k E 0 with
  | none => exact r1
  | some q => rw [r2 q hq]; rfl
theorem omapOf_some {st : ASt} {x : Value} {kk : Kk} {vk : Vk} {es : List (Value × Value)} (h : omapOf st x = some (kk, vk, es)) : ∃ b, x = .map (some b) ∧ st.h.get b = some (.omap kk vk es) := by
  unfold omapOf at h
  split at h
  · split at h
    · rename_i b _ kk' vk' es' hg; cases h; exact ⟨b, rfl, hg⟩
    · cases h
  · cases h
theorem omap_fits {E : List MapEntry} {es : List (Value × Value)} {kk : Kk} {vk : Vk} (he : E.map (fun e => (e.key, e.val)) = es) (h : (es.all fun p => keyFit kk p.1 && valFit vk p.2) = true) : (E.all fun e => keyFit kk e.key && valFit vk e.val) = true := by
  subst he
  rw [List.all_map] at h
  exact h
theorem all_get {α : Type} {p : α → Bool} {l : List α} (h : l.all p = true) {j : Nat} {x : α} (hx : l[j]? = some x) : p x = true := by
  rw [List.all_eq_true] at h
  exact h x (List.mem_of_getElem? hx)
theorem op_lookupO {P : Program} {o : Oper} {f : AFr} {st : ASt} {t kt et : TypeId} {x i : Operand} {ok : Bool} {kk : Kk} {vk : Vk} {es : List (Value × Value)} {v : Value} (h : o.op = .lookup t x i ok) (hd : undL P t = .ok (.map kt et))
    (hm : omapOf st (f.ev x) = some (kk, vk, es)) (hv : lookO P kt et kk vk es (f.ev i) ok = .ok v) : OpR P o f st (.val v st) :=
  OpR.quiet fun ρ w a hfr hw => by
    unfold lookO at hv
    obtain ⟨u1, k1, hv⟩ := bnd_ok hv
    obtain ⟨u2, k2, hv⟩ := bnd_ok hv
    obtain ⟨z, hz, hv⟩ := bnd_ok hv
    obtain ⟨hc, hv⟩ := cond_ok hv
    cases hv
    simp only [Bool.and_eq_true] at hc
    obtain ⟨⟨c1, c2⟩, c3⟩ := hc
    have hI := VR.ground 3 (keyFit_ground c2) (hfr.ev i)
    obtain ⟨b, hx, hg⟩ := omapOf_some hm
    have hX := hfr.ev x
    rw [hx] at hX
    generalize hA : a.eval x = A at hX
    cases hX with
    | map _ s hs =>
      obtain ⟨s', e1, e2, e3, E, clock, e4, e5⟩ := hw.obj _ _ hg
      rw [hs] at e1; cases e1
      have hfit := omap_fits e5 e3
      obtain ⟨r', r1, r2⟩ := findKeyO_run (P := P) (vk := vk) (z := z) w c1 c2 hfit
      rw [e5] at r2
      obtain ⟨z1, z2⟩ := zeroV_run (ρ := ρ) hz
      have hchk : (Instr.checkKey E.isEmpty 10000 kt (f.ev i)).run P w = .ok () w := by
        cases E.isEmpty with
        | true => exact (keyOk_run k1).2 w
        | false => exact (keyOk_run k2).2 w
      have hgo : (getObj s.blk).run P w = .ok (.map E clock) w := by simp [getObj, Sem.run, e4]
      have hzz : (vk = .b ∧ z = .bool false) ∨ ∃ kd, vk = .i kd ∧ z = .int kd 0 := by
        unfold sameZ at c3
        split at c3
        · exact .inl ⟨rfl, rfl⟩
        · have := of_decide_eq_true c3; subst this; exact .inr ⟨_, rfl, rfl⟩
        · cases c3
      have hf : (∃ q, r' = some q ∧ foundO vk (f.ev i) es = q.2 ∧ hasK (f.ev i) es = true) ∨ (r' = none ∧ foundO vk (f.ev i) es = z ∧ hasK (f.ev i) es = false) := by
        rcases r2 with ⟨q1, q2, q3, _⟩ | ⟨j, e, q1, q2, _, q3, q4, _⟩
        · right
          refine ⟨q1, ?_, q2⟩
          rcases hzz with ⟨rfl, rfl⟩ | ⟨kd, rfl, rfl⟩
          · simp [foundO, q3, boolV]
          · simp [foundO, q3, intV]
        · left
          refine ⟨_, q1, ?_, q3⟩
          have hvf := all_get hfit q2
          simp only [Bool.and_eq_true] at hvf
          rcases hzz with ⟨rfl, rfl⟩ | ⟨kd, rfl, rfl⟩
          · simp only [foundO, q4]; exact found_b hvf.2
          · simp only [foundO, q4]; exact found_i hvf.2
      have hfin : ∀ v', v' = foundO vk (f.ev i) es → VR ρ (cond ok (.tuple #[foundO vk (f.ev i) es, .bool (hasK (f.ev i) es)]) (foundO vk (f.ev i) es)) (if ok then .tuple #[v', .bool (hasK (f.ev i) es)] else v') := by
        intro v' hv'
        have hvr : VR ρ (foundO vk (f.ev i) es) v' := by
          rw [hv']
          cases vk with
          | b => exact .bool _
          | i kd => exact .int _ _
        cases ok with
        | true => exact VR.pair hvr _
        | false => exact hvr
      refine ⟨_, ?_, hfin _ rfl⟩
      rcases hf with ⟨q, rfl, q1, q2⟩ | ⟨rfl, q1, q2⟩
      · simp only [execOp, h, Instr.lookup, Sem.run_bind, run_und hd, Result.andThen_ok, hA, hgo, Sem.run_pure, hI, hchk, r1, q1, q2]
      · simp only [execOp, h, Instr.lookup, Sem.run_bind, run_und hd, Result.andThen_ok, hA, hgo, Sem.run_pure, hI, hchk, r1, z1, q1, q2]
theorem op_updateO {P : Program} {o : Oper} {f : AFr} {st : ASt} {t kt et : TypeId} {m k x : Operand} {b : Nat} {kk : Kk} {vk : Vk} {es : List (Value × Value)} {q : AObj} (h : o.op = .mapUpdate t m k x ∨ o.op = .insert t m k x) (hd : undL P t = .ok (.map kt et))
    (hm : f.ev m = .map (some b)) (hg : st.h.get b = some (.omap kk vk es)) (hq : putO P kt kk vk es (f.ev k) (f.ev x) = .ok q) : OpR P o f st (.val undef (st.set b (some q))) := by
  unfold putO at hq
  obtain ⟨u, k1, hq⟩ := bnd_ok hq
  obtain ⟨hc, hq⟩ := cond_ok hq
  cases hq
  simp only [Bool.and_eq_true] at hc
  obtain ⟨⟨c1, c2⟩, c3⟩ := hc
  have hexec : ∀ ρv : Operand → Value, execOp ρv o = (do Instr.mapUpdate t (ρv m) (ρv k) (ρv x); pure .skip) := by
    intro ρv; rcases h with h | h <;> simp only [execOp, h]
  refine ⟨LoS.set _ _ _ (.inr ⟨_, hg⟩), fun ρ w a hfr hw _ => ?_⟩
  have hM := hfr.ev m
  rw [hm] at hM
  generalize hA : a.eval m = A at hM
  cases hM with
  | map _ s hs =>
    obtain ⟨s', e1, e2, e3, E, clock, e4, e5⟩ := hw.obj _ _ hg
    rw [hs] at e1; cases e1
    have hfit := omap_fits e5 e3
    obtain ⟨r', r1, r2⟩ := findKeyO_run (P := P) (vk := vk) (z := .bool false) w c1 c2 hfit
    rw [e5] at r2
    have hI := VR.ground 3 (keyFit_ground c2) (hfr.ev k)
    have hXv := VR.ground 3 (valFit_ground c3) (hfr.ev x)
    have hgo : (getObj s.blk).run P w = .ok (.map E clock) w := by simp [getObj, Sem.run, e4]
    have hso : ∀ o' : Obj, (setObj s.blk o').run P w = .ok () { w with heap := w.heap.setIfInBounds s.blk o' } := fun o' => by simp [setObj, Sem.run, e4]
    have hlt := hw.blk b s hs e2
    have fin : ∀ (E' : Array MapEntry) (cl : Nat), E'.toList.map (fun e => (e.key, e.val)) = putK (f.ev k) (f.ev x) es →
        Mv ρ ρ st.h.get (st.set b (some (.omap kk vk (putK (f.ev k) (f.ev x) es)))).h.get st.next st.next w { w with heap := w.heap.setIfInBounds s.blk (.map E' cl) } := by
      intro E' cl hE'
      have : (st.set b (some (.omap kk vk (putK (f.ev k) (f.ev x) es)))).h.get = upd st.h.get b (some (.omap kk vk (putK (f.ev k) (f.ev x) es))) := by simp [ASt.set, set_get]
      rw [this]
      refine Mv.write _ hw hg rfl hs e2 _ rfl ⟨e2, ?_, E', cl, by simp [hlt], hE'⟩ (by simp) (fun b' hb => by simp only; rw [Array.getElem?_setIfInBounds_ne (Ne.symm hb)]) rfl rfl rfl
      have key : ∀ l : List (Value × Value), (l.all fun p => keyFit kk p.1 && valFit vk p.2) = true → ((putK (f.ev k) (f.ev x) l).all fun p => keyFit kk p.1 && valFit vk p.2) = true := by
        intro l
        induction l with
        | nil => intro _; simp [putK, c2, c3]
        | cons p l ih =>
          intro hl
          simp only [List.all_cons, Bool.and_eq_true] at hl
          simp only [putK]
          cases keyB (f.ev k) p.1 with
          | true => simp only [cond_true, List.all_cons, c2, c3, hl.2]; rfl
          | false => simp only [cond_false, List.all_cons, hl.1.1, hl.1.2, ih hl.2]; rfl
      exact key es e3
    rcases r2 with ⟨rfl, _, _, q4⟩ | ⟨j, e, rfl, q2, q3, _, _, q5⟩
    · refine ⟨ρ, undef, _, .inr ⟨?_, rfl⟩, .tuple _ _ rfl (fun i x y hx => by simp at hx), fin (E.push { key := f.ev k, val := f.ev x, born := clock }) (clock + 1) ?_⟩
      · rw [hexec, hA, hI, hXv]
        simp only [Instr.mapUpdate, Sem.run_bind, run_und hd, Result.andThen_ok, hgo, (keyOk_run k1).2 w, r1, hso, Sem.run_pure]
      · rw [Array.toList_push, List.map_append, e5, q4]; rfl
    · have hE : E[j]? = some e := by simpa using q2
      have hfe := all_get hfit q2
      simp only [Bool.and_eq_true] at hfe
      have hbits := bits_of c2 hfe.1 q3
      refine ⟨ρ, undef, _, .inr ⟨?_, rfl⟩, .tuple _ _ rfl (fun i x y hx => by simp at hx), fin (E.modify j fun z => { z with key := f.ev k, val := f.ev x }) clock ?_⟩
      · rw [hexec, hA, hI, hXv]
        simp only [Instr.mapUpdate, Sem.run_bind, run_und hd, Result.andThen_ok, hgo, (keyOk_run k1).2 w, r1, hE, Option.map_some, Option.getD_some, Instr.keyThatStays, hbits, if_true, Sem.run_pure, hso]
      · rw [q5, ← e5]
        apply List.ext_getElem?
        intro q
        rw [List.getElem?_map, Array.getElem?_toList, Array.getElem?_modify, List.getElem?_set]
        by_cases hq : j = q
        · subst hq
          have hlt : j < E.toList.length := (List.getElem?_eq_some_iff.1 q2).1
          have hlt' : j < E.size := by simpa using hlt
          simp [hE, hlt']
        · simp [hq]
end Go.Proofs.YtpogcoolgnjejaaGreatDoor.Ev
