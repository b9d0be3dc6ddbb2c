/-
  What the evaluator says of append holds of its runs.
-/
import Derived.Test.YtokpobfimphhgaaEvU
set_option linter.unusedVariables false
set_option linter.unusedSimpArgs false
namespace Go.Proofs.Ytokpobfimphhgaa.Ev
open Go

theorem growBy_le (need : Nat) : ∀ (r c : Nat), c ≤ need + (need + 768) / 4 → Builtin.growBy need r c ≤ need + (need + 768) / 4 := by
  intro r
  induction r with
  | zero => intro c h; exact h
  | succ r ih =>
    intro c h
    simp only [Builtin.growBy]
    split
    · exact h
    · exact ih _ (by omega)
theorem nextcap_le (need old : Nat) (h : old < need) : Builtin.nextslicecap need old ≤ 2 * need + 1000 := by
  unfold Builtin.nextslicecap
  split
  · omega
  · split
    · omega
    · have := growBy_le need 4 old (by omega)
      omega
theorem cut_cap (need old e t : Nat) (h : need ≤ 1000000) : ∃ nc, (Question.appendCap need old e).cut t = nc ∧ need ≤ nc := ⟨_, rfl, by simp only [Question.cut]; omega⟩

/-- append, where it grows -/
theorem append_grow {P : Program} {w : World} {t t2 elem ty : TypeId} {ts : List TypeId} {base : Option Addr} {sLen sCap n size : Nat} {x' : Value} {d2 : TypeDesc} {ii : TypeInfo} {zv : Value} {old new : List Value}
    (hd : undL P t = .ok (.slice elem)) (hd2 : undL P t2 = .ok d2) (hni : ∀ k, d2 ≠ .int k) (hs : sizeL P elem = .ok size) (hz : ∀ w, (zeroValue elem).run P w = .ok zv w) (hi : P.info? elem = some ii) (hib : ii.bytes ≤ 1000000)
    (hl : ∀ w0, (Builtin.lenOf x').run P w0 = .ok n w0) (hgrow : ¬ sLen + n ≤ sCap) (hneed : sLen + n ≤ 1000000)
    (ho : ∀ w1, w1.heap = w.heap → (Builtin.firstCells size sLen (.slice base sLen sCap)).run P w1 = .ok old.toArray w1) (hn : ∀ w1, w1.heap = w.heap → (Builtin.firstCells size n x').run P w1 = .ok new.toArray w1) :
    ∃ nc, sLen + n ≤ nc ∧ (Builtin.append_ (t :: t2 :: ts).toArray ty #[.slice base sLen sCap, x']).run P w =
      .ok (.slice (some ⟨w.heap.size, 0, none⟩) (sLen + n) nc) (w.drew.alloc (.cells (old.toArray ++ new.toArray ++ Builtin.zeroCells zv.cells (nc - (sLen + n))) elem)) := by
  have hq : ∀ e w, (choose (.appendCap (sLen + n) sCap e)).run P w = .ok ((Question.appendCap (sLen + n) sCap e).cut (w.tape w.drawn (.appendCap (sLen + n) sCap e))) w.drew := by
    intro e w
    simp [run_choose_drew, Question.forced]
  obtain ⟨nc, hnc, hle⟩ := cut_cap (sLen + n) sCap elem (w.tape w.drawn (.appendCap (sLen + n) sCap elem)) hneed
  have hq1 := hq elem w
  rw [hnc] at hq1
  refine ⟨nc, hle, ?_⟩
  have hti : (typeInfo elem).run P w = .ok ii w := by simp [typeInfo, hi]
  have hti2 : (typeInfo elem).run P w.drew = .ok ii w.drew := by simp [typeInfo, hi]
  have hmax : IntKind.i64.max = 9223372036854775807 := by decide
  have c1 : ¬ (((sLen + n : Nat) : Int) > IntKind.i64.max ∧ (ii.bytes = 0)) := by rw [hmax]; omega
  have c1' : ¬ (((sLen + n : Nat) : Int) > IntKind.i64.max ∧ ((false = true) ∨ ii.bytes = 0)) := by rw [hmax]; omega
  have c2 : ¬ (Builtin.nextslicecap (sLen + n) sCap * ii.bytes > 2 ^ 48) := by
    have h1 := nextcap_le (sLen + n) sCap (by omega)
    have h2 : Builtin.nextslicecap (sLen + n) sCap * ii.bytes ≤ (2 * (sLen + n) + 1000) * 1000000 := Nat.mul_le_mul h1 hib
    omega
  have ho1 := ho w.drew rfl
  have hn1 := hn w.drew rfl
  have hz1 := hz w.drew
  have hh : w.drew.heap.size = w.heap.size := rfl
  cases d2 <;> first
    | exact absurd rfl (hni _)
    | (simp only [Builtin.append_, List.getElem?_toArray, List.getElem?_cons_zero, List.getElem?_cons_succ, Sem.run_bind, run_und hd, run_und hd2, Result.andThen_ok, run_sizeL hs, Sem.run_pure, hl, Bool.false_eq_true, if_false, hgrow, Sem.run_ite, hti, c1, c1', c2, hq1, hti2, run_askRoom, ho1, hn1, hz1, Bool.not_false, if_true, newRow, run_newObj_alloc, false_or, or_self, Bool.not_true, hh])
/-- append, where there is room -/
theorem append_room {P : Program} {w w' : World} {t t2 elem ty : TypeId} {ts : List TypeId} {base : Option Addr} {sLen sCap n size : Nat} {x' : Value} {d2 : TypeDesc} {new : List Value}
    (hd : undL P t = .ok (.slice elem)) (hd2 : undL P t2 = .ok d2) (hni : ∀ k, d2 ≠ .int k) (hs : sizeL P elem = .ok size)
    (hl : ∀ w0, (Builtin.lenOf x').run P w0 = .ok n w0) (hroom : sLen + n ≤ sCap) (hn : (Builtin.firstCells size n x').run P w = .ok new.toArray w)
    (hst : ∀ a, base = some a → (storeCells (a.add (sLen * size)) new 0).run P w = .ok () w') (hb : base = none → w' = w) :
    (Builtin.append_ (t :: t2 :: ts).toArray ty #[.slice base sLen sCap, x']).run P w = .ok (.slice base (sLen + n) sCap) w' := by
  cases base with
  | none =>
    rw [hb rfl]
    cases d2 <;> first
      | exact absurd rfl (hni _)
      | (simp only [Builtin.append_, List.getElem?_toArray, List.getElem?_cons_zero, List.getElem?_cons_succ, Sem.run_bind, run_und hd, run_und hd2, Result.andThen_ok, run_sizeL hs, Sem.run_pure, hl, Bool.false_eq_true, if_false, hroom, Sem.run_ite, hn, Bool.not_false, if_true]; done)
      | (simp only [Builtin.append_, List.getElem?_toArray, List.getElem?_cons_zero, List.getElem?_cons_succ, Sem.run_bind, run_und hd, run_und hd2, Result.andThen_ok, run_sizeL hs, Sem.run_pure, hl, Bool.false_eq_true, if_false, hroom, Sem.run_ite, hn, Bool.not_false, if_true]; rfl)
  | some a =>
    have hst1 := hst a rfl
    cases d2 <;> first
      | exact absurd rfl (hni _)
      | (simp only [Builtin.append_, List.getElem?_toArray, List.getElem?_cons_zero, List.getElem?_cons_succ, Sem.run_bind, run_und hd, run_und hd2, Result.andThen_ok, run_sizeL hs, Sem.run_pure, hl, Bool.false_eq_true, if_false, hroom, Sem.run_ite, hn, Bool.not_false, if_true, hst1]; done)
      | (simp only [Builtin.append_, List.getElem?_toArray, List.getElem?_cons_zero, List.getElem?_cons_succ, Sem.run_bind, run_und hd, run_und hd2, Result.andThen_ok, run_sizeL hs, Sem.run_pure, hl, Bool.false_eq_true, if_false, hroom, Sem.run_ite, hn, Bool.not_false, if_true, hst1]; rfl)

/-- what is appended, and what comes of it -/
structure Src (P : Program) (w : World) (t2 elem : TypeId) (size n : Nat) (zv x' : Value) (new : List Value) : Prop where
  room : ∀ (t ty : TypeId) (ts : List TypeId) (base : Option Addr) (sLen sCap : Nat) (w' : World), undL P t = .ok (.slice elem) → sLen + n ≤ sCap → (∀ a, base = some a → (storeCells (a.add (sLen * size)) new 0).run P w = .ok () w') → (base = none → w' = w) →
    (Builtin.append_ (t :: t2 :: ts).toArray ty #[.slice base sLen sCap, x']).run P w = .ok (.slice base (sLen + n) sCap) w'
  grow : ∀ (t ty : TypeId) (ts : List TypeId) (base : Option Addr) (sLen sCap : Nat) (old : List Value), undL P t = .ok (.slice elem) → ¬ sLen + n ≤ sCap → sLen + n ≤ 1000000 → (∀ w1, w1.heap = w.heap → (Builtin.firstCells size sLen (.slice base sLen sCap)).run P w1 = .ok old.toArray w1) →
    ∃ nc, sLen + n ≤ nc ∧ (Builtin.append_ (t :: t2 :: ts).toArray ty #[.slice base sLen sCap, x']).run P w =
      .ok (.slice (some ⟨w.heap.size, 0, none⟩) (sLen + n) nc) (w.drew.alloc (.cells (old.toArray ++ new.toArray ++ Builtin.zeroCells zv.cells (nc - (sLen + n))) elem))
theorem Src.of_list {P : Program} {w : World} {t2 elem : TypeId} {n size : Nat} {x' : Value} {d2 : TypeDesc} {ii : TypeInfo} {zv : Value} {new : List Value}
    (hd2 : undL P t2 = .ok d2) (hni : ∀ k, d2 ≠ .int k) (hs : sizeL P elem = .ok size) (hz : ∀ w, (zeroValue elem).run P w = .ok zv w) (hi : P.info? elem = some ii) (hib : ii.bytes ≤ 1000000)
    (hl : ∀ w0, (Builtin.lenOf x').run P w0 = .ok n w0) (hn : ∀ w1, w1.heap = w.heap → (Builtin.firstCells size n x').run P w1 = .ok new.toArray w1) : Src P w t2 elem size n zv x' new :=
  ⟨fun t ty ts base sLen sCap w' hd hroom hst hb => append_room hd hd2 hni hs hl hroom (hn w rfl) hst hb,
    fun t ty ts base sLen sCap old hd hgrow hneed ho => append_grow hd hd2 hni hs hz hi hib hl hgrow hneed ho hn⟩
/-- of so many that are nothing yet -/
theorem Src.of_make {P : Program} {w : World} {t2 elem : TypeId} {n size : Nat} {k k2 : IntKind} {ii : TypeInfo} {zv : Value} {new : List Value}
    (hd2 : undL P t2 = .ok (.int k)) (hs : sizeL P elem = .ok size) (hz : ∀ w, (zeroValue elem).run P w = .ok zv w) (hi : P.info? elem = some ii) (hib : ii.bytes ≤ 1000000)
    (hn : n ≤ 1000000) (h0 : n * size = 0 → new = []) (h1 : n * size ≠ 0 → new.toArray = Builtin.zeroCells zv.cells n) : Src P w t2 elem size n zv (.int k2 (.ofNat n)) new := by
  have hwr := wrap_small n hn
  have hti : ∀ w, (typeInfo elem).run P w = .ok ii w := fun w => by simp [typeInfo, hi]
  have hmax : IntKind.i64.max = 9223372036854775807 := by decide
  have c0 : ¬ ((n : Int) < 0) := by omega
  have c3 : ¬ ((n : Int) * (ii.bytes : Int) > 2 ^ 48) := by
    have h : n * ii.bytes ≤ 1000000 * 1000000 := Nat.mul_le_mul hn hib
    have : ((n : Int) * (ii.bytes : Int)) = ((n * ii.bytes : Nat) : Int) := by simp
    rw [this]; omega
  have hz1 := fun w => hz w
  have app : ∀ w, (if n * size = 0 then (pure #[] : Sem (Array Value)) else (zeroValue elem).bind fun z => pure (Builtin.zeroCells z.cells n)).run P w = .ok new.toArray w := by
    intro w
    split
    · rename_i h; rw [h0 h]; rfl
    · rename_i h
      show ((zeroValue elem) >>= fun z => pure (Builtin.zeroCells z.cells n)).run P w = _
      rw [Sem.run_bind, hz, h1 h]; rfl
  refine ⟨fun t ty ts base sLen sCap w' hd hroom hst hb => ?_, fun t ty ts base sLen sCap old hd hgrow hneed ho => ?_⟩
  · by_cases hq : n * size = 0
    · have hne := h0 hq
      subst hne
      cases base with
      | none =>
        rw [hb rfl]
        simp only [Builtin.append_, List.getElem?_toArray, List.getElem?_cons_zero, List.getElem?_cons_succ, Sem.run_bind, run_und hd, run_und hd2, Result.andThen_ok, run_sizeL hs, Sem.run_pure, hti, asInt, asIntOf, hwr, c0, c3, if_false, Int.toNat_natCast, hroom, Sem.run_ite, if_true, hq, Bool.not_true, Bool.false_eq_true]
      | some a =>
        have hst1 := hst a rfl
        simp only [Builtin.append_, List.getElem?_toArray, List.getElem?_cons_zero, List.getElem?_cons_succ, Sem.run_bind, run_und hd, run_und hd2, Result.andThen_ok, run_sizeL hs, Sem.run_pure, hti, asInt, asIntOf, hwr, c0, c3, if_false, Int.toNat_natCast, hroom, Sem.run_ite, if_true, hq, Bool.not_true, Bool.false_eq_true, hst1]
    · have hne := h1 hq
      cases base with
      | none =>
        rw [hb rfl]
        simp only [Builtin.append_, List.getElem?_toArray, List.getElem?_cons_zero, List.getElem?_cons_succ, Sem.run_bind, run_und hd, run_und hd2, Result.andThen_ok, run_sizeL hs, Sem.run_pure, hti, asInt, asIntOf, hwr, c0, c3, if_false, Int.toNat_natCast, hroom, Sem.run_ite, if_true, hq, Bool.not_true, Bool.false_eq_true, hz, ← hne]
      | some a =>
        have hst1 := hst a rfl
        simp only [Builtin.append_, List.getElem?_toArray, List.getElem?_cons_zero, List.getElem?_cons_succ, Sem.run_bind, run_und hd, run_und hd2, Result.andThen_ok, run_sizeL hs, Sem.run_pure, hti, asInt, asIntOf, hwr, c0, c3, if_false, Int.toNat_natCast, hroom, Sem.run_ite, if_true, hq, Bool.not_true, Bool.false_eq_true, hz, ← hne, hst1]
  · have hqq : ∀ e w, (choose (.appendCap (sLen + n) sCap e)).run P w = .ok ((Question.appendCap (sLen + n) sCap e).cut (w.tape w.drawn (.appendCap (sLen + n) sCap e))) w.drew := by
      intro e w
      simp [run_choose_drew, Question.forced]
    obtain ⟨nc, hnc, hle⟩ := cut_cap (sLen + n) sCap elem (w.tape w.drawn (.appendCap (sLen + n) sCap elem)) hneed
    have hq1 := hqq elem w
    rw [hnc] at hq1
    refine ⟨nc, hle, ?_⟩
    have cA : ¬ (((sLen + n : Nat) : Int) > IntKind.i64.max) := by rw [hmax]; omega
    have c2 : ¬ (Builtin.nextslicecap (sLen + n) sCap * ii.bytes > 2 ^ 48) := by
      have h1 := nextcap_le (sLen + n) sCap (by omega)
      have h2 : Builtin.nextslicecap (sLen + n) sCap * ii.bytes ≤ (2 * (sLen + n) + 1000) * 1000000 := Nat.mul_le_mul h1 hib
      omega
    have ho1 := ho w.drew rfl
    have hh : w.drew.heap.size = w.heap.size := rfl
    by_cases hq : n * size = 0
    · have hne := h0 hq
      subst hne
      simp only [Builtin.append_, List.getElem?_toArray, List.getElem?_cons_zero, List.getElem?_cons_succ, Sem.run_bind, run_und hd, run_und hd2, Result.andThen_ok, run_sizeL hs, Sem.run_pure, hti, asInt, asIntOf, hwr, c0, c3, if_false, Int.toNat_natCast, hgrow, Sem.run_ite, if_true, hq, Bool.not_true, Bool.false_eq_true, cA, c2, false_and, hq1, run_askRoom, ho1, hz, newRow, run_newObj_alloc, hh]
    · have hne := h1 hq
      simp only [Builtin.append_, List.getElem?_toArray, List.getElem?_cons_zero, List.getElem?_cons_succ, Sem.run_bind, run_und hd, run_und hd2, Result.andThen_ok, run_sizeL hs, Sem.run_pure, hti, asInt, asIntOf, hwr, c0, c3, if_false, Int.toNat_natCast, hgrow, Sem.run_ite, if_true, hq, Bool.not_true, Bool.false_eq_true, cA, c2, false_and, hq1, run_askRoom, ho1, hz, newRow, run_newObj_alloc, hh, ← hne]
/-- the source of an append -/
theorem newsL_run {P : Program} {ρ : Rho} {st : ASt} {w : World} {t2 elem : TypeId} {size n : Nat} {x x' zv : Value} {d2 : TypeDesc} {ii : TypeInfo} {new z : List Value}
    (hd2 : undL P t2 = .ok d2) (hs : sizeL P elem = .ok size) (hz : zeroL P elem = .ok z) (hzr : ∀ w, (zeroValue elem).run P w = .ok zv w) (hzl : zv.cells.toList = z) (hzg : z.all (ground 2) = true) (hi : P.info? elem = some ii) (hib : ii.bytes ≤ 1000000) (h3 : z.length = size)
    (hf : newsL P st d2 elem size x = .ok (n, new)) (hX : VR ρ x x') (hw : WR ρ st.h.get w) :
    ∃ new', VRL ρ new new' ∧ new'.length = n * size ∧ Src P w t2 elem size n zv x' new' ∧ (new.all oneC = true → ∀ v ∈ new', v.oneCell' = true) := by
  have lst : (∀ k, d2 ≠ .int k) → firstL st size x = .ok (n, new) → ∃ new', VRL ρ new new' ∧ new'.length = n * size ∧ Src P w t2 elem size n zv x' new' ∧ (new.all oneC = true → ∀ v ∈ new', v.oneCell' = true) := by
    intro hni h
    obtain ⟨fl, new', n1, nl, n2, n3⟩ := firstL_run (P := P) h hX hw
    exact ⟨new', n1, nl, Src.of_list hd2 hni hs hzr hi hib fl n2, n3⟩
  unfold newsL at hf
  split at hf
  · rename_i k
    split at hf
    · rename_i k2 m
      obtain ⟨hm, hf⟩ := cond_ok hf
      obtain ⟨z', e1, e2⟩ := bnd_ok hf
      rw [hz] at e1
      cases e1
      cases e2
      cases hX
      have hzs : zv.cells.size = size := by rw [← h3, ← hzl]; simp
      refine ⟨repL z n, ground_list (n := 2) ?_, by rw [repL_len, h3], Src.of_make hd2 hs hzr hi hib (Nat.le_of_ble_eq_true hm) (fun h0 => List.eq_nil_of_length_eq_zero (by rw [repL_len, h3, h0])) (fun h0 => ?_), oneC_list (ρ := ρ) (ground_list (n := 2) ?_)⟩
      · exact repL_all hzg n
      · have hr := rep_rel (ρ := ρ) (z := z) (zc := zv.cells) (n := n) (N := n * zv.cells.size) (ground_list hzg) (fun _ => hzl) (by rw [hzs, h3])
        apply Array.toList_inj.1
        apply List.ext_getElem?
        intro i
        have hlen := hr.1
        cases hx : (repL z n)[i]? with
        | none =>
          rw [List.getElem?_eq_none_iff] at hx
          symm
          show (Builtin.zeroCells zv.cells n).toList[i]? = none
          rw [List.getElem?_eq_none_iff]
          unfold Builtin.zeroCells
          omega
        | some v =>
          obtain ⟨y, hy, hv⟩ := hr.get hx
          have hg := repL_all hzg n
          rw [List.all_eq_true] at hg
          rw [VR.ground 2 (hg v (List.mem_of_getElem? hx)) hv] at hy
          exact hy.symm
      · exact repL_all hzg n
    · cases hf
  · rename_i hni
    exact lst (fun k e => hni k e) hf

/-- the state behind an append -/
theorem app_sound {P : Program} {ρ : Rho} {st : ASt} {w : World} {t t2 elem ty : TypeId} {ts : List TypeId} {base : Option Addr} {len cap n size by_ : Nat} {x x' s' v : Value} {d2 : TypeDesc} {new z : List Value} {st' : ASt}
    (hd : undL P t = .ok (.slice elem)) (hd2 : undL P t2 = .ok d2) (hs : sizeL P elem = .ok size) (hby : bytesL P elem = .ok by_) (hz : zeroL P elem = .ok z) (hf : newsL P st d2 elem size x = .ok (n, new))
    (h1 : len + n ≤ 1000000) (h2 : by_ ≤ 1000000) (h3 : z.length = size)
    (hr : (cond (Nat.ble (len + n) cap)
        (match base with
          | none => .ok (.val (.slice none len cap) st)
          | some ⟨b0, o0, none⟩ => (st.write ((⟨b0, o0, none⟩ : Addr).add (len * size)) new).bnd fun st' => .ok (.val (.slice (some ⟨b0, o0, none⟩) (len + n) cap) st')
          | some _ => .er "append: row")
        (match base with
          | none => .ok (.val (.slice (some ⟨st.next, 0, none⟩) n n) (st.new (.cells new false size)))
          | some ⟨b0, o0, none⟩ => (st.read ⟨b0, o0, none⟩ (len * size)).bnd fun old => match st.h.get b0 with
            | some (.cells _ true _) => .ok (.val (.slice (some ⟨st.next, 0, none⟩) (len + n) (len + n)) (st.new (.cells (old ++ new) false size)))
            | some (.cells _ false es) => cond (Nat.beq es size && new.all oneC) (.ok (.val (.slice (some ⟨st.next, 0, none⟩) (len + n) (len + n)) ((st.set b0 none).new (.cells (old ++ new) false size)))) (.er "append: size")
            | _ => .er "append: row"
          | some _ => .er "append: row") : Rs AN) = .ok (.val v st'))
    (hw : WR ρ st.h.get w) (hS : VR ρ (.slice base len cap) s') (hX : VR ρ x x') (hfr : Fresh ρ st.next st'.next) :
    ∃ ρ' v' w', (Builtin.append_ (t :: t2 :: ts).toArray ty #[s', x']).run P w = .ok v' w' ∧ VR ρ' v v' ∧ Mv ρ ρ' st.h.get st'.h.get st.next st'.next w w' := by
  obtain ⟨zv, z1, z2, z3⟩ := run_zeroL hz
  obtain ⟨ii, i1, i2⟩ : ∃ ii, P.info? elem = some ii ∧ ii.bytes = by_ := by
    unfold bytesL at hby
    split at hby
    · rename_i i e; cases hby; exact ⟨i, e, rfl⟩
    · cases hby
  have hzs : zv.cells.size = size := by rw [← h3, ← z1]; simp
  have hib : ii.bytes ≤ 1000000 := by omega
  obtain ⟨new', n1, nl, hsrc, n3⟩ := newsL_run (P := P) hd2 hs hz z3 z1 z2 i1 hib h3 hf hX hw
  have hzl : ∀ q, (Builtin.zeroCells zv.cells q).size = q * size := by intro q; simp [Builtin.zeroCells, hzs]
  cases hb : Nat.ble (len + n) cap with
  | true =>
    have hle : len + n ≤ cap := Nat.le_of_ble_eq_true hb
    rw [hb] at hr
    simp only [cond_true] at hr
    cases base with
    | none =>
      cases hr
      cases hS
      have hn0 : n = 0 := by omega
      subst hn0
      have := hsrc.room t ty ts none 0 0 w hd (by omega) (by intro a e; cases e) (fun _ => rfl)
      exact ⟨ρ, _, w, this, .sliceNil, Mv.refl hw _⟩
    | some a =>
      obtain ⟨b0, o0, sp⟩ := a
      cases sp with
      | some i => cases hr
      | none =>
      simp only at hr
      obtain ⟨st1, r1, r2⟩ := bnd_ok hr
      cases r2
      have hall := write_oneC r1
      cases hS with
      | slice _ _ s _ _ c' o' hsp hn hc hxx hro hoo =>
        obtain ⟨w', k1, k2⟩ := write_rel (P := P) r1 hw (s := s) (by
          simp only [Addr.add]; split <;> exact hsp) n1 (n3 hall)
        have hlocA : locOf s ((⟨b0, o0, none⟩ : Addr).add (len * size)) = s.base + (o0 + len * size) := by rw [add_at]; rfl
        rw [hlocA] at k1
        have hst : ∀ a, some (⟨s.blk, o', none⟩ : Addr) = some a → (storeCells (a.add (len * size)) new' 0).run P w = .ok () w' := by
          intro a e
          cases e
          rcases hoo with hoo | hoo
          · rw [add_at, hoo, ← k1, Nat.add_assoc]
          · have hn0 : n = 0 := by omega
            have : new' = [] := List.eq_nil_of_length_eq_zero (by rw [nl, hn0]; simp)
            subst this
            exact k1
        have := hsrc.room t ty ts (some ⟨s.blk, o', none⟩) len c' w' hd (by omega) hst (by intro e; cases e)
        exact ⟨ρ, _, w', this, .slice b0 o0 s _ _ c' o' hsp hle hc hxx hro hoo, k2⟩
  | false =>
    have hgt : ¬ len + n ≤ cap := fun h => by rw [Nat.ble_eq_true_of_le h] at hb; cases hb
    rw [hb] at hr
    simp only [cond_false] at hr
    -- where it grows
    have grow : ∀ (base' : Option Addr) (sCap : Nat) (old old' : List Value), VRL ρ old old' → old'.length = len * size → ¬ len + n ≤ sCap →
        (∀ w1 : World, w1.heap = w.heap → (Builtin.firstCells size len (.slice base' len sCap)).run P w1 = .ok old'.toArray w1) →
        ∃ nc C, len + n ≤ nc ∧ C.size = nc * size ∧ VRL ρ (old ++ new) (C.toList.take (old ++ new).length) ∧
          (Builtin.append_ (t :: t2 :: ts).toArray ty #[.slice base' len sCap, x']).run P w = .ok (.slice (some ⟨w.heap.size, 0, none⟩) (len + n) nc) (w.drew.alloc (.cells C elem)) := by
      intro base' sCap old old' o1 o2 o3 o4
      obtain ⟨nc, g1, g2⟩ := hsrc.grow t ty ts base' len sCap old' hd o3 h1 o4
      refine ⟨nc, _, g1, ?_, ?_, g2⟩
      · simp only [Array.size_append, List.size_toArray, o2, nl, hzl]
        rw [← Nat.add_mul, ← Nat.add_mul]
        congr 1
        omega
      · have : (old'.toArray ++ new'.toArray ++ Builtin.zeroCells zv.cells (nc - (len + n))).toList = (old' ++ new') ++ (Builtin.zeroCells zv.cells (nc - (len + n))).toList := by simp
        have hlen : (old ++ new).length = (old' ++ new').length := by simp [o1.1, n1.1]
        rw [this, hlen, List.take_left']
        · exact o1.append n1
        · rfl
    cases base with
    | none =>
      cases hr
      cases hS
      obtain ⟨nc, C, g1, g2, g3, g4⟩ := grow none 0 [] [] (VRL.nil ρ) (by simp) hgt (fun w1 _ => by simp [Builtin.firstCells])
      simp only [Nat.zero_add, List.nil_append] at g1 g3 g4
      exact ⟨_, _, _, g4, slice_new rfl (Nat.le_refl _) g1 (fun h => by cases h) (fun _ => by show nc * size ≤ C.size; omega), Mv.row (C := C) (t := elem) false size (0, 0) hw hfr g3 (.inl rfl) rfl rfl rfl rfl⟩
    | some a =>
      obtain ⟨b0, o0, sp⟩ := a
      cases sp with
      | some i => cases hr
      | none =>
      simp only at hr
      obtain ⟨old, r1, r2⟩ := bnd_ok hr
      cases hS with
      | slice _ _ s _ _ c' o' hsp hn hc hxx hro hoo =>
        obtain ⟨old', q1, q2, q3⟩ := read_rel r1 hw hsp
        simp only [locOf] at q3
        have hfc : ∀ w1 : World, w1.heap = w.heap → (Builtin.firstCells size len (.slice (some ⟨s.blk, o', none⟩) len c')).run P w1 = .ok old'.toArray w1 := by
          intro w1 e
          by_cases h0 : len * size = 0
          · have : old' = [] := List.eq_nil_of_length_eq_zero (by rw [q2, h0])
            subst this
            simp only [Builtin.firstCells, loadCells, h0]
            rfl
          · have ho' : o' = s.base + o0 := by
              rcases hoo with hoo | hoo
              · exact hoo
              · exfalso
                have : len = 0 := by omega
                rw [this] at h0; simp at h0
            subst ho'
            have := run_loadCells_list (P := P) (w := w1) ⟨s.blk, s.base + o0, none⟩ old' (fun j v hv => by
              have := q3 j v hv
              unfold World.cell? at this ⊢
              rw [e]; exact this)
            rw [q2] at this
            simp only [Builtin.firstCells, this]
        split at r2
        · rename_i cs es hg
          cases r2
          obtain ⟨s', e1, e2⟩ := hw.obj _ _ hg
          rw [hsp] at e1; cases e1
          have hcc := hxx e2.2.1
          obtain ⟨nc, C, g1, g2, g3, g4⟩ := grow (some ⟨s.blk, o', none⟩) c' old old' q1 q2 (by omega) hfc
          exact ⟨_, _, _, g4, slice_new rfl (Nat.le_refl _) g1 (fun h => by cases h) (fun _ => by show nc * size ≤ C.size; omega), Mv.row (C := C) (t := elem) false size (0, 0) hw hfr g3 (.inl rfl) rfl rfl rfl rfl⟩
        · rename_i cs es hg
          obtain ⟨c1, c2⟩ := cond_ok r2
          simp only [Bool.and_eq_true] at c1
          have hes : es = size := Nat.eq_of_beq_eq_true c1.1
          subst hes
          cases c2
          obtain ⟨s', e1, e2⟩ := hw.obj _ _ hg
          rw [hsp] at e1; cases e1
          obtain ⟨x0, x1, x2, C0, t0, fr0, e3, e4, e5, e6, e7⟩ := e2
          have hfn : ρ st.next = none := hfr _ (Nat.le_refl _) (Nat.lt_succ_self _)
          have hgg : ((st.set b0 none).new (.cells (old ++ new) false es)).h.get = upd (upd st.h.get b0 none) st.next (some (.cells (old ++ new) false es)) := by
            simp [ASt.new, ASt.set, set_get]
          have hro' := hro x1
          rw [x2] at hro'
          by_cases hroom : len + n ≤ c'
          · -- in its place
            have ho' : o' = s.base + o0 ∨ (len = 0 ∧ n = 0) := by
              rcases hoo with hoo | hoo
              · exact .inl hoo
              · exact .inr ⟨by omega, by omega⟩
            have hob : o' = s.base + o0 := by
              rcases hoo with hoo | hoo
              · exact hoo
              · omega
            have hmul : (len + n) * es ≤ c' * es := Nat.mul_le_mul_right _ hroom
            rw [Nat.add_mul] at hmul
            obtain ⟨C', w', k1, k2, k3, k4, k5, k6, k7, k8, k9⟩ := run_storeCells_row P s.blk (o' + len * es) t0 fr0 new' 0 C0 w e3 e5.free (by rw [nl]; omega) (n3 c1.2)
            have := hsrc.room t ty ts (some ⟨s.blk, o', none⟩) len c' w' hd hroom (by intro a e; cases e; rw [add_at]; exact k1) (by intro e; cases e)
            refine ⟨upd ρ st.next (some ⟨s.blk, o', false, es, s.room, false⟩), _, w', this, ?_, ?_⟩
            · exact .slice st.next 0 ⟨s.blk, o', false, es, s.room, false⟩ _ _ c' o' (upd_same _ _ _) (Nat.le_refl _) hroom (fun h => by cases h) (fun _ => hro') (.inl rfl)
            · show Mv _ _ _ _ st.next (st.next + 1) _ _
              rw [hgg]
              refine Mv.turn hw hfn hg rfl hsp x0 _ rfl _ (.inr ⟨rfl, k5, k6⟩) ⟨rfl, rfl, rfl, C', t0, fr0, k2, k3.trans e4, by rw [k3]; exact e5, ?_, fun i x hx => ?_⟩ k7 k8 k9
              · simp only [List.length_append, q1.1, n1.1, q2, nl]; omega
              · rw [k4]
                have hsub : Sub ρ (upd ρ st.next (some ⟨s.blk, o', false, es, s.room, false⟩)) := Sub.upd _ hfn
                have hol : old.length = len * es := q1.1.trans q2
                have hnl : new.length = n * es := n1.1.trans nl
                rcases Nat.lt_or_ge i old.length with hi | hi
                · rw [List.getElem?_append_left hi] at hx
                  simp only
                  rw [if_neg (by omega)]
                  obtain ⟨y, hy, hv⟩ := q1.get hx
                  have := q3 i y hy
                  rw [add_at, cell_row e3] at this
                  exact ⟨y, by rw [hob]; exact this, hv.mono hsub⟩
                · rw [List.getElem?_append_right hi] at hx
                  obtain ⟨y, hy, hv⟩ := n1.get hx
                  have hilt := (List.getElem?_eq_some_iff.1 hx).1
                  simp only
                  rw [if_pos (by omega), show o' + i - (o' + len * es + 0) = i - old.length by omega]
                  exact ⟨y, hy, hv.mono hsub⟩
          · obtain ⟨nc, C, g1, g2, g3, g4⟩ := grow (some ⟨s.blk, o', none⟩) c' old old' q1 q2 hroom hfc
            refine ⟨upd ρ st.next (some ⟨w.heap.size, 0, false, es, C.size, false⟩), _, _, g4, slice_new rfl (Nat.le_refl _) g1 (fun h => by cases h) (fun _ => by show nc * es ≤ C.size; omega), ?_⟩
            show Mv _ _ _ _ st.next (st.next + 1) _ _
            rw [hgg]
            refine Mv.turn hw hfn hg rfl hsp x0 _ rfl _ (.inl ⟨rfl, by simp, fun b hb => RowKit.Below.heap_alloc w.drew _ _ hb⟩) ⟨rfl, rfl, rfl, C, elem, (0, 0), by show (w.heap.push _)[w.heap.size]? = _; simp, rfl, .inl rfl, ?_, fun i x hx => ?_⟩ rfl rfl rfl
            · have := g3.1; simp at this ⊢; omega
            · obtain ⟨y, hy, hv⟩ := g3.get hx
              rw [List.getElem?_take] at hy
              split at hy
              · exact ⟨y, by rw [Nat.zero_add]; simpa using hy, hv.mono (Sub.upd _ hfn)⟩
              · cases hy
        · cases r2

/-! ### rows of which it is left open how long they are -/
theorem rowsL_ex {es : Nat} {elem : Nat → List Value} : ∀ (c i : Nat), (∀ j, j < c → (elem (i + j)).length = es) → ∃ l, rowsL es elem i c = some l ∧ l.length = c * es ∧ ∀ j k, j < c → k < es → l[j * es + k]? = (elem (i + j))[k]? := by
  intro c
  induction c with
  | zero => intro i h; exact ⟨[], rfl, by simp, fun j k hj => by omega⟩
  | succ c ih =>
    intro i h
    obtain ⟨l, h1, h2, h3⟩ := ih (i + 1) (fun j hj => by have := h (j + 1) (by omega); rw [← this]; congr 1; congr 1; omega)
    have h0 : (elem i).length = es := h 0 (by omega)
    refine ⟨elem i ++ l, ?_, by rw [List.length_append, h0, h2, Nat.succ_mul]; omega, fun j k hj hk => ?_⟩
    · unfold rowsL
      rw [h0, Nat.beq_refl, h1]
      rfl
    · cases j with
      | zero =>
        rw [List.getElem?_append_left (by omega)]
        simp
      | succ j =>
        rw [List.getElem?_append_right (by rw [h0, Nat.succ_mul]; omega), h0, show (j + 1) * es + k - es = j * es + k by rw [Nat.succ_mul]; omega, h3 j k (by omega) hk]
        congr 2; omega
theorem selL_spec {z : List Value} {es : Nat} : ∀ (n : Nat) (cs : List Value) (j : Nat), n * es ≤ cs.length → j < n → (selL z es n cs j).length = es ∧ ∀ (k : Nat) (x : Value), (selL z es n cs j)[k]? = some x → ∃ v, cs[j * es + k]? = some v ∧ ∀ ρ y, VR ρ v y → VR ρ x y := by
  have take : ∀ (es : Nat) (cs : List Value), es ≤ cs.length → takeL es cs = some (cs.take es) := by
    intro es
    induction es with
    | zero => intro cs _; rfl
    | succ e ih =>
      intro cs h
      cases cs with
      | nil => simp at h
      | cons v l => simp only [takeL, ih l (by simpa using h)]; rfl
  intro n
  induction n with
  | zero => intro cs j _ h; omega
  | succ n ih =>
    intro cs j h hj
    have hm : (n + 1) * es = n * es + es := Nat.succ_mul _ _
    have ht := take es cs (by omega)
    have head : (cs.take es).length = es ∧ ∀ (k : Nat) (x : Value), (cs.take es)[k]? = some x → ∃ v, cs[k]? = some v ∧ ∀ ρ y, VR ρ v y → VR ρ x y := by
      refine ⟨by simp; omega, fun k x hx => ?_⟩
      rw [List.getElem?_take] at hx
      split at hx
      · exact ⟨x, hx, fun _ _ h => h⟩
      · cases hx
    cases n with
    | zero =>
      have hj0 : j = 0 := by omega
      subst hj0
      have e1 : selL z es (0 + 1) cs 0 = cs.take es := by
        show (match takeL es cs with | some e => e | none => z) = _
        rw [ht]
      rw [e1]
      refine ⟨head.1, fun k x hx => ?_⟩
      rw [Nat.zero_mul, Nat.zero_add]
      exact head.2 k x hx
    | succ n =>
      have e2 : selL z es (n + 1 + 1) cs j = mrgL (Nat.beq j 0) (cs.take es) (selL z es (n + 1) (dropL es cs) (j - 1)) := by
        show (match takeL es cs with | some e => mrgL (Nat.beq j 0) e (selL z es (n + 1) (dropL es cs) (j - 1)) | none => z) = _
        rw [ht]
      rw [e2]
      cases j with
      | zero =>
        have hb : Nat.beq 0 0 = true := rfl
        rw [hb]
        refine ⟨by rw [mrgL_true.1]; exact head.1, fun k x hx => ?_⟩
        obtain ⟨v, hv1, hv2⟩ := mrgL_true.2 k x hx
        obtain ⟨u, hu1, hu2⟩ := head.2 k v hv1
        refine ⟨u, by rw [Nat.zero_mul, Nat.zero_add]; exact hu1, fun ρ y h => hv2 ρ y (hu2 ρ y h)⟩
      | succ j =>
        have hb : Nat.beq (j + 1) 0 = false := rfl
        rw [hb, dropL_eq]
        obtain ⟨q1, q2⟩ := ih (cs.drop es) j (by simp; omega) (by omega)
        simp only [Nat.add_sub_cancel]
        refine ⟨by rw [mrgL_false.1]; exact q1, fun k x hx => ?_⟩
        obtain ⟨v, hv1, hv2⟩ := mrgL_false.2 k x hx
        obtain ⟨u, hu1, hu2⟩ := q2 k v hv1
        rw [List.getElem?_drop] at hu1
        refine ⟨u, ?_, fun ρ y h => hv2 ρ y (hu2 ρ y h)⟩
        rw [← hu1]; congr 1; rw [Nat.succ_mul]; omega
/-- what is appended, as elements -/
theorem srcF_run {P : Program} {ρ : Rho} {st : ASt} {w : World} {t2 elem : TypeId} {size n : Nat} {x x' zv : Value} {d2 : TypeDesc} {ii : TypeInfo} {z : List Value} {f : Nat → List Value}
    (hd2 : undL P t2 = .ok d2) (hs : sizeL P elem = .ok size) (hz : zeroL P elem = .ok z) (hzr : ∀ w, (zeroValue elem).run P w = .ok zv w) (hzl : zv.cells.toList = z) (hzg : z.all (ground 2) = true) (hi : P.info? elem = some ii) (hib : ii.bytes ≤ 1000000) (h3 : z.length = size)
    (hf : srcF P st d2 elem size z x = .ok (n, f)) (hX : VR ρ x x') (hw : WR ρ st.h.get w) :
    ∃ new', new'.length = n * size ∧ Src P w t2 elem size n zv x' new' ∧ (∀ v ∈ new', v.oneCell' = true) ∧ ∀ j, j < n → (f j).length = size ∧ ∀ (k : Nat) (u : Value), (f j)[k]? = some u → ∃ y, new'[j * size + k]? = some y ∧ VR ρ u y := by
  have lit : (newsL P st d2 elem size x).bnd (fun r => match r with | (n, l) => cond (l.all oneC) (.ok (n, selL z size n l)) (.er "append: cells")) = .ok (n, f) →
      ∃ new', new'.length = n * size ∧ Src P w t2 elem size n zv x' new' ∧ (∀ v ∈ new', v.oneCell' = true) ∧ ∀ j, j < n → (f j).length = size ∧ ∀ (k : Nat) (u : Value), (f j)[k]? = some u → ∃ y, new'[j * size + k]? = some y ∧ VR ρ u y := by
    intro h
    obtain ⟨⟨n', l'⟩, h1, h2⟩ := bnd_ok h
    obtain ⟨hall, h2⟩ := cond_ok h2
    cases h2
    obtain ⟨new', n1, nl, hsrc, n3⟩ := newsL_run (P := P) hd2 hs hz hzr hzl hzg hi hib h3 h1 hX hw
    refine ⟨new', nl, hsrc, n3 hall, fun j hj => ?_⟩
    obtain ⟨s1, s2⟩ := selL_spec (z := z) (es := size) n l' j (by rw [n1.1, nl]; exact Nat.le_refl _) hj
    refine ⟨s1, fun k u hu => ?_⟩
    obtain ⟨v, hv1, hv2⟩ := s2 k u hu
    obtain ⟨y, hy, hv⟩ := n1.get hv1
    exact ⟨y, hy, hv2 ρ y hv⟩
  unfold srcF at hf
  split at hf
  · rename_i b0 i0 m c
    split at hf
    · rename_i e2 own es lo mm g hg
      obtain ⟨c1, hf⟩ := cond_ok hf
      obtain ⟨c2, hf⟩ := cond_ok hf
      cases hf
      have hes : es = size := Nat.eq_of_beq_eq_true c1
      subst hes
      simp only [Bool.and_eq_true] at c2
      have k1 : lo ≤ i0 := Nat.le_of_ble_eq_true c2.1
      have k2 : i0 + n ≤ mm := Nat.le_of_ble_eq_true c2.2
      have hni : ∀ k, TypeDesc.slice e2 ≠ .int k := fun k e => by cases e
      have empty : ∀ (b : Option Addr) (c' : Nat), n = 0 → x' = .slice b 0 c' → ∃ new', new'.length = n * es ∧ Src P w t2 elem es n zv x' new' ∧ (∀ v ∈ new', v.oneCell' = true) ∧ ∀ j, j < n → (g (i0 + j)).length = es ∧ ∀ (k : Nat) (u : Value), (g (i0 + j))[k]? = some u → ∃ y, new'[j * es + k]? = some y ∧ VR ρ u y := by
        intro b c' hn hx'
        subst hn hx'
        refine ⟨[], by simp, Src.of_list hd2 hni hs hzr hi hib (fun w0 => rfl) (fun w1 _ => ?_), fun v hv => by simp at hv, fun j hj => by omega⟩
        have h0 : 0 * es = 0 := Nat.zero_mul _
        cases b <;> simp only [Builtin.firstCells, loadCells, h0] <;> rfl
      generalize hA : (Value.slice (some ⟨b0, 0, some i0⟩) n c) = X at hX
      cases hX with
      | sliceI _ _ s m' _ c' o' hsp hnc hcc hro hv ho =>
        cases hA
        obtain ⟨s', e1, f1, f2, f3, f4⟩ := hw.obj _ _ hg
        rw [hsp] at e1; cases e1
        obtain ⟨l, q1, q2, q3⟩ := rowsL_ex (es := es) (elem := g) n i0 (fun j hj => (f4 (i0 + j) (by omega) (by omega)).1)
        obtain ⟨l', r1, r2, r3⟩ := rows_rel f1 f4 n i0 l k1 k2 q1
        refine ⟨l', r2, Src.of_list hd2 hni hs hzr hi hib (fun w0 => rfl) (fun w1 hw1 => ?_), fun v hv => ?_, fun j hj => ⟨(f4 (i0 + j) (by omega) (by omega)).1, fun k u hu => ?_⟩⟩
        · by_cases h0 : n * es = 0
          · have : l' = [] := List.eq_nil_of_length_eq_zero (by rw [r2, h0])
            subst this
            simp only [Builtin.firstCells, loadCells, h0]
            rfl
          · have ho' : o' = s.base + i0 * s.es := by
              rcases ho with ho | ho
              · exact ho
              · exfalso
                have : n = 0 := by omega
                rw [this] at h0; simp at h0
            subst ho'
            have := run_loadCells_list (P := P) (w := w1) ⟨s.blk, s.base + i0 * s.es, none⟩ l' (fun j v hv => by
              have := r3 j v hv
              rw [add_at]
              unfold World.cell? at this ⊢
              rw [hw1]; exact this)
            rw [r2] at this
            simp only [Builtin.firstCells, this]
        · obtain ⟨q, hq⟩ := List.getElem?_of_mem hv
          have hlt := (List.getElem?_eq_some_iff.1 hq).1
          rw [r2] at hlt
          have hes : 0 < es := by
            rcases Nat.eq_zero_or_pos es with h | h
            · rw [h] at hlt; omega
            · exact h
          have hjn : q / es < n := Nat.div_lt_of_lt_mul (by rw [Nat.mul_comm]; exact hlt)
          have hdm := Nat.div_add_mod q es
          have hml := Nat.mod_lt q hes
          rw [Nat.mul_comm] at hdm
          generalize q / es = dd at hjn hdm
          generalize q % es = rr at hml hdm
          obtain ⟨z1, z2⟩ := f4 (i0 + dd) (by omega) (by omega)
          obtain ⟨y, y1, y2, _⟩ := z2 rr _ (List.getElem?_eq_getElem (by omega))
          have := r3 q v hq
          rw [f1] at y1 this
          rw [show s.base + (i0 + dd) * es + rr = s.base + i0 * es + q by rw [Nat.add_mul]; omega, this] at y1
          cases y1
          exact y2
        · have hk : k < es := by have h5 := (List.getElem?_eq_some_iff.1 hu).1; have := (f4 (i0 + j) (by omega) (by omega)).1; dsimp only at h5; omega
          have := q3 j k hj hk
          rw [hu] at this
          obtain ⟨y, hy, hv⟩ := r1.get this
          exact ⟨y, hy, hv⟩
      | sliceE => cases hA; exact empty _ _ rfl rfl
      | sliceN => cases hA; exact empty _ _ rfl rfl
      | sliceZ => cases hA; exact empty _ _ rfl rfl
      | _ => cases hA
    · cases hf
  · exact lit hf
/-- a new row -/
theorem Mv.rowNew {ρ : Rho} {g : Mem} {w w' : World} {n es m : Nat} {f : Nat → List Value} {C : Array Value} {t : TypeId} (hw : WR ρ g w) (hfn : ρ n = none) (hh : w'.heap = w.heap.push (.cells C t (0, 0))) (hm : m * es ≤ C.size)
    (hf : ∀ j, j < m → (f j).length = es ∧ ∀ (k : Nat) (u : Value), (f j)[k]? = some u → ∃ y, C[j * es + k]? = some y ∧ y.oneCell' = true ∧ VR ρ u y) (h1 : w'.os = w.os) (h2 : w'.tape = w.tape) (h3 : w'.output = w.output) :
    Mv ρ (upd ρ n (some ⟨w.heap.size, 0, false, es, C.size, false⟩)) g (upd g n (some (.row true es 0 m f))) n (n + 1) w w' := by
  have hat : w'.heap[w.heap.size]? = some (.cells C t (0, 0)) := by rw [hh]; simp
  refine Mv.alloc hw hfn _ rfl _ rfl (by rw [hh]; simp) (fun b hb => by rw [hh, Array.getElem?_push, if_neg (by omega)]) ⟨rfl, (fun h => by cases h), fun _ => ⟨rfl, rfl, fun _ => ⟨C, t, (0, 0), hat, rfl, .inl rfl, by simpa using hm⟩⟩, fun j _ hj => ⟨(hf j hj).1, fun k u hu => ?_⟩⟩ h1 h2 h3
  obtain ⟨y, y1, y2, y3⟩ := (hf j hj).2 k u hu
  refine ⟨y, ?_, y2, y3.mono (Sub.upd _ hfn)⟩
  rw [cell_row hat, Nat.zero_add]
  exact y1
/-- a new row of none -/
theorem Mv.rowVoid {ρ : Rho} {g : Mem} {w w' : World} {n es : Nat} {f : Nat → List Value} (hw : WR ρ g w) (hfn : ρ n = none) (hh : w'.heap = w.heap) (h1 : w'.os = w.os) (h2 : w'.tape = w.tape) (h3 : w'.output = w.output) :
    Mv ρ (upd ρ n (some ⟨0, 0, false, es, 0, true⟩)) g (upd g n (some (.row true es 0 0 f))) n (n + 1) w w' :=
  Mv.void hw hfn _ rfl _ rfl hh ⟨rfl, fun _ => Nat.le_refl _, fun _ => ⟨rfl, rfl, fun h => by cases h⟩, fun j _ hj => by omega⟩ h1 h2 h3
/-- the state behind an append of rows -/
theorem appR_sound {P : Program} {ρ : Rho} {st : ASt} {w : World} {t t2 elem ty : TypeId} {ts : List TypeId} {n len size by_ : Nat} {base : Option Addr} {cap : Nat} {x x' s' v : Value} {d2 : TypeDesc} {z : List Value} {f : Nat → List Value} {st' : ASt}
    (hd : undL P t = .ok (.slice elem)) (hd2 : undL P t2 = .ok d2) (hs : sizeL P elem = .ok size) (hby : bytesL P elem = .ok by_) (hz : zeroL P elem = .ok z) (hf : srcF P st d2 elem size z x = .ok (n, f))
    (h1 : len + n ≤ 1000000) (h2 : by_ ≤ 1000000) (h3 : z.length = size) (hr : aAppendR st size (.slice base len cap) n f = .ok (.val v st'))
    (hw : WR ρ st.h.get w) (hS : VR ρ (.slice base len cap) s') (hX : VR ρ x x') (hfr : Fresh ρ st.next (st.next + 1)) :
    ∃ ρ' v' w', (Builtin.append_ (t :: t2 :: ts).toArray ty #[s', x']).run P w = .ok v' w' ∧ VR ρ' v v' ∧ Mv ρ ρ' st.h.get st'.h.get st.next st'.next w w' := by
  obtain ⟨zv, z1, z2, z3⟩ := run_zeroL hz
  obtain ⟨ii, i1, i2⟩ : ∃ ii, P.info? elem = some ii ∧ ii.bytes = by_ := by
    unfold bytesL at hby
    split at hby
    · rename_i i e; cases hby; exact ⟨i, e, rfl⟩
    · cases hby
  have hzs : zv.cells.size = size := by rw [← h3, ← z1]; simp
  obtain ⟨new', nl, hsrc, n3, n4⟩ := srcF_run (P := P) hd2 hs hz z3 z1 z2 i1 (by omega) h3 hf hX hw
  have hzl : ∀ q, (Builtin.zeroCells zv.cells q).size = q * size := by intro q; simp [Builtin.zeroCells, hzs]
  have hfn : ρ st.next = none := hfr _ (Nat.le_refl _) (Nat.lt_succ_self _)
  -- behind nothing
  have nothing : ∀ (b : Option Addr) (g : Mem) (f : Nat → List Value), (∀ j, j < n → (f j).length = size ∧ ∀ (k : Nat) (u : Value), (f j)[k]? = some u → ∃ y, new'[j * size + k]? = some y ∧ VR ρ u y) → WR ρ g w → ∃ ρ' v' w', (Builtin.append_ (t :: t2 :: ts).toArray ty #[.slice b 0 0, x']).run P w = .ok v' w' ∧ (∀ c : Nat, (b = none → c = 1) → (b ≠ none → c = 0) → VR ρ' (.slice (some ⟨st.next, 0, some 0⟩) n c) v') ∧ Mv ρ ρ' g (upd g st.next (some (.row true size 0 n f))) st.next (st.next + 1) w w' := by
    intro b g f n4 hwg
    by_cases hn : n = 0
    · subst hn
      have hne : new' = [] := List.eq_nil_of_length_eq_zero (by rw [nl]; simp)
      subst hne
      have := hsrc.room t ty ts b 0 0 w hd (Nat.le_refl _) (fun a e => rfl) (fun _ => rfl)
      refine ⟨_, _, w, this, ?_, Mv.rowVoid hwg hfn rfl rfl rfl rfl⟩
      intro c h1 h2
      cases b with
      | none => rw [h1 rfl]; exact .sliceN _ _
      | some a => rw [h2 (by simp)]; exact .sliceZ _ _ a
    · obtain ⟨nc, g1, g2⟩ := hsrc.grow t ty ts b 0 0 [] hd (by omega) (by omega) (fun w1 _ => by
        have h0 : 0 * size = 0 := Nat.zero_mul _
        cases b <;> simp only [Builtin.firstCells, loadCells, h0] <;> rfl)
      simp only [Nat.zero_add] at g1 g2
      have hCs : ((#[] : Array Value) ++ new'.toArray ++ Builtin.zeroCells zv.cells (nc - n)).size = nc * size := by
        simp only [Array.size_append, List.size_toArray, nl, hzl, List.length_nil, Nat.zero_add]
        rw [← Nat.add_mul]; congr 1; omega
      refine ⟨_, _, _, g2, ?_, Mv.rowNew (C := (#[] : Array Value) ++ new'.toArray ++ Builtin.zeroCells zv.cells (nc - n)) (t := elem) hwg hfn rfl (by rw [hCs]; exact Nat.mul_le_mul_right _ g1) (fun j hj => ⟨(n4 j hj).1, fun k u hu => ?_⟩) rfl rfl rfl⟩
      · exact fun c _ _ => .sliceI st.next 0 _ _ _ nc 0 (upd_same _ _ _) g1 (fun _ => by omega) (fun _ => by rw [hCs]; simp) rfl (.inl (by simp))
      · obtain ⟨y, y1, y2⟩ := (n4 j hj).2 k u hu
        refine ⟨y, ?_, n3 y (List.mem_of_getElem? y1), y2⟩
        have hlt := (List.getElem?_eq_some_iff.1 y1).1
        rw [Array.empty_append, Array.getElem?_append_left (by simpa using hlt)]
        simpa using y1
  unfold aAppendR at hr
  split at hr
  · rename_i heq
    cases heq
    cases hr
    cases hS
    have : (st.new (.row true size 0 n f)).h.get = upd st.h.get st.next (some (.row true size 0 n f)) := by simp [ASt.new, set_get]
    rw [this]
    obtain ⟨ρ', v', w', p1, p2, p3⟩ := nothing none _ _ n4 hw
    exact ⟨ρ', v', w', p1, p2 1 (fun _ => rfl) (fun h => absurd rfl h), p3⟩
  · rename_i b0 o0 heq
    cases heq
    split at hr
    · rename_i cs es hg
      cases hr
      have : (st.new (.row true size 0 n f)).h.get = upd st.h.get st.next (some (.row true size 0 n f)) := by simp [ASt.new, set_get]
      rw [this]
      cases hS with
      | slice _ _ s _ _ c' o' hsp hn hc hxx hro hoo =>
        obtain ⟨s', e1, e2⟩ := hw.obj _ _ hg
        rw [hsp] at e1; cases e1
        have hcc := hxx e2.2.1
        subst hcc
        obtain ⟨ρ', v', w', p1, p2, p3⟩ := nothing (some ⟨s.blk, o', none⟩) _ _ n4 hw
        exact ⟨ρ', v', w', p1, p2 0 (fun h => by cases h) (fun _ => rfl), p3⟩
    · cases hr
  · rename_i b0 i0 len' cap' heq
    cases heq
    split at hr
    · rename_i es lo m g hg
      obtain ⟨c1, hr⟩ := cond_ok hr
      obtain ⟨c2, hr⟩ := cond_ok hr
      cases hr
      have hes : es = size := Nat.eq_of_beq_eq_true c1
      subst hes
      simp only [Bool.and_eq_true] at c2
      have k1 : lo ≤ i0 := Nat.le_of_ble_eq_true c2.1
      have k2 : i0 + len ≤ m := Nat.le_of_ble_eq_true c2.2
      have hgg : ((st.set b0 none).new (.row true es 0 (len + n) fun j => mrgL (Nat.blt j len) (g (i0 + j)) (f (j - len)))).h.get = upd (upd st.h.get b0 none) st.next (some (.row true es 0 (len + n) fun j => mrgL (Nat.blt j len) (g (i0 + j)) (f (j - len)))) := by
        simp [ASt.new, ASt.set, set_get]
      have hdrop := Mv.drop st.next b0 hw
      have empty : ∀ (b : Option Addr), len = 0 → (b = none → cap = 1) → (b ≠ none → cap = 0) → s' = .slice b 0 0 → ∃ ρ' v' w', (Builtin.append_ (t :: t2 :: ts).toArray ty #[s', x']).run P w = .ok v' w' ∧ VR ρ' (.slice (some ⟨st.next, 0, some 0⟩) (len + n) cap) v' ∧ Mv ρ ρ' st.h.get ((st.set b0 none).new (.row true es 0 (len + n) fun j => mrgL (Nat.blt j len) (g (i0 + j)) (f (j - len)))).h.get st.next (st.next + 1) w w' := by
        intro b hl hb1 hb2 hs'
        subst hl hs'
        obtain ⟨ρ', v', w', p1, p2, p3⟩   := nothing b _ (fun j => mrgL (Nat.blt j 0) (g (i0 + j)) (f (j - 0))) (fun j hj => by
          have hb : Nat.blt j 0 = false := rfl
          simp only [Nat.sub_zero, hb]
          refine ⟨by rw [mrgL_false.1]; exact (n4 j hj).1, fun k u hu => ?_⟩
          obtain ⟨u2, hu2, hu3⟩ := mrgL_false.2 k u hu
          obtain ⟨y, y1, y2⟩ := (n4 j hj).2 k u2 hu2
          exact ⟨y, y1, hu3 ρ y y2⟩) hdrop.wr
        refine ⟨ρ', v', w', p1, by rw [Nat.zero_add]; exact p2 cap hb1 hb2, ?_⟩
        rw [hgg]
        have p4 := hdrop.trans p3
        rw [Nat.zero_add]
        exact p4
      cases hS with
      | sliceI _ _ s _ _ c' o' hsp hnc hcc hro hv ho =>
        obtain ⟨s'', e1, f1, f2, f3, f4⟩ := hw.obj _ _ hg
        rw [hsp] at e1; cases e1
        obtain ⟨x1, x2, x3⟩ := f3 rfl
        obtain ⟨C0, t0, fr0, e3, e4, e5, e6⟩ := x3 hv
        have hro' := hro x1
        rw [f1] at hro'
        have hold : ∀ j, j < len → (g (i0 + j)).length = es ∧ ∀ (k : Nat) (u : Value), (g (i0 + j))[k]? = some u → ∃ y, C0[o' + j * es + k]? = some y ∧ y.oneCell' = true ∧ VR ρ u y := by
          intro j hj
          obtain ⟨a1, a2⟩ := f4 (i0 + j) (by omega) (by omega)
          refine ⟨a1, fun k u hu => ?_⟩
          obtain ⟨y, y1, y2, y3⟩ := a2 k u hu
          rw [cell_row e3, f1] at y1
          have ho' : o' = s.base + i0 * es := by rcases ho with ho | ho; rw [ho, f1]; omega
          refine ⟨y, ?_, y2, y3⟩
          rw [← y1]; congr 1; rw [ho', Nat.add_mul]; omega
        by_cases hroom : len + n ≤ c'
        · have hmul : (len + n) * es ≤ c' * es := Nat.mul_le_mul_right _ hroom
          rw [Nat.add_mul] at hmul
          obtain ⟨C', w', q1, q2, q3, q4, q5, q6, q7, q8, q9⟩ := run_storeCells_row P s.blk (o' + len * es) t0 fr0 new' 0 C0 w e3 e5.free (by rw [nl]; omega) n3
          have := hsrc.room t ty ts (some ⟨s.blk, o', none⟩) len c' w' hd hroom (by intro a e; cases e; rw [add_at]; exact q1) (by intro e; cases e)
          refine ⟨upd ρ st.next (some ⟨s.blk, o', false, es, s.room, false⟩), _, w', this, ?_, ?_⟩
          · exact .sliceI st.next 0 ⟨s.blk, o', false, es, s.room, false⟩ _ _ c' o' (upd_same _ _ _) hroom (fun h => by have := hcc h; omega) (fun _ => hro') rfl (.inl (by simp))
          · rw [hgg]
            refine Mv.turn hw hfn hg rfl hsp hv _ rfl _ (.inr ⟨rfl, q5, q6⟩) ⟨rfl, (fun h => by cases h), fun _ => ⟨rfl, rfl, fun _ => ⟨C', t0, fr0, q2, q3.trans e4, by rw [q3]; exact e5, ?_⟩⟩, fun j _ hj => ?_⟩ q7 q8 q9
            · rw [Nat.add_mul]; show o' + _ ≤ s.room; omega
            · have hsub : Sub ρ (upd ρ st.next (some ⟨s.blk, o', false, es, s.room, false⟩)) := Sub.upd _ hfn
              have hk : ∀ k, k < es → j * es + k < j * es + es := fun k h => by omega
              by_cases hjl : j < len
              · have hb : Nat.blt j len = true := by simpa using hjl
                dsimp only
                rw [hb]
                refine ⟨by rw [mrgL_true.1]; exact (hold j hjl).1, fun k u hu => ?_⟩
                obtain ⟨u2, hu2, hu3⟩ := mrgL_true.2 k u hu
                have hkes : k < es := by have := (List.getElem?_eq_some_iff.1 hu2).1; have := (hold j hjl).1; omega
                obtain ⟨y, y1, y2, y3⟩ := (hold j hjl).2 k u2 hu2
                have hjm : j * es + es ≤ len * es := by have := Nat.mul_le_mul_right es (Nat.succ_le_of_lt hjl); rw [Nat.succ_mul] at this; exact this
                refine ⟨y, ?_, y2, (hu3 ρ y y3).mono hsub⟩
                rw [cell_row q2, q4, if_neg (by omega)]
                exact y1
              · have hb : Nat.blt j len = false := by
                  cases hb : Nat.blt j len with
                  | true => exact absurd (by simpa using hb) hjl
                  | false => rfl
                dsimp only
                rw [hb]
                have hjn : j - len < n := by omega
                refine ⟨by rw [mrgL_false.1]; exact (n4 _ hjn).1, fun k u hu => ?_⟩
                obtain ⟨u2, hu2, hu3⟩ := mrgL_false.2 k u hu
                obtain ⟨y, y1, y2⟩ := (n4 _ hjn).2 k u2 hu2
                have hlt := (List.getElem?_eq_some_iff.1 y1).1
                have hjm : j * es = len * es + (j - len) * es := by rw [← Nat.add_mul]; congr 1; omega
                refine ⟨y, ?_, n3 y (List.mem_of_getElem? y1), (hu3 ρ y y2).mono hsub⟩
                rw [cell_row q2, q4, if_pos (by omega), ← y1]
                congr 1; omega
        · obtain ⟨l, p1, p2, p3⟩ := rowsL_ex (es := es) (elem := g) len i0 (fun j hj => (hold j hj).1)
          obtain ⟨old', r1, r2, r3⟩ := rows_rel f1 f4 len i0 l k1 k2 p1
          obtain ⟨nc, g1, g2⟩ := hsrc.grow t ty ts (some ⟨s.blk, o', none⟩) len c' old' hd hroom (by omega) (fun w1 hw1 => by
            by_cases h0 : len * es = 0
            · have : old' = [] := List.eq_nil_of_length_eq_zero (by rw [r2, h0])
              subst this
              simp only [Builtin.firstCells, loadCells, h0]
              rfl
            · have ho' : o' = s.base + i0 * s.es := by
                rcases ho with ho | ho
                · exact ho
                · exfalso
                  have : len = 0 := by omega
                  rw [this] at h0; simp at h0
              subst ho'
              have := run_loadCells_list (P := P) (w := w1) ⟨s.blk, s.base + i0 * s.es, none⟩ old' (fun j v hv => by
                have := r3 j v hv
                rw [add_at]
                unfold World.cell? at this ⊢
                rw [hw1]; exact this)
              rw [r2] at this
              simp only [Builtin.firstCells, this])
          have hCs : (old'.toArray ++ new'.toArray ++ Builtin.zeroCells zv.cells (nc - (len + n))).size = nc * es := by
            simp only [Array.size_append, List.size_toArray, nl, hzl, r2]
            rw [← Nat.add_mul, ← Nat.add_mul]; congr 1; omega
          have hat : ∀ (q : Nat) (y : Value), (old' ++ new')[q]? = some y → (old'.toArray ++ new'.toArray ++ Builtin.zeroCells zv.cells (nc - (len + n)))[q]? = some y := by
            intro q y hq
            have hlt := (List.getElem?_eq_some_iff.1 hq).1
            rw [Array.getElem?_append_left (by simpa using hlt)]
            rw [List.append_toArray]
            simpa using hq
          refine ⟨upd ρ st.next (some ⟨w.heap.size, 0, false, es, (old'.toArray ++ new'.toArray ++ Builtin.zeroCells zv.cells (nc - (len + n))).size, false⟩), _, _, g2, ?_, ?_⟩
          rotate_left
          · rw [hgg]
            exact hdrop.trans (Mv.rowNew (C := old'.toArray ++ new'.toArray ++ Builtin.zeroCells zv.cells (nc - (len + n))) (t := elem) hdrop.wr hfn rfl (by rw [hCs]; exact Nat.mul_le_mul_right _ g1) (fun j hj => by
              by_cases hjl : j < len
              · have hb : Nat.blt j len = true := by simpa using hjl
                try dsimp only
                rw [hb]
                refine ⟨by rw [mrgL_true.1]; exact (hold j hjl).1, fun k u hu => ?_⟩
                obtain ⟨u2, hu2, hu3⟩ := mrgL_true.2 k u hu
                have hkes : k < es := by have := (List.getElem?_eq_some_iff.1 hu2).1; have := (hold j hjl).1; omega
                have hl := p3 j k hjl hkes
                rw [hu2] at hl
                obtain ⟨y, y1, y3⟩ := r1.get hl
                have hjm : j * es + es ≤ len * es := by have := Nat.mul_le_mul_right es (Nat.succ_le_of_lt hjl); rw [Nat.succ_mul] at this; exact this
                have y2 : y.oneCell' = true := by
                  obtain ⟨y', a1, a2, _⟩ := (f4 (i0 + j) (by omega) (by omega)).2 k u2 hu2
                  have := r3 (j * es + k) y y1
                  rw [f1] at a1 this
                  rw [show s.base + (i0 + j) * es + k = s.base + i0 * es + (j * es + k) by rw [Nat.add_mul]; omega, this] at a1
                  cases a1; exact a2
                refine ⟨y, hat _ _ ?_, y2, hu3 ρ y y3⟩
                rw [List.getElem?_append_left (by rw [r2]; omega)]
                exact y1
              · have hb : Nat.blt j len = false := by
                  cases hb : Nat.blt j len with
                  | true => exact absurd (by simpa using hb) hjl
                  | false => rfl
                try dsimp only
                rw [hb]
                have hjn : j - len < n := by omega
                refine ⟨by rw [mrgL_false.1]; exact (n4 _ hjn).1, fun k u hu => ?_⟩
                obtain ⟨u2, hu2, hu3⟩ := mrgL_false.2 k u hu
                obtain ⟨y, y1, y2⟩ := (n4 _ hjn).2 k u2 hu2
                have hjm : j * es = len * es + (j - len) * es := by rw [← Nat.add_mul]; congr 1; omega
                refine ⟨y, hat _ _ ?_, n3 y (List.mem_of_getElem? y1), hu3 ρ y y2⟩
                rw [List.getElem?_append_right (by rw [r2]; omega), ← y1, r2]
                congr 1; omega) rfl rfl rfl)
          · exact .sliceI st.next 0 _ _ _ nc 0 (upd_same _ _ _) g1 (fun h => by have := hcc h; omega) (fun _ => by rw [hCs]; simp) rfl (.inl (by simp))
      | sliceE _ _ c' xx s hsp hex =>
        obtain ⟨s'', e1, f1, f2, f3, f4⟩ := hw.obj _ _ hg
        rw [hsp] at e1; cases e1
        have := (f3 rfl).1
        rw [hex] at this; cases this
      | sliceN => exact empty _ rfl (fun _ => rfl) (fun h => absurd rfl h) rfl
      | sliceZ => exact empty _ rfl (fun h => by cases h) (fun _ => rfl) rfl
    · cases hr
  · cases hr
end Go.Proofs.Ytokpobfimphhgaa.Ev
