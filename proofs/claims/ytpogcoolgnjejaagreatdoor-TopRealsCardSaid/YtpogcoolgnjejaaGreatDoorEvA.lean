/-
  What the evaluator says of append holds of its runs.
-/
import Derived.Test.YtpogcoolgnjejaaGreatDoorGb
set_option linter.unusedVariables false
set_option linter.unusedSimpArgs false
namespace Go.Proofs.YtpogcoolgnjejaaGreatDoor.Ev
open Go

theorem growBy_le (need : Nat) : ∀ (r c : Nat), c ≤ need + (need + 768) / 4 → Builtin.growBy need r c ≤ need + (need + 768) / 4 := by
  intro r
  induction r with
  | zero => intro c h; exact h
  | succ r ih =>
    intro c h
    simp only [Builtin.growBy]
    split
    · exact h
    · exact ih _ (by omega)
theorem nextcap_le (need old : Nat) (h : old < need) : Builtin.nextslicecap need old ≤ 2 * need + 1000 := by
  unfold Builtin.nextslicecap
  split
  · omega
  · split
    · omega
    · have := growBy_le need 4 old (by omega)
      omega
theorem cut_cap (need old e t : Nat) (h : need ≤ 1000000) : ∃ nc, (Question.appendCap need old e).cut t = nc ∧ need ≤ nc := ⟨_, rfl, by simp only [Question.cut]; omega⟩

/-- append, where it grows -/
theorem append_grow {P : Program} {w : World} {t t2 elem ty : TypeId} {ts : List TypeId} {base : Option Addr} {sLen sCap n size : Nat} {x' : Value} {d2 : TypeDesc} {ii : TypeInfo} {zv : Value} {old new : List Value}
    (hd : undL P t = .ok (.slice elem)) (hd2 : undL P t2 = .ok d2) (hni : ∀ k, d2 ≠ .int k) (hs : sizeL P elem = .ok size) (hz : ∀ w, (zeroValue elem).run P w = .ok zv w) (hi : P.info? elem = some ii) (hib : ii.bytes ≤ 1000000)
    (hl : ∀ w0, (Builtin.lenOf x').run P w0 = .ok n w0) (hgrow : ¬ sLen + n ≤ sCap) (hneed : sLen + n ≤ 1000000)
    (ho : ∀ w1, w1.heap = w.heap → (Builtin.firstCells size sLen (.slice base sLen sCap)).run P w1 = .ok old.toArray w1) (hn : ∀ w1, w1.heap = w.heap → (Builtin.firstCells size n x').run P w1 = .ok new.toArray w1) :
    ∃ nc, sLen + n ≤ nc ∧ (Builtin.append_ (t :: t2 :: ts).toArray ty #[.slice base sLen sCap, x']).run P w =
      .ok (.slice (some ⟨w.heap.size, 0, none⟩) (sLen + n) nc) (w.drew.alloc (.cells (old.toArray ++ new.toArray ++ Builtin.zeroCells zv.cells (nc - (sLen + n))) elem)) := by
  have hq : ∀ e w, (choose (.appendCap (sLen + n) sCap e)).run P w = .ok ((Question.appendCap (sLen + n) sCap e).cut (w.tape w.drawn (.appendCap (sLen + n) sCap e))) w.drew := by
    intro e w
    simp [run_choose_drew, Question.forced]
  obtain ⟨nc, hnc, hle⟩ := cut_cap (sLen + n) sCap elem (w.tape w.drawn (.appendCap (sLen + n) sCap elem)) hneed
  have hq1 := hq elem w
  rw [hnc] at hq1
  refine ⟨nc, hle, ?_⟩
  have hti : (typeInfo elem).run P w = .ok ii w := by simp [typeInfo, hi]
  have hti2 : (typeInfo elem).run P w.drew = .ok ii w.drew := by simp [typeInfo, hi]
  have hmax : IntKind.i64.max = 9223372036854775807 := by decide
  have c1 : ¬ (((sLen + n : Nat) : Int) > IntKind.i64.max ∧ (ii.bytes = 0)) := by rw [hmax]; omega
  have c1' : ¬ (((sLen + n : Nat) : Int) > IntKind.i64.max ∧ ((false = true) ∨ ii.bytes = 0)) := by rw [hmax]; omega
  have c2 : ¬ (Builtin.nextslicecap (sLen + n) sCap * ii.bytes > 2 ^ 48) := by
    have h1 := nextcap_le (sLen + n) sCap (by omega)
    have h2 : Builtin.nextslicecap (sLen + n) sCap * ii.bytes ≤ (2 * (sLen + n) + 1000) * 1000000 := Nat.mul_le_mul h1 hib
    omega
  have ho1 := ho w.drew rfl
  have hn1 := hn w.drew rfl
  have hz1 := hz w.drew
  have hh : w.drew.heap.size = w.heap.size := rfl
  cases d2 <;> first
    | exact absurd rfl (hni _)
    | (simp only [Builtin.append_, List.getElem?_toArray, List.getElem?_cons_zero, List.getElem?_cons_succ, Sem.run_bind, run_und hd, run_und hd2, Result.andThen_ok, run_sizeL hs, Sem.run_pure, hl, Bool.false_eq_true, if_false, hgrow, Sem.run_ite, hti, c1, c1', c2, hq1, hti2, run_askRoom, ho1, hn1, hz1, Bool.not_false, if_true, newRow, run_newObj_alloc, false_or, or_self, Bool.not_true, hh])
/-- append, where there is room -/
theorem append_room {P : Program} {w w' : World} {t t2 elem ty : TypeId} {ts : List TypeId} {base : Option Addr} {sLen sCap n size : Nat} {x' : Value} {d2 : TypeDesc} {new : List Value}
    (hd : undL P t = .ok (.slice elem)) (hd2 : undL P t2 = .ok d2) (hni : ∀ k, d2 ≠ .int k) (hs : sizeL P elem = .ok size)
    (hl : ∀ w0, (Builtin.lenOf x').run P w0 = .ok n w0) (hroom : sLen + n ≤ sCap) (hn : (Builtin.firstCells size n x').run P w = .ok new.toArray w)
    (hst : ∀ a, base = some a → (storeCells (a.add (sLen * size)) new 0).run P w = .ok () w') (hb : base = none → w' = w) :
    (Builtin.append_ (t :: t2 :: ts).toArray ty #[.slice base sLen sCap, x']).run P w = .ok (.slice base (sLen + n) sCap) w' := by
  cases base with
  | none =>
    rw [hb rfl]
    cases d2 <;> first
      | exact absurd rfl (hni _)
      | (simp only [Builtin.append_, List.getElem?_toArray, List.getElem?_cons_zero, List.getElem?_cons_succ, Sem.run_bind, run_und hd, run_und hd2, Result.andThen_ok, run_sizeL hs, Sem.run_pure, hl, Bool.false_eq_true, if_false, hroom, Sem.run_ite, hn, Bool.not_false, if_true]; done)
      | (simp only [Builtin.append_, List.getElem?_toArray, List.getElem?_cons_zero, List.getElem?_cons_succ, Sem.run_bind, run_und hd, run_und hd2, Result.andThen_ok, run_sizeL hs, Sem.run_pure, hl, Bool.false_eq_true, if_false, hroom, Sem.run_ite, hn, Bool.not_false, if_true]; rfl)
  | some a =>
    have hst1 := hst a rfl
    cases d2 <;> first
      | exact absurd rfl (hni _)
      | (simp only [Builtin.append_, List.getElem?_toArray, List.getElem?_cons_zero, List.getElem?_cons_succ, Sem.run_bind, run_und hd, run_und hd2, Result.andThen_ok, run_sizeL hs, Sem.run_pure, hl, Bool.false_eq_true, if_false, hroom, Sem.run_ite, hn, Bool.not_false, if_true, hst1]; done)
      | (simp only [Builtin.append_, List.getElem?_toArray, List.getElem?_cons_zero, List.getElem?_cons_succ, Sem.run_bind, run_und hd, run_und hd2, Result.andThen_ok, run_sizeL hs, Sem.run_pure, hl, Bool.false_eq_true, if_false, hroom, Sem.run_ite, hn, Bool.not_false, if_true, hst1]; rfl)

/-- what is appended, and what comes of it -/
structure Src (P : Program) (w : World) (t2 elem : TypeId) (size n : Nat) (zv x' : Value) (new : List Value) : Prop where
  room : ∀ (t ty : TypeId) (ts : List TypeId) (base : Option Addr) (sLen sCap : Nat) (w' : World), undL P t = .ok (.slice elem) → sLen + n ≤ sCap → (∀ a, base = some a → (storeCells (a.add (sLen * size)) new 0).run P w = .ok () w') → (base = none → w' = w) →
    (Builtin.append_ (t :: t2 :: ts).toArray ty #[.slice base sLen sCap, x']).run P w = .ok (.slice base (sLen + n) sCap) w'
  grow : ∀ (t ty : TypeId) (ts : List TypeId) (base : Option Addr) (sLen sCap : Nat) (old : List Value), undL P t = .ok (.slice elem) → ¬ sLen + n ≤ sCap → sLen + n ≤ 1000000 → (∀ w1, w1.heap = w.heap → (Builtin.firstCells size sLen (.slice base sLen sCap)).run P w1 = .ok old.toArray w1) →
    ∃ nc, sLen + n ≤ nc ∧ (Builtin.append_ (t :: t2 :: ts).toArray ty #[.slice base sLen sCap, x']).run P w =
      .ok (.slice (some ⟨w.heap.size, 0, none⟩) (sLen + n) nc) (w.drew.alloc (.cells (old.toArray ++ new.toArray ++ Builtin.zeroCells zv.cells (nc - (sLen + n))) elem))
theorem Src.of_list {P : Program} {w : World} {t2 elem : TypeId} {n size : Nat} {x' : Value} {d2 : TypeDesc} {ii : TypeInfo} {zv : Value} {new : List Value}
    (hd2 : undL P t2 = .ok d2) (hni : ∀ k, d2 ≠ .int k) (hs : sizeL P elem = .ok size) (hz : ∀ w, (zeroValue elem).run P w = .ok zv w) (hi : P.info? elem = some ii) (hib : ii.bytes ≤ 1000000)
    (hl : ∀ w0, (Builtin.lenOf x').run P w0 = .ok n w0) (hn : ∀ w1, w1.heap = w.heap → (Builtin.firstCells size n x').run P w1 = .ok new.toArray w1) : Src P w t2 elem size n zv x' new :=
  ⟨fun t ty ts base sLen sCap w' hd hroom hst hb => append_room hd hd2 hni hs hl hroom (hn w rfl) hst hb,
    fun t ty ts base sLen sCap old hd hgrow hneed ho => append_grow hd hd2 hni hs hz hi hib hl hgrow hneed ho hn⟩
/-- of so many that are nothing yet -/
theorem Src.of_make {P : Program} {w : World} {t2 elem : TypeId} {n size : Nat} {k k2 : IntKind} {ii : TypeInfo} {zv : Value} {new : List Value}
    (hd2 : undL P t2 = .ok (.int k)) (hs : sizeL P elem = .ok size) (hz : ∀ w, (zeroValue elem).run P w = .ok zv w) (hi : P.info? elem = some ii) (hib : ii.bytes ≤ 1000000)
    (hn : n ≤ 1000000) (h0 : n * size = 0 → new = []) (h1 : n * size ≠ 0 → new.toArray = Builtin.zeroCells zv.cells n) : Src P w t2 elem size n zv (.int k2 (.ofNat n)) new := by
  have hwr := wrap_small n hn
  have hti : ∀ w, (typeInfo elem).run P w = .ok ii w := fun w => by simp [typeInfo, hi]
  have hmax : IntKind.i64.max = 9223372036854775807 := by decide
  have c0 : ¬ ((n : Int) < 0) := by omega
  have c3 : ¬ ((n : Int) * (ii.bytes : Int) > 2 ^ 48) := by
    have h : n * ii.bytes ≤ 1000000 * 1000000 := Nat.mul_le_mul hn hib
    have : ((n : Int) * (ii.bytes : Int)) = ((n * ii.bytes : Nat) : Int) := by simp
    rw [this]; omega
  have hz1 := fun w => hz w
  have app : ∀ w, (if n * size = 0 then (pure #[] : Sem (Array Value)) else (zeroValue elem).bind fun z => pure (Builtin.zeroCells z.cells n)).run P w = .ok new.toArray w := by
    intro w
    split
    · rename_i h; rw [h0 h]; rfl
    · rename_i h
      show ((zeroValue elem) >>= fun z => pure (Builtin.zeroCells z.cells n)).run P w = _
      rw [Sem.run_bind, hz, h1 h]; rfl
  refine ⟨fun t ty ts base sLen sCap w' hd hroom hst hb => ?_, fun t ty ts base sLen sCap old hd hgrow hneed ho => ?_⟩
  · by_cases hq : n * size = 0
    · have hne := h0 hq
      subst hne
      cases base with
      | none =>
        rw [hb rfl]
        simp only [Builtin.append_, List.getElem?_toArray, List.getElem?_cons_zero, List.getElem?_cons_succ, Sem.run_bind, run_und hd, run_und hd2, Result.andThen_ok, run_sizeL hs, Sem.run_pure, hti, asInt, asIntOf, hwr, c0, c3, if_false, Int.toNat_natCast, hroom, Sem.run_ite, if_true, hq, Bool.not_true, Bool.false_eq_true]
      | some a =>
        have hst1 := hst a rfl
        simp only [Builtin.append_, List.getElem?_toArray, List.getElem?_cons_zero, List.getElem?_cons_succ, Sem.run_bind, run_und hd, run_und hd2, Result.andThen_ok, run_sizeL hs, Sem.run_pure, hti, asInt, asIntOf, hwr, c0, c3, if_false, Int.toNat_natCast, hroom, Sem.run_ite, if_true, hq, Bool.not_true, Bool.false_eq_true, hst1]
    · have hne := h1 hq
      cases base with
      | none =>
        rw [hb rfl]
        simp only [Builtin.append_, List.getElem?_toArray, List.getElem?_cons_zero, List.getElem?_cons_succ, Sem.run_bind, run_und hd, run_und hd2, Result.andThen_ok, run_sizeL hs, Sem.run_pure, hti, asInt, asIntOf, hwr, c0, c3, if_false, Int.toNat_natCast, hroom, Sem.run_ite, if_true, hq, Bool.not_true, Bool.false_eq_true, hz, ← hne]
      | some a =>
        have hst1 := hst a rfl
        simp only [Builtin.append_, List.getElem?_toArray, List.getElem?_cons_zero, List.getElem?_cons_succ, Sem.run_bind, run_und hd, run_und hd2, Result.andThen_ok, run_sizeL hs, Sem.run_pure, hti, asInt, asIntOf, hwr, c0, c3, if_false, Int.toNat_natCast, hroom, Sem.run_ite, if_true, hq, Bool.not_true, Bool.false_eq_true, hz, ← hne, hst1]
  · have hqq : ∀ e w, (choose (.appendCap (sLen + n) sCap e)).run P w = .ok ((Question.appendCap (sLen + n) sCap e).cut (w.tape w.drawn (.appendCap (sLen + n) sCap e))) w.drew := by
      intro e w
      simp [run_choose_drew, Question.forced]
    obtain ⟨nc, hnc, hle⟩ := cut_cap (sLen + n) sCap elem (w.tape w.drawn (.appendCap (sLen + n) sCap elem)) hneed
    have hq1 := hqq elem w
    rw [hnc] at hq1
    refine ⟨nc, hle, ?_⟩
    have cA : ¬ (((sLen + n : Nat) : Int) > IntKind.i64.max) := by rw [hmax]; omega
    have c2 : ¬ (Builtin.nextslicecap (sLen + n) sCap * ii.bytes > 2 ^ 48) := by
      have h1 := nextcap_le (sLen + n) sCap (by omega)
      have h2 : Builtin.nextslicecap (sLen + n) sCap * ii.bytes ≤ (2 * (sLen + n) + 1000) * 1000000 := Nat.mul_le_mul h1 hib
      omega
    have ho1 := ho w.drew rfl
    have hh : w.drew.heap.size = w.heap.size := rfl
    by_cases hq : n * size = 0
    · have hne := h0 hq
      subst hne
      simp only [Builtin.append_, List.getElem?_toArray, List.getElem?_cons_zero, List.getElem?_cons_succ, Sem.run_bind, run_und hd, run_und hd2, Result.andThen_ok, run_sizeL hs, Sem.run_pure, hti, asInt, asIntOf, hwr, c0, c3, if_false, Int.toNat_natCast, hgrow, Sem.run_ite, if_true, hq, Bool.not_true, Bool.false_eq_true, cA, c2, false_and, hq1, run_askRoom, ho1, hz, newRow, run_newObj_alloc, hh]
    · have hne := h1 hq
      simp only [Builtin.append_, List.getElem?_toArray, List.getElem?_cons_zero, List.getElem?_cons_succ, Sem.run_bind, run_und hd, run_und hd2, Result.andThen_ok, run_sizeL hs, Sem.run_pure, hti, asInt, asIntOf, hwr, c0, c3, if_false, Int.toNat_natCast, hgrow, Sem.run_ite, if_true, hq, Bool.not_true, Bool.false_eq_true, cA, c2, false_and, hq1, run_askRoom, ho1, hz, newRow, run_newObj_alloc, hh, ← hne]
/-- the source of an append -/
theorem newsL_run {P : Program} {ρ : Rho} {st : ASt} {w : World} {t2 elem : TypeId} {size n : Nat} {x x' zv : Value} {d2 : TypeDesc} {ii : TypeInfo} {new z : List Value}
    (hd2 : undL P t2 = .ok d2) (hs : sizeL P elem = .ok size) (hz : zeroL P elem = .ok z) (hzr : ∀ w, (zeroValue elem).run P w = .ok zv w) (hzl : zv.cells.toList = z) (hzg : z.all (ground 2) = true) (hi : P.info? elem = some ii) (hib : ii.bytes ≤ 1000000) (h3 : z.length = size)
    (hf : newsL P st d2 elem size x = .ok (n, new)) (hX : VR ρ x x') (hw : WR ρ st.h.get w) :
    ∃ new', VRL ρ new new' ∧ new'.length = n * size ∧ Src P w t2 elem size n zv x' new' ∧ (new.all oneC = true → ∀ v ∈ new', v.oneCell' = true) := by
  have lst : (∀ k, d2 ≠ .int k) → firstL st size x = .ok (n, new) → ∃ new', VRL ρ new new' ∧ new'.length = n * size ∧ Src P w t2 elem size n zv x' new' ∧ (new.all oneC = true → ∀ v ∈ new', v.oneCell' = true) := by
    intro hni h
    obtain ⟨fl, new', n1, nl, n2, n3⟩ := firstL_run (P := P) h hX hw
    exact ⟨new', n1, nl, Src.of_list hd2 hni hs hzr hi hib fl n2, n3⟩
  unfold newsL at hf
  split at hf
  · rename_i k
    split at hf
    · rename_i k2 m
      obtain ⟨hm, hf⟩ := cond_ok hf
      obtain ⟨z', e1, e2⟩ := bnd_ok hf
      rw [hz] at e1
      cases e1
      cases e2
      cases hX
      have hzs : zv.cells.size = size := by rw [← h3, ← hzl]; simp
      refine ⟨repL z n, ground_list (n := 2) ?_, by rw [repL_len, h3], Src.of_make hd2 hs hzr hi hib (Nat.le_of_ble_eq_true hm) (fun h0 => List.eq_nil_of_length_eq_zero (by rw [repL_len, h3, h0])) (fun h0 => ?_), oneC_list (ρ := ρ) (ground_list (n := 2) ?_)⟩
      · exact repL_all hzg n
      · have hr := rep_rel (ρ := ρ) (z := z) (zc := zv.cells) (n := n) (N := n * zv.cells.size) (ground_list hzg) (fun _ => hzl) (by rw [hzs, h3])
        apply Array.toList_inj.1
        apply List.ext_getElem?
        intro i
        have hlen := hr.1
        cases hx : (repL z n)[i]? with
        | none =>
          rw [List.getElem?_eq_none_iff] at hx
          symm
          show (Builtin.zeroCells zv.cells n).toList[i]? = none
          rw [List.getElem?_eq_none_iff]
          unfold Builtin.zeroCells
          omega
        | some v =>
          obtain ⟨y, hy, hv⟩ := hr.get hx
          have hg := repL_all hzg n
          rw [List.all_eq_true] at hg
          rw [VR.ground 2 (hg v (List.mem_of_getElem? hx)) hv] at hy
          exact hy.symm
      · exact repL_all hzg n
    · cases hf
  · rename_i hni
    exact lst (fun k e => hni k e) hf

/-- the state behind an append -/
theorem app_sound {P : Program} {ρ : Rho} {st : ASt} {w : World} {t t2 elem ty : TypeId} {ts : List TypeId} {base : Option Addr} {len cap n size by_ : Nat} {x x' s' v : Value} {d2 : TypeDesc} {new z : List Value} {st' : ASt}
    (hd : undL P t = .ok (.slice elem)) (hd2 : undL P t2 = .ok d2) (hs : sizeL P elem = .ok size) (hby : bytesL P elem = .ok by_) (hz : zeroL P elem = .ok z) (hf : newsL P st d2 elem size x = .ok (n, new))
    (h1 : len + n ≤ 1000000) (h2 : by_ ≤ 1000000) (h3 : z.length = size)
    (hr : (cond (Nat.ble (len + n) cap)
        (match base with
          | none => .ok (.val (.slice none len cap) st)
          | some ⟨b0, o0, none⟩ => (st.writeC ((⟨b0, o0, none⟩ : Addr).add (len * size)) new).bnd fun st' => .ok (.val (.slice (some ⟨b0, o0, none⟩) (len + n) cap) st')
          | some _ => .er "append: row")
        (match base with
          | none => .ok (.val (.slice (some ⟨st.next, 0, none⟩) n n) (st.new (.cells new false size)))
          | some ⟨b0, o0, none⟩ => (st.readC ⟨b0, o0, none⟩ (len * size)).bnd fun old => match st.h.get b0 with
            | some (.cells _ true _) => .ok (.val (.slice (some ⟨st.next, 0, none⟩) (len + n) (len + n)) (st.new (.cells (old ++ new) false size)))
            | some (.cells _ false es) => cond (Nat.beq es size && new.all oneC) (.ok (.val (.slice (some ⟨st.next, 0, none⟩) (len + n) (len + n)) ((st.set b0 none).new (.cells (old ++ new) false size)))) (.er "append: size")
            | _ => .er "append: row"
          | some _ => .er "append: row") : Rs AN) = .ok (.val v st'))
    (hw : WR ρ st.h.get w) (hS : VR ρ (.slice base len cap) s') (hX : VR ρ x x') (hfr : Fresh ρ st.next st'.next) :
    ∃ ρ' v' w', (Builtin.append_ (t :: t2 :: ts).toArray ty #[s', x']).run P w = .ok v' w' ∧ VR ρ' v v' ∧ Mv ρ ρ' st.h.get st'.h.get st.next st'.next w w' := by
  obtain ⟨zv, z1, z2, z3⟩ := run_zeroL hz
  obtain ⟨ii, i1, i2⟩ : ∃ ii, P.info? elem = some ii ∧ ii.bytes = by_ := by
    unfold bytesL at hby
    split at hby
    · rename_i i e; cases hby; exact ⟨i, e, rfl⟩
    · cases hby
  have hzs : zv.cells.size = size := by rw [← h3, ← z1]; simp
  have hib : ii.bytes ≤ 1000000 := by omega
  obtain ⟨new', n1, nl, hsrc, n3⟩ := newsL_run (P := P) hd2 hs hz z3 z1 z2 i1 hib h3 hf hX hw
  have hzl : ∀ q, (Builtin.zeroCells zv.cells q).size = q * size := by intro q; simp [Builtin.zeroCells, hzs]
  cases hb : Nat.ble (len + n) cap with
  | true =>
    have hle : len + n ≤ cap := Nat.le_of_ble_eq_true hb
    rw [hb] at hr
    simp only [cond_true] at hr
    cases base with
    | none =>
      cases hr
      cases hS
      have hn0 : n = 0 := by omega
      subst hn0
      have := hsrc.room t ty ts none 0 0 w hd (by omega) (by intro a e; cases e) (fun _ => rfl)
      exact ⟨ρ, _, w, this, .sliceNil, Mv.refl hw _⟩
    | some a =>
      obtain ⟨b0, o0, sp⟩ := a
      cases sp with
      | some i => cases hr
      | none =>
      simp only at hr
      obtain ⟨st1, r1, r2⟩ := bnd_ok hr
      cases r2
      have hall := writeC_oneC r1
      cases hS with
      | slice _ _ s _ _ c' o' hsp hn hc hxx hro hoo =>
        obtain ⟨w', k1, k2⟩ := writeC_rel (P := P) r1 hw (s := s) (by
          simp only [Addr.add]; split <;> exact hsp) n1 (n3 hall)
        have hlocA : locOf s ((⟨b0, o0, none⟩ : Addr).add (len * size)) = s.base + (o0 + len * size) := by rw [add_at]; rfl
        rw [hlocA] at k1
        have hst : ∀ a, some (⟨s.blk, o', none⟩ : Addr) = some a → (storeCells (a.add (len * size)) new' 0).run P w = .ok () w' := by
          intro a e
          cases e
          rcases hoo with hoo | hoo
          · rw [add_at, hoo, ← k1, Nat.add_assoc]
          · have hn0 : n = 0 := by omega
            have : new' = [] := List.eq_nil_of_length_eq_zero (by rw [nl, hn0]; simp)
            subst this
            exact k1
        have := hsrc.room t ty ts (some ⟨s.blk, o', none⟩) len c' w' hd (by omega) hst (by intro e; cases e)
        exact ⟨ρ, _, w', this, .slice b0 o0 s _ _ c' o' hsp hle hc hxx hro hoo, k2⟩
  | false =>
    have hgt : ¬ len + n ≤ cap := fun h => by rw [Nat.ble_eq_true_of_le h] at hb; cases hb
    rw [hb] at hr
    simp only [cond_false] at hr
    -- where it grows
    have grow : ∀ (base' : Option Addr) (sCap : Nat) (old old' : List Value), VRL ρ old old' → old'.length = len * size → ¬ len + n ≤ sCap →
        (∀ w1 : World, w1.heap = w.heap → (Builtin.firstCells size len (.slice base' len sCap)).run P w1 = .ok old'.toArray w1) →
        ∃ nc C, len + n ≤ nc ∧ C.size = nc * size ∧ VRL ρ (old ++ new) (C.toList.take (old ++ new).length) ∧
          (Builtin.append_ (t :: t2 :: ts).toArray ty #[.slice base' len sCap, x']).run P w = .ok (.slice (some ⟨w.heap.size, 0, none⟩) (len + n) nc) (w.drew.alloc (.cells C elem)) := by
      intro base' sCap old old' o1 o2 o3 o4
      obtain ⟨nc, g1, g2⟩ := hsrc.grow t ty ts base' len sCap old' hd o3 h1 o4
      refine ⟨nc, _, g1, ?_, ?_, g2⟩
      · simp only [Array.size_append, List.size_toArray, o2, nl, hzl]
        rw [← Nat.add_mul, ← Nat.add_mul]
        congr 1
        omega
      · have : (old'.toArray ++ new'.toArray ++ Builtin.zeroCells zv.cells (nc - (len + n))).toList = (old' ++ new') ++ (Builtin.zeroCells zv.cells (nc - (len + n))).toList := by simp
        have hlen : (old ++ new).length = (old' ++ new').length := by simp [o1.1, n1.1]
        rw [this, hlen, List.take_left']
        · exact o1.append n1
        · rfl
    cases base with
    | none =>
      cases hr
      cases hS
      obtain ⟨nc, C, g1, g2, g3, g4⟩ := grow none 0 [] [] (VRL.nil ρ) (by simp) hgt (fun w1 _ => by simp [Builtin.firstCells])
      simp only [Nat.zero_add, List.nil_append] at g1 g3 g4
      exact ⟨_, _, _, g4, slice_new rfl (Nat.le_refl _) g1 (fun h => by cases h) (fun _ => by show nc * size ≤ C.size; omega), Mv.row (C := C) (t := elem) false size (0, 0) hw hfr g3 (.inl rfl) rfl rfl rfl rfl⟩
    | some a =>
      obtain ⟨b0, o0, sp⟩ := a
      cases sp with
      | some i => cases hr
      | none =>
      simp only at hr
      obtain ⟨old, r1, r2⟩ := bnd_ok hr
      cases hS with
      | slice _ _ s _ _ c' o' hsp hn hc hxx hro hoo =>
        obtain ⟨old', q1, q2, q3⟩ := readC_rel r1 hw hsp
        simp only [locOf] at q3
        have hfc : ∀ w1 : World, w1.heap = w.heap → (Builtin.firstCells size len (.slice (some ⟨s.blk, o', none⟩) len c')).run P w1 = .ok old'.toArray w1 := by
          intro w1 e
          by_cases h0 : len * size = 0
          · have : old' = [] := List.eq_nil_of_length_eq_zero (by rw [q2, h0])
            subst this
            simp only [Builtin.firstCells, loadCells, h0]
            rfl
          · have ho' : o' = s.base + o0 := by
              rcases hoo with hoo | hoo
              · exact hoo
              · exfalso
                have : len = 0 := by omega
                rw [this] at h0; simp at h0
            subst ho'
            have := run_loadCells_list (P := P) (w := w1) ⟨s.blk, s.base + o0, none⟩ old' (fun j v hv => by
              have := q3 j v hv
              unfold World.cell? at this ⊢
              rw [e]; exact this)
            rw [q2] at this
            simp only [Builtin.firstCells, this]
        split at r2
        · rename_i cs es hg
          cases r2
          obtain ⟨s', e1, e2⟩ := hw.obj _ _ hg
          rw [hsp] at e1; cases e1
          have hcc := hxx e2.2.1
          obtain ⟨nc, C, g1, g2, g3, g4⟩ := grow (some ⟨s.blk, o', none⟩) c' old old' q1 q2 (by omega) hfc
          exact ⟨_, _, _, g4, slice_new rfl (Nat.le_refl _) g1 (fun h => by cases h) (fun _ => by show nc * size ≤ C.size; omega), Mv.row (C := C) (t := elem) false size (0, 0) hw hfr g3 (.inl rfl) rfl rfl rfl rfl⟩
        · rename_i cs es hg
          obtain ⟨c1, c2⟩ := cond_ok r2
          simp only [Bool.and_eq_true] at c1
          have hes : es = size := Nat.eq_of_beq_eq_true c1.1
          subst hes
          cases c2
          obtain ⟨s', e1, e2⟩ := hw.obj _ _ hg
          rw [hsp] at e1; cases e1
          obtain ⟨x0, x1, x2, C0, t0, fr0, e3, e4, e5, e6, e7⟩ := e2
          have hfn : ρ st.next = none := hfr _ (Nat.le_refl _) (Nat.lt_succ_self _)
          have hgg : ((st.set b0 none).new (.cells (old ++ new) false es)).h.get = upd (upd st.h.get b0 none) st.next (some (.cells (old ++ new) false es)) := by
            simp [ASt.new, ASt.set, set_get]
          have hro' := hro x1
          rw [x2] at hro'
          by_cases hroom : len + n ≤ c'
          · -- in its place
            have ho' : o' = s.base + o0 ∨ (len = 0 ∧ n = 0) := by
              rcases hoo with hoo | hoo
              · exact .inl hoo
              · exact .inr ⟨by omega, by omega⟩
            have hob : o' = s.base + o0 := by
              rcases hoo with hoo | hoo
              · exact hoo
              · omega
            have hmul : (len + n) * es ≤ c' * es := Nat.mul_le_mul_right _ hroom
            rw [Nat.add_mul] at hmul
            obtain ⟨C', w', k1, k2, k3, k4, k5, k6, k7, k8, k9⟩ := run_storeCells_row P s.blk (o' + len * es) t0 fr0 new' 0 C0 w e3 e5.free (by rw [nl]; omega) (n3 c1.2)
            have := hsrc.room t ty ts (some ⟨s.blk, o', none⟩) len c' w' hd hroom (by intro a e; cases e; rw [add_at]; exact k1) (by intro e; cases e)
            refine ⟨upd ρ st.next (some ⟨s.blk, o', false, es, s.room, false, nofz⟩), _, w', this, ?_, ?_⟩
            · exact .slice st.next 0 ⟨s.blk, o', false, es, s.room, false, nofz⟩ _ _ c' o' (upd_same _ _ _) (Nat.le_refl _) hroom (fun h => by cases h) (fun _ => hro') (.inl rfl)
            · show Mv _ _ _ _ st.next (st.next + 1) _ _
              rw [hgg]
              refine Mv.turn hw hfn hg rfl hsp x0 _ rfl _ (fun _ h => h) (.inr ⟨rfl, k5, k6⟩) ⟨rfl, rfl, rfl, C', t0, fr0, k2, k3.trans e4, by rw [k3]; exact e5, ?_, fun i x hx => ?_⟩ k7 k8 k9
              · simp only [List.length_append, q1.1, n1.1, q2, nl]; omega
              · rw [k4]
                have hsub : Sub ρ (upd ρ st.next (some ⟨s.blk, o', false, es, s.room, false, nofz⟩)) := Sub.upd _ hfn
                have hol : old.length = len * es := q1.1.trans q2
                have hnl : new.length = n * es := n1.1.trans nl
                rcases Nat.lt_or_ge i old.length with hi | hi
                · rw [List.getElem?_append_left hi] at hx
                  simp only
                  rw [if_neg (by omega)]
                  obtain ⟨y, hy, hv⟩ := q1.get hx
                  have := q3 i y hy
                  rw [add_at, cell_row e3] at this
                  exact ⟨y, by rw [hob]; exact this, hv.mono hsub⟩
                · rw [List.getElem?_append_right hi] at hx
                  obtain ⟨y, hy, hv⟩ := n1.get hx
                  have hilt := (List.getElem?_eq_some_iff.1 hx).1
                  simp only
                  rw [if_pos (by omega), show o' + i - (o' + len * es + 0) = i - old.length by omega]
                  exact ⟨y, hy, hv.mono hsub⟩
          · obtain ⟨nc, C, g1, g2, g3, g4⟩ := grow (some ⟨s.blk, o', none⟩) c' old old' q1 q2 hroom hfc
            refine ⟨upd ρ st.next (some ⟨w.heap.size, 0, false, es, C.size, false, nofz⟩), _, _, g4, slice_new rfl (Nat.le_refl _) g1 (fun h => by cases h) (fun _ => by show nc * es ≤ C.size; omega), ?_⟩
            show Mv _ _ _ _ st.next (st.next + 1) _ _
            rw [hgg]
            refine Mv.turn hw hfn hg rfl hsp x0 _ rfl _ (fun _ h => h) (.inl ⟨rfl, by simp, fun b hb => RowKit.Below.heap_alloc w.drew _ _ hb⟩) ⟨rfl, rfl, rfl, C, elem, (0, 0), by show (w.heap.push _)[w.heap.size]? = _; simp, rfl, .inl rfl, ?_, fun i x hx => ?_⟩ rfl rfl rfl
            · have := g3.1; simp at this ⊢; omega
            · obtain ⟨y, hy, hv⟩ := g3.get hx
              rw [List.getElem?_take] at hy
              split at hy
              · exact ⟨y, by rw [Nat.zero_add]; simpa using hy, hv.mono (Sub.upd _ hfn)⟩
              · cases hy
        · cases r2

theorem slice_form {ρ : Rho} {b : Option Addr} {n c : Nat} {x' : Value} (h : VR ρ (.slice b n c) x') : ∃ b' c', x' = .slice b' n c' := by
  cases h <;> exact ⟨_, _, rfl⟩
theorem zT_rel {ρ : Rho} {v : Value} (h : zOk v = true) (hv : VR ρ v v) (w : World) (F : Nat → Prop) : TR w F (zT v) v ∧ v.oneCell' = true := by
  unfold zOk at h
  unfold zT
  split at h
  · exact ⟨.inl ⟨rfl, rfl, rfl⟩, rfl⟩
  · exact scalT_rel h hv
/-! ### rows of which it is left open how long they are -/
/-- what is appended, as elements -/
theorem srcF_run {P : Program} {ρ : Rho} {st st1 : ASt} {w : World} {t2 elem : TypeId} {size n : Nat} {x x' zv : Value} {d2 : TypeDesc} {ii : TypeInfo} {z : List Value} {f : Nat → Nat → Td}
    (hd2 : undL P t2 = .ok d2) (hs : sizeL P elem = .ok size) (hz : zeroL P elem = .ok z) (hzr : ∀ w, (zeroValue elem).run P w = .ok zv w) (hzl : zv.cells.toList = z) (hzg : z.all (ground 2) = true) (hi : P.info? elem = some ii) (hib : ii.bytes ≤ 1000000) (h3 : z.length = size)
    (hf : srcF P st d2 elem size x = .ok (n, f, st1)) (hX : VR ρ x x') (hw : WR ρ st.h.get w) (hfr : Fresh ρ st.next st1.next) :
    ∃ ρ1, Mv ρ ρ1 st.h.get st1.h.get st.next st1.next w w ∧ ∃ new', new'.length = n * size ∧ Src P w t2 elem size n zv x' new' ∧ (∀ v ∈ new', v.oneCell' = true) ∧ ∀ j, j < n → ∀ k, k < size → ∃ y, new'[j * size + k]? = some y ∧ TR w (Frz ρ1) (f j k) y := by
  have lit : (newsL P st d2 elem size x).bnd (fun r => match r with | (n, l) => (toTs (toT 4) l st).bnd fun q => match q with
      | (ts, st1) => .ok (n, selT size n ts, st1)) = .ok (n, f, st1) →
      ∃ ρ1, Mv ρ ρ1 st.h.get st1.h.get st.next st1.next w w ∧ ∃ new', new'.length = n * size ∧ Src P w t2 elem size n zv x' new' ∧ (∀ v ∈ new', v.oneCell' = true) ∧ ∀ j, j < n → ∀ k, k < size → ∃ y, new'[j * size + k]? = some y ∧ TR w (Frz ρ1) (f j k) y := by
    intro h
    obtain ⟨⟨n', l'⟩, h1, h2⟩ := bnd_ok h
    obtain ⟨⟨ts, st2⟩, h4, h5⟩ := bnd_ok h2
    cases h5
    obtain ⟨new', n1, nl, hsrc, n3⟩ := newsL_run (P := P) hd2 hs hz hzr hzl hzg hi hib h3 h1 hX hw
    obtain ⟨_, b2⟩ := toTs_rel (toT_rel 4) _ _ _ _ h4
    obtain ⟨ρ1, m1, t1, o1⟩ := b2 n1 hw hfr
    refine ⟨ρ1, m1, new', nl, hsrc, o1, fun j hj k hk => ?_⟩
    have hjk : j * size + k < n * size := by
      have := Nat.mul_le_mul_right size (Nat.succ_le_of_lt hj)
      rw [Nat.succ_mul] at this; omega
    have htl : j * size + k < ts.length := by rw [t1.1, nl]; exact hjk
    have ht : ts[j * size + k]? = some ts[j * size + k] := List.getElem?_eq_getElem htl
    obtain ⟨y, hy, hty⟩ := t1.get ht
    exact ⟨y, hy, selT_rel n ts j k _ _ hj hk ht hty⟩
  unfold srcF at hf
  split at hf
  · rename_i k m
    split at hf
    · rename_i k2
      obtain ⟨c1, hf⟩ := cond_ok hf
      obtain ⟨z', e1, hf⟩ := bnd_ok hf
      rw [hz] at e1
      cases e1
      obtain ⟨c2, hf⟩ := cond_ok hf
      cases hf
      have hnl : newsL P st (.int k2) elem size (.int k (.ofNat n)) = .ok (n, repL z n) := by simp only [newsL, c1, cond_true, hz, Rs.bnd]
      obtain ⟨new', n1, nl, hsrc, n3⟩ := newsL_run (P := P) hd2 hs hz hzr hzl hzg hi hib h3 hnl hX hw
      have key : ∀ j, j < n → ∀ k, k < size → ∃ y, new'[j * size + k]? = some y ∧ TR w (Frz ρ) (nthT (z.map zT) k) y ∧ y.oneCell' = true := fun j hj k hk => by
        have hlt : j * size + k < n * size := by
          have := Nat.mul_le_mul_right size (Nat.succ_le_of_lt hj)
          rw [Nat.succ_mul] at this; omega
        have hzk : k < z.length := by omega
        have hm : (j * size + k) % z.length = k := by rw [h3, Nat.add_comm, Nat.add_mul_mod_self_right, Nat.mod_eq_of_lt hk]
        have hx : (repL z n)[j * size + k]? = some z[k] := by
          rw [repL_get, if_pos (by rw [h3]; exact hlt), hm, List.getElem?_eq_getElem hzk]
        obtain ⟨y, hy, hv⟩ := n1.get hx
        have hg : ground 2 z[k] = true := by rw [List.all_eq_true] at hzg; exact hzg _ (List.getElem_mem hzk)
        have hyz : y = z[k] := VR.ground 2 hg hv
        subst hyz
        have hzo : zOk z[k] = true := by rw [List.all_eq_true] at c2; exact c2 _ (List.getElem_mem hzk)
        have := zT_rel hzo (VR.refl (ρ := ρ) 2 hg) w (Frz ρ)
        rw [nthT_eq (z.map zT) k (zT z[k]) (by simp [hzk])]
        exact ⟨_, hy, this.1, this.2⟩
      refine ⟨ρ, Mv.refl hw _, new', nl, hsrc, fun v hv => ?_, fun j hj k hk => ?_⟩
      · obtain ⟨q, hq⟩ := List.getElem?_of_mem hv
        have hql := (List.getElem?_eq_some_iff.1 hq).1
        rw [nl] at hql
        have hsz : 0 < size := by
          rcases Nat.eq_zero_or_pos size with h | h
          · rw [h] at hql; omega
          · exact h
        obtain ⟨y, y1, _, y3⟩ := key (q / size) (Nat.div_lt_of_lt_mul (by rw [Nat.mul_comm]; exact hql)) (q % size) (Nat.mod_lt _ hsz)
        have hdm := Nat.div_add_mod q size
        rw [Nat.mul_comm] at hdm
        rw [hdm, hq] at y1
        cases y1
        exact y3
      · obtain ⟨y, y1, y2, _⟩ := key j hj k hk
        exact ⟨y, y1, y2⟩
    · cases hf
  · rename_i b0 i0 m c
    split at hf
    · rename_i e2 own es lo mm g hg
      obtain ⟨c1, hf⟩ := cond_ok hf
      obtain ⟨c2, hf⟩ := cond_ok hf
      cases hf
      simp only [Bool.and_eq_true] at c2
      have k1 : lo ≤ i0 := Nat.le_of_ble_eq_true c2.1
      have k2 : i0 + n ≤ mm := Nat.le_of_ble_eq_true c2.2
      have hni : ∀ k, TypeDesc.slice e2 ≠ .int k := fun k e => by cases e
      have empty : ∀ (b : Option Addr) (c' : Nat), n = 0 → x' = .slice b 0 c' → ∃ ρ1, Mv ρ ρ1 st.h.get st.h.get st.next st.next w w ∧ ∃ new', new'.length = n * size ∧ Src P w t2 elem size n zv x' new' ∧ (∀ v ∈ new', v.oneCell' = true) ∧ ∀ j, j < n → ∀ k, k < size → ∃ y, new'[j * size + k]? = some y ∧ TR w (Frz ρ1) (g (i0 + j) k) y := by
        intro b c' hn hx'
        subst hn hx'
        refine ⟨ρ, Mv.refl hw _, [], by simp, Src.of_list hd2 hni hs hzr hi hib (fun w0 => rfl) (fun w1 _ => ?_), fun v hv => by simp at hv, fun j hj => by omega⟩
        have h0 : 0 * size = 0 := Nat.zero_mul _
        cases b <;> simp only [Builtin.firstCells, loadCells, h0] <;> rfl
      rw [Bool.or_eq_true] at c1
      rcases c1 with c1 | c1
      rotate_left
      · have hn0 : n = 0 := Nat.eq_of_beq_eq_true c1
        subst hn0
        obtain ⟨b', c', rfl⟩ := slice_form hX
        exact empty _ _ rfl rfl
      have hes : es = size := Nat.eq_of_beq_eq_true c1
      subst hes
      generalize hA : (Value.slice (some ⟨b0, 0, some i0⟩) n c) = X at hX
      cases hX with
      | sliceI _ _ s m' _ c' o' hsp hnc hcc hro hv ho =>
        cases hA
        obtain ⟨s', e1, f1, f2, f3, fz, f4⟩ := hw.obj _ _ hg
        rw [hsp] at e1; cases e1
        obtain ⟨q1, q2⟩ := rowsT_get es g n i0
        have hdec : ∀ j, j < n * es → ∃ dd rr, dd < n ∧ rr < es ∧ j = dd * es + rr := by
          intro j hlt
          have hes : 0 < es := by
            rcases Nat.eq_zero_or_pos es with h | h
            · rw [h] at hlt; omega
            · exact h
          have hdm := Nat.div_add_mod j es
          rw [Nat.mul_comm] at hdm
          exact ⟨j / es, j % es, Nat.div_lt_of_lt_mul (by rw [Nat.mul_comm]; exact hlt), Nat.mod_lt j hes, hdm.symm⟩
        obtain ⟨l', r1, r4, r3⟩ := gather (w := w) (F := Frz ρ) (b := s.blk) (o := s.base + i0 * s.es) (ts := rowsT es g i0 n) (fun j t ht => by
          have hlt := (List.getElem?_eq_some_iff.1 ht).1
          rw [q1] at hlt
          obtain ⟨dd, rr, hjn, hml, rfl⟩ := hdec j hlt
          rw [q2 dd rr hjn hml] at ht
          cases ht
          obtain ⟨y, y1, y2, y3⟩ := f4 (i0 + dd) (by omega) (by omega) rr hml
          refine ⟨y, ?_, y2, y3⟩
          rw [← y1, f1]; congr 2; rw [Nat.add_mul]; omega)
        have r2 : l'.length = n * es := by rw [← r1.1, q1]
        refine ⟨ρ, Mv.refl hw _, l', r2, Src.of_list hd2 hni hs hzr hi hib (fun w0 => rfl) (fun w1 hw1 => ?_), r4, fun j hj k hk => ?_⟩
        · by_cases h0 : n * es = 0
          · have : l' = [] := List.eq_nil_of_length_eq_zero (by rw [r2, h0])
            subst this
            simp only [Builtin.firstCells, loadCells, h0]
            rfl
          · have ho' : o' = s.base + i0 * s.es := by
              rcases ho with ho | ho
              · exact ho
              · exfalso
                have : n = 0 := by omega
                rw [this] at h0; simp at h0
            subst ho'
            have := run_loadCells_list (P := P) (w := w1) ⟨s.blk, s.base + i0 * s.es, none⟩ l' (fun j v hv => by
              have := r3 j v hv
              rw [add_at]
              unfold World.cell? at this ⊢
              rw [hw1]; exact this)
            rw [r2] at this
            simp only [Builtin.firstCells, this]
        · exact r1.get (q2 j k hj hk)
      | sliceE => cases hA; exact empty _ _ rfl rfl
      | sliceN => cases hA; exact empty _ _ rfl rfl
      | sliceZ => cases hA; exact empty _ _ rfl rfl
      | _ => cases hA
    · cases hf
  · rename_i str
    split at hf
    · obtain ⟨c1, hf⟩ := cond_ok hf
      cases hf
      have hes : size = 1 := Nat.eq_of_beq_eq_true c1
      subst hes
      have hnl : newsL P st .string elem 1 (.string str) = .ok (str.size, str.data.toList.map fun b => .int .u8 b.toNat) := rfl
      obtain ⟨new', n1, nl, hsrc, n3⟩ := newsL_run (P := P) hd2 hs hz hzr hzl hzg hi hib h3 hnl hX hw
      have key : ∀ j, j < str.size → ∃ y, new'[j]? = some y ∧ TR w (Frz ρ) (.sc (.int .u8 (Int.ofNat (strB str j)))) y ∧ y.oneCell' = true := fun j hj => by
        have hjl : j < str.data.toList.length := by simpa using hj
        have hx : (str.data.toList.map fun b => Value.int .u8 b.toNat)[j]? = some (.int .u8 (Int.ofNat (strB str j))) := by
          rw [List.getElem?_map, List.getElem?_eq_getElem hjl]
          simp only [strB, List.getD, List.getElem?_eq_getElem hjl, Option.map_some, Option.getD_some]
          rfl
        obtain ⟨y, hy, hv⟩ := n1.get hx
        have hyz : y = .int .u8 (Int.ofNat (strB str j)) := VR.ground 2 rfl hv
        subst hyz
        have := zT_rel (v := .int .u8 (Int.ofNat (strB str j))) rfl (VR.refl (ρ := ρ) 2 rfl) w (Frz ρ)
        exact ⟨_, hy, this.1, this.2⟩
      refine ⟨ρ, Mv.refl hw _, new', nl, hsrc, fun v hv => ?_, fun j hj k hk => ?_⟩
      · obtain ⟨q, hq⟩ := List.getElem?_of_mem hv
        have hql := (List.getElem?_eq_some_iff.1 hq).1
        rw [nl, Nat.mul_one] at hql
        obtain ⟨y, y1, _, y3⟩ := key q hql
        rw [hq] at y1
        cases y1
        exact y3
      · have : k = 0 := by omega
        subst this
        obtain ⟨y, y1, y2, _⟩ := key j hj
        exact ⟨y, by rw [Nat.mul_one, Nat.add_zero]; exact y1, y2⟩
    · cases hf
  · exact lit hf
theorem srcX_run {P : Program} {ρ : Rho} {st st1 : ASt} {w : World} {t2 elem : TypeId} {size n : Nat} {x x' zv : Value} {d2 : TypeDesc} {ii : TypeInfo} {z : List Value} {f : Nat → Nat → Td}
    (hd2 : undL P t2 = .ok d2) (hs : sizeL P elem = .ok size) (hz : zeroL P elem = .ok z) (hzr : ∀ w, (zeroValue elem).run P w = .ok zv w) (hzl : zv.cells.toList = z) (hzg : z.all (ground 2) = true) (hi : P.info? elem = some ii) (hib : ii.bytes ≤ 1000000) (h3 : z.length = size)
    (hf : srcX P st d2 elem size x = .ok (n, f, st1)) (hX : VR ρ x x') (hw : WR ρ st.h.get w) (hfr : Fresh ρ st.next st1.next) :
    ∃ ρ1, Mv ρ ρ1 st.h.get st1.h.get st.next st1.next w w ∧ ∃ new', new'.length = n * size ∧ Src P w t2 elem size n zv x' new' ∧ (∀ v ∈ new', v.oneCell' = true) ∧ ∀ j, j < n → ∀ k, k < size → ∃ y, new'[j * size + k]? = some y ∧ TR w (Frz ρ1) (f j k) y := by
  unfold srcX at hf
  cases hb : dustB elem with
  | false => rw [hb] at hf; exact srcF_run (P := P) hd2 hs hz hzr hzl hzg hi hib h3 hf hX hw hfr
  | true =>
    rw [hb] at hf
    simp only [cond_true] at hf
    unfold srcD at hf
    obtain ⟨⟨n', l'⟩, h1, h2⟩ := bnd_ok hf
    obtain ⟨c1, h2⟩ := cond_ok h2
    cases h2
    obtain ⟨new', n1, nl, hsrc, n3⟩ := newsL_run (P := P) hd2 hs hz hzr hzl hzg hi hib h3 h1 hX hw
    refine ⟨ρ, Mv.refl hw _, new', nl, hsrc, n3 c1, fun j hj k hk => ?_⟩
    have hj : j < n' := hj
    have hjk : j * size + k < n' * size := by
      have := Nat.mul_le_mul_right size (Nat.succ_le_of_lt hj)
      rw [Nat.succ_mul] at this; omega
    have hlt : j * size + k < new'.length := by rw [nl]; exact hjk
    exact ⟨new'[j * size + k], List.getElem?_eq_getElem hlt, .any _⟩
theorem srcF_lo {P : Program} {st st1 : ASt} {elem : TypeId} {size n : Nat} {x : Value} {d2 : TypeDesc} {f : Nat → Nat → Td} (hf : srcF P st d2 elem size x = .ok (n, f, st1)) : LoS st st1 := by
  unfold srcF at hf
  split at hf
  · split at hf
    · obtain ⟨c1, hf⟩ := cond_ok hf
      obtain ⟨z', e1, hf⟩ := bnd_ok hf
      obtain ⟨c2, hf⟩ := cond_ok hf
      cases hf
      exact LoS.refl _
    · cases hf
  · split at hf
    · obtain ⟨c1, hf⟩ := cond_ok hf
      obtain ⟨c2, hf⟩ := cond_ok hf
      cases hf
      exact LoS.refl _
    · cases hf
  · split at hf
    · obtain ⟨c1, hf⟩ := cond_ok hf
      cases hf
      exact LoS.refl _
    · cases hf
  · obtain ⟨⟨n', l'⟩, h1, h2⟩ := bnd_ok hf
    obtain ⟨⟨ts, st2⟩, h4, h5⟩ := bnd_ok h2
    cases h5
    exact (toTs_rel (toT_rel 4) _ _ _ _ h4).1
theorem srcX_lo {P : Program} {st st1 : ASt} {elem : TypeId} {size n : Nat} {x : Value} {d2 : TypeDesc} {f : Nat → Nat → Td} (hf : srcX P st d2 elem size x = .ok (n, f, st1)) : LoS st st1 := by
  unfold srcX at hf
  cases hb : dustB elem with
  | false => rw [hb] at hf; exact srcF_lo hf
  | true =>
    rw [hb] at hf
    simp only [cond_true] at hf
    unfold srcD at hf
    obtain ⟨⟨n', l'⟩, h1, h2⟩ := bnd_ok hf
    obtain ⟨c1, h2⟩ := cond_ok h2
    cases h2
    exact LoS.refl _
/-- a new row -/
theorem Mv.rowNew {ρ : Rho} {g : Mem} {w w' : World} {n es m : Nat} {f : Nat → Nat → Td} {C : Array Value} {t : TypeId} (hw : WR ρ g w) (hfn : ρ n = none) (hh : w'.heap = w.heap.push (.cells C t (0, 0))) (hm : m * es ≤ C.size)
    (hf : ∀ j, j < m → ∀ k, k < es → ∃ y, C[j * es + k]? = some y ∧ y.oneCell' = true ∧ TR w (Frz ρ) (f j k) y) (h1 : w'.os = w.os) (h2 : w'.tape = w.tape) (h3 : w'.output = w.output) :
    Mv ρ (upd ρ n (some ⟨w.heap.size, 0, false, es, C.size, false, nofz⟩)) g (upd g n (some (.row .mine es 0 m f))) n (n + 1) w w' := by
  have hat : w'.heap[w.heap.size]? = some (.cells C t (0, 0)) := by rw [hh]; simp
  have hold : ∀ b, b < w.heap.size → w'.heap[b]? = w.heap[b]? := fun b hb => by rw [hh, Array.getElem?_push, if_neg (by omega)]
  refine Mv.alloc hw hfn _ rfl _ (fun _ h => h) rfl (by rw [hh]; simp) hold ⟨rfl, (fun h => by cases h), fun _ => ⟨rfl, rfl, fun _ => ⟨C, t, (0, 0), hat, rfl, .inl rfl, by simpa using hm⟩⟩, (fun h => by cases h), fun j _ hj k hk => ?_⟩ h1 h2 h3
  obtain ⟨y, y1, y2, y3⟩ := hf j hj k hk
  refine ⟨y, ?_, y2, y3.kept (fun b => Frz.mono (Sub.upd _ hfn)) (fun b hb => hold b (hw.fz b hb).1)⟩
  rw [cell_row hat, Nat.zero_add]
  exact y1
/-- a new row of none -/
theorem Mv.rowVoid {ρ : Rho} {g : Mem} {w w' : World} {n es : Nat} {f : Nat → Nat → Td} (hw : WR ρ g w) (hfn : ρ n = none) (hh : w'.heap = w.heap) (h1 : w'.os = w.os) (h2 : w'.tape = w.tape) (h3 : w'.output = w.output) :
    Mv ρ (upd ρ n (some ⟨0, 0, false, es, 0, true, nofz⟩)) g (upd g n (some (.row .mine es 0 0 f))) n (n + 1) w w' :=
  Mv.void hw hfn _ _ (fun _ h => h) (.inl rfl) hh ⟨rfl, fun _ => Nat.le_refl _, fun _ => ⟨rfl, rfl, fun h => by cases h⟩, (fun h => by cases h), fun j _ hj => by omega⟩ h1 h2 h3
/-- the state behind an append of rows -/
theorem appR_core {P : Program} {ρ : Rho} {st : ASt} {w : World} {t t2 elem ty : TypeId} {ts : List TypeId} {n len size : Nat} {base : Option Addr} {cap : Nat} {x' s' v zv : Value} {f : Nat → Nat → Td} {st' : ASt} {new' : List Value}
    (hd : undL P t = .ok (.slice elem)) (hzs : zv.cells.size = size) (hsrc : Src P w t2 elem size n zv x' new') (nl : new'.length = n * size) (n3 : ∀ v ∈ new', v.oneCell' = true) (n4 : ∀ j, j < n → ∀ k, k < size → ∃ y, new'[j * size + k]? = some y ∧ TR w (Frz ρ) (f j k) y)
    (h1 : len + n ≤ 1000000) (hr : aAppendR st size (.slice base len cap) n f = .ok (.val v st'))
    (hw : WR ρ st.h.get w) (hS : VR ρ (.slice base len cap) s') (hfr : Fresh ρ st.next (st.next + 1)) :
    ∃ ρ' v' w', (Builtin.append_ (t :: t2 :: ts).toArray ty #[s', x']).run P w = .ok v' w' ∧ VR ρ' v v' ∧ Mv ρ ρ' st.h.get st'.h.get st.next st'.next w w' := by
  have hzl : ∀ q, (Builtin.zeroCells zv.cells q).size = q * size := by intro q; simp [Builtin.zeroCells, hzs]
  have hfn : ρ st.next = none := hfr _ (Nat.le_refl _) (Nat.lt_succ_self _)
  have hjk : ∀ {j k m : Nat}, j < m → k < size → j * size + k < m * size := fun {j k m} hj hk => by
    have := Nat.mul_le_mul_right size (Nat.succ_le_of_lt hj)
    rw [Nat.succ_mul] at this; omega
  -- behind nothing
  have nothing : ∀ (b : Option Addr) (g : Mem) (f : Nat → Nat → Td), (∀ j, j < n → ∀ k, k < size → ∃ y, new'[j * size + k]? = some y ∧ TR w (Frz ρ) (f j k) y) → WR ρ g w → ∃ ρ' v' w', (Builtin.append_ (t :: t2 :: ts).toArray ty #[.slice b 0 0, x']).run P w = .ok v' w' ∧ (∀ c : Nat, (b = none → c = 1) → (b ≠ none → c = 0) → VR ρ' (.slice (some ⟨st.next, 0, some 0⟩) n c) v') ∧ Mv ρ ρ' g (upd g st.next (some (.row .mine size 0 n f))) st.next (st.next + 1) w w' := by
    intro b g f n4 hwg
    by_cases hn : n = 0
    · subst hn
      have hne : new' = [] := List.eq_nil_of_length_eq_zero (by rw [nl]; simp)
      subst hne
      have := hsrc.room t ty ts b 0 0 w hd (Nat.le_refl _) (fun a e => rfl) (fun _ => rfl)
      refine ⟨_, _, w, this, ?_, Mv.rowVoid hwg hfn rfl rfl rfl rfl⟩
      intro c h1 h2
      cases b with
      | none => rw [h1 rfl]; exact .sliceN _ _
      | some a => rw [h2 (by simp)]; exact .sliceZ _ _ a
    · obtain ⟨nc, g1, g2⟩ := hsrc.grow t ty ts b 0 0 [] hd (by omega) (by omega) (fun w1 _ => by
        have h0 : 0 * size = 0 := Nat.zero_mul _
        cases b <;> simp only [Builtin.firstCells, loadCells, h0] <;> rfl)
      simp only [Nat.zero_add] at g1 g2
      have hCs : ((#[] : Array Value) ++ new'.toArray ++ Builtin.zeroCells zv.cells (nc - n)).size = nc * size := by
        simp only [Array.size_append, List.size_toArray, nl, hzl, List.length_nil, Nat.zero_add]
        rw [← Nat.add_mul]; congr 1; omega
      refine ⟨_, _, _, g2, ?_, Mv.rowNew (C := (#[] : Array Value) ++ new'.toArray ++ Builtin.zeroCells zv.cells (nc - n)) (t := elem) hwg hfn rfl (by rw [hCs]; exact Nat.mul_le_mul_right _ g1) (fun j hj k hk => ?_) rfl rfl rfl⟩
      · exact fun c _ _ => .sliceI st.next 0 _ _ _ nc 0 (upd_same _ _ _) g1 (fun _ => by omega) (fun _ => by rw [hCs]; simp) rfl (.inl (by simp))
      · obtain ⟨y, y1, y2⟩ := n4 j hj k hk
        refine ⟨y, ?_, n3 y (List.mem_of_getElem? y1), y2⟩
        have hlt := (List.getElem?_eq_some_iff.1 y1).1
        rw [Array.empty_append, Array.getElem?_append_left (by simpa using hlt)]
        simpa using y1
  unfold aAppendR at hr
  split at hr
  · rename_i heq
    cases heq
    cases hr
    cases hS
    have : (st.new (.row .mine size 0 n f)).h.get = upd st.h.get st.next (some (.row .mine size 0 n f)) := by simp [ASt.new, set_get]
    rw [this]
    obtain ⟨ρ', v', w', p1, p2, p3⟩ := nothing none _ _ n4 hw
    exact ⟨ρ', v', w', p1, p2 1 (fun _ => rfl) (fun h => absurd rfl h), p3⟩
  · rename_i b0 o0 heq
    cases heq
    split at hr
    · rename_i cs es hg
      cases hr
      have : (st.new (.row .mine size 0 n f)).h.get = upd st.h.get st.next (some (.row .mine size 0 n f)) := by simp [ASt.new, set_get]
      rw [this]
      cases hS with
      | slice _ _ s _ _ c' o' hsp hn hc hxx hro hoo =>
        obtain ⟨s', e1, e2⟩ := hw.obj _ _ hg
        rw [hsp] at e1; cases e1
        have hcc := hxx e2.2.1
        subst hcc
        obtain ⟨ρ', v', w', p1, p2, p3⟩ := nothing (some ⟨s.blk, o', none⟩) _ _ n4 hw
        exact ⟨ρ', v', w', p1, p2 0 (fun h => by cases h) (fun _ => rfl), p3⟩
    · cases hr
  · rename_i b0 i0 len' cap' heq
    cases heq
    split at hr
    · rename_i es lo m g hg
      obtain ⟨c1, hr⟩ := cond_ok hr
      obtain ⟨c2, hr⟩ := cond_ok hr
      cases hr
      have hes : es = size := Nat.eq_of_beq_eq_true c1
      subst hes
      simp only [Bool.and_eq_true] at c2
      have k1 : lo ≤ i0 := Nat.le_of_ble_eq_true c2.1
      have k2 : i0 + len ≤ m := Nat.le_of_ble_eq_true c2.2
      have hgg : ((st.set b0 none).new (.row .mine es 0 (len + n) fun j k => mrgT (Nat.blt j len) (g (i0 + j) k) (f (j - len) k))).h.get = upd (upd st.h.get b0 none) st.next (some (.row .mine es 0 (len + n) fun j k => mrgT (Nat.blt j len) (g (i0 + j) k) (f (j - len) k))) := by
        simp [ASt.new, ASt.set, set_get]
      have hdrop := Mv.drop st.next b0 hw
      have empty : ∀ (b : Option Addr), len = 0 → (b = none → cap = 1) → (b ≠ none → cap = 0) → s' = .slice b 0 0 → ∃ ρ' v' w', (Builtin.append_ (t :: t2 :: ts).toArray ty #[s', x']).run P w = .ok v' w' ∧ VR ρ' (.slice (some ⟨st.next, 0, some 0⟩) (len + n) cap) v' ∧ Mv ρ ρ' st.h.get ((st.set b0 none).new (.row .mine es 0 (len + n) fun j k => mrgT (Nat.blt j len) (g (i0 + j) k) (f (j - len) k))).h.get st.next (st.next + 1) w w' := by
        intro b hl hb1 hb2 hs'
        subst hl hs'
        obtain ⟨ρ', v', w', p1, p2, p3⟩   := nothing b _ (fun j k => mrgT (Nat.blt j 0) (g (i0 + j) k) (f (j - 0) k)) (fun j hj k hk => by
          have hb : Nat.blt j 0 = false := rfl
          simp only [Nat.sub_zero, hb]
          obtain ⟨y, y1, y2⟩ := n4 j hj k hk
          exact ⟨y, y1, mrgT_false y2⟩) hdrop.wr
        refine ⟨ρ', v', w', p1, by rw [Nat.zero_add]; exact p2 cap hb1 hb2, ?_⟩
        rw [hgg]
        have p4 := hdrop.trans p3
        rw [Nat.zero_add]
        exact p4
      cases hS with
      | sliceI _ _ s _ _ c' o' hsp hnc hcc hro hv ho =>
        obtain ⟨s'', e1, f1, f2, f3, fz, f4⟩ := hw.obj _ _ hg
        rw [hsp] at e1; cases e1
        obtain ⟨x1, x2, x3⟩ := f3 rfl
        obtain ⟨C0, t0, fr0, e3, e4, e5, e6⟩ := x3 hv
        have hro' := hro x1
        rw [f1] at hro'
        have hold : ∀ j, j < len → ∀ k, k < es → ∃ y, C0[o' + j * es + k]? = some y ∧ y.oneCell' = true ∧ TR w (Frz ρ) (g (i0 + j) k) y := by
          intro j hj k hk
          obtain ⟨y, y1, y2, y3⟩ := f4 (i0 + j) (by omega) (by omega) k hk
          rw [cell_row e3, f1] at y1
          have ho' : o' = s.base + i0 * es := by rcases ho with ho | ho; rw [ho, f1]; omega
          refine ⟨y, ?_, y2, y3⟩
          rw [← y1]; congr 1; rw [ho', Nat.add_mul]; omega
        by_cases hroom : len + n ≤ c'
        · have hmul : (len + n) * es ≤ c' * es := Nat.mul_le_mul_right _ hroom
          rw [Nat.add_mul] at hmul
          obtain ⟨C', w', q1, q2, q3, q4, q5, q6, q7, q8, q9⟩ := run_storeCells_row P s.blk (o' + len * es) t0 fr0 new' 0 C0 w e3 e5.free (by rw [nl]; omega) n3
          have := hsrc.room t ty ts (some ⟨s.blk, o', none⟩) len c' w' hd hroom (by intro a e; cases e; rw [add_at]; exact q1) (by intro e; cases e)
          have hfzk : ∀ b, Frz ρ b → w'.heap[b]? = w.heap[b]? := fun b hb => q6 b fun e => (hw.fz b hb).2 ⟨b0, _, s, hg, rfl, hsp, hv, e.symm⟩
          refine ⟨upd ρ st.next (some ⟨s.blk, o', false, es, s.room, false, nofz⟩), _, w', this, ?_, ?_⟩
          · exact .sliceI st.next 0 ⟨s.blk, o', false, es, s.room, false, nofz⟩ _ _ c' o' (upd_same _ _ _) hroom (fun h => by have := hcc h; omega) (fun _ => hro') rfl (.inl (by simp))
          · rw [hgg]
            refine Mv.turn hw hfn hg rfl hsp hv _ rfl _ (fun _ h => h) (.inr ⟨rfl, q5, q6⟩) ⟨rfl, (fun h => by cases h), fun _ => ⟨rfl, rfl, fun _ => ⟨C', t0, fr0, q2, q3.trans e4, by rw [q3]; exact e5, ?_⟩⟩, (fun h => by cases h), fun j _ hj k hk => ?_⟩ q7 q8 q9
            · rw [Nat.add_mul]; show o' + _ ≤ s.room; omega
            · have hsub : Sub ρ (upd ρ st.next (some ⟨s.blk, o', false, es, s.room, false, nofz⟩)) := Sub.upd _ hfn
              by_cases hjl : j < len
              · have hb : Nat.blt j len = true := by simpa using hjl
                obtain ⟨y, y1, y2, y3⟩ := hold j hjl k hk
                have hjm := hjk hjl hk
                refine ⟨y, ?_, y2, mrgT_rel (fun _ => y3.kept (fun b => Frz.mono hsub) hfzk) (fun h => by rw [hb] at h; cases h)⟩
                dsimp only
                rw [cell_row q2, q4, if_neg (by omega)]
                exact y1
              · have hb := blt_false hjl
                have hjn : j - len < n := by omega
                obtain ⟨y, y1, y2⟩ := n4 _ hjn k hk
                have hlt := (List.getElem?_eq_some_iff.1 y1).1
                have hjm : j * es = len * es + (j - len) * es := by rw [← Nat.add_mul]; congr 1; omega
                refine ⟨y, ?_, n3 y (List.mem_of_getElem? y1), mrgT_rel (fun h => by rw [hb] at h; cases h) (fun _ => y2.kept (fun b => Frz.mono hsub) hfzk)⟩
                dsimp only
                rw [cell_row q2, q4, if_pos (by omega), ← y1]
                congr 1; omega
        · obtain ⟨p2, p3⟩ := rowsT_get es g len i0
          have hdec : ∀ j, j < len * es → ∃ dd rr, dd < len ∧ rr < es ∧ j = dd * es + rr := by
            intro j hlt
            have hes : 0 < es := by
              rcases Nat.eq_zero_or_pos es with h | h
              · rw [h] at hlt; omega
              · exact h
            have hdm := Nat.div_add_mod j es
            rw [Nat.mul_comm] at hdm
            exact ⟨j / es, j % es, Nat.div_lt_of_lt_mul (by rw [Nat.mul_comm]; exact hlt), Nat.mod_lt j hes, hdm.symm⟩
          obtain ⟨old', r1, r4, r3⟩ := gather (w := w) (F := Frz ρ) (b := s.blk) (o := s.base + i0 * s.es) (ts := rowsT es g i0 len) (fun j t ht => by
            have hlt := (List.getElem?_eq_some_iff.1 ht).1
            rw [p2] at hlt
            obtain ⟨dd, rr, hjn, hml, rfl⟩ := hdec j hlt
            rw [p3 dd rr hjn hml] at ht
            cases ht
            obtain ⟨y, y1, y2, y3⟩ := f4 (i0 + dd) (by omega) (by omega) rr hml
            refine ⟨y, ?_, y2, y3⟩
            rw [← y1, f1]; congr 2; rw [Nat.add_mul]; omega)
          have r2 : old'.length = len * es := by rw [← r1.1, p2]
          obtain ⟨nc, g1, g2⟩ := hsrc.grow t ty ts (some ⟨s.blk, o', none⟩) len c' old' hd hroom (by omega) (fun w1 hw1 => by
            by_cases h0 : len * es = 0
            · have : old' = [] := List.eq_nil_of_length_eq_zero (by rw [r2, h0])
              subst this
              simp only [Builtin.firstCells, loadCells, h0]
              rfl
            · have ho' : o' = s.base + i0 * s.es := by
                rcases ho with ho | ho
                · exact ho
                · exfalso
                  have : len = 0 := by omega
                  rw [this] at h0; simp at h0
              subst ho'
              have := run_loadCells_list (P := P) (w := w1) ⟨s.blk, s.base + i0 * s.es, none⟩ old' (fun j v hv => by
                have := r3 j v hv
                rw [add_at]
                unfold World.cell? at this ⊢
                rw [hw1]; exact this)
              rw [r2] at this
              simp only [Builtin.firstCells, this])
          have hCs : (old'.toArray ++ new'.toArray ++ Builtin.zeroCells zv.cells (nc - (len + n))).size = nc * es := by
            simp only [Array.size_append, List.size_toArray, nl, hzl, r2]
            rw [← Nat.add_mul, ← Nat.add_mul]; congr 1; omega
          have hat : ∀ (q : Nat) (y : Value), (old' ++ new')[q]? = some y → (old'.toArray ++ new'.toArray ++ Builtin.zeroCells zv.cells (nc - (len + n)))[q]? = some y := by
            intro q y hq
            have hlt := (List.getElem?_eq_some_iff.1 hq).1
            rw [Array.getElem?_append_left (by simpa using hlt)]
            rw [List.append_toArray]
            simpa using hq
          refine ⟨upd ρ st.next (some ⟨w.heap.size, 0, false, es, (old'.toArray ++ new'.toArray ++ Builtin.zeroCells zv.cells (nc - (len + n))).size, false, nofz⟩), _, _, g2, ?_, ?_⟩
          rotate_left
          · rw [hgg]
            exact hdrop.trans (Mv.rowNew (C := old'.toArray ++ new'.toArray ++ Builtin.zeroCells zv.cells (nc - (len + n))) (t := elem) hdrop.wr hfn rfl (by rw [hCs]; exact Nat.mul_le_mul_right _ g1) (fun j hj k hk => by
              by_cases hjl : j < len
              · have hb : Nat.blt j len = true := by simpa using hjl
                obtain ⟨y, y1, y3⟩ := r1.get (p3 j k hjl hk)
                have hjm := hjk hjl hk
                refine ⟨y, hat _ _ ?_, r4 y (List.mem_of_getElem? y1), mrgT_rel (fun _ => y3) (fun h => by rw [hb] at h; cases h)⟩
                rw [List.getElem?_append_left (by rw [r2]; omega)]
                exact y1
              · have hb := blt_false hjl
                have hjn : j - len < n := by omega
                obtain ⟨y, y1, y2⟩ := n4 _ hjn k hk
                have hjm : j * es = len * es + (j - len) * es := by rw [← Nat.add_mul]; congr 1; omega
                refine ⟨y, hat _ _ ?_, n3 y (List.mem_of_getElem? y1), mrgT_rel (fun h => by rw [hb] at h; cases h) (fun _ => y2)⟩
                rw [List.getElem?_append_right (by rw [r2]; omega), ← y1, r2]
                congr 1; omega) rfl rfl rfl)
          · exact .sliceI st.next 0 _ _ _ nc 0 (upd_same _ _ _) g1 (fun h => by have := hcc h; omega) (fun _ => by rw [hCs]; simp) rfl (.inl (by simp))
      | sliceE _ _ c' xx s hsp hex =>
        obtain ⟨s'', e1, f1, f2, f3, fz, f4⟩ := hw.obj _ _ hg
        rw [hsp] at e1; cases e1
        have := (f3 rfl).1
        rw [hex] at this; cases this
      | sliceN => exact empty _ rfl (fun _ => rfl) (fun h => absurd rfl h) rfl
      | sliceZ => exact empty _ rfl (fun h => by cases h) (fun _ => rfl) rfl
    · cases hr
  · cases hr
theorem appR_next {st st' : ASt} {size n : Nat} {s v : Value} {f : Nat → Nat → Td} (hr : aAppendR st size s n f = .ok (.val v st')) : st'.next = st.next + 1 ∧ LoS st st' := by
  unfold aAppendR at hr
  split at hr
  · cases hr; exact ⟨rfl, LoS.new _ _⟩
  · split at hr
    · cases hr; exact ⟨rfl, LoS.new _ _⟩
    · cases hr
  · split at hr
    · obtain ⟨c1, hr⟩ := cond_ok hr
      obtain ⟨c2, hr⟩ := cond_ok hr
      cases hr
      exact ⟨rfl, (LoS.set _ _ _ (.inl rfl)).trans (LoS.new _ _)⟩
    · cases hr
  · cases hr
theorem appR_val {st : ASt} {size n : Nat} {s : Value} {r : AN} {f : Nat → Nat → Td} (hr : aAppendR st size s n f = .ok r) : ∃ v st', r = .val v st' := by
  unfold aAppendR at hr
  split at hr
  · cases hr; exact ⟨_, _, rfl⟩
  · split at hr
    · cases hr; exact ⟨_, _, rfl⟩
    · cases hr
  · split at hr
    · obtain ⟨_, hr⟩ := cond_ok hr
      obtain ⟨_, hr⟩ := cond_ok hr
      cases hr; exact ⟨_, _, rfl⟩
    · cases hr
  · cases hr
theorem appQ_cases {st : ASt} {size n : Nat} {s : Value} {r : AN} {f : Nat → Nat → Td} (hr : aAppendQ st size s n f = .ok r) :
    aAppendR st size s n f = .ok r ∨ ∃ b0 o len c cs ex es, s = .slice (some ⟨b0, o, none⟩) len c ∧ st.h.get b0 = some (.cells cs ex es) ∧ 0 < len ∧ turnOk o size len c es ex cs = true ∧ aAppendR (turnC st b0 o size len cs) size (.slice (some ⟨st.next, 0, some 0⟩) len c) n f = .ok r := by
  unfold aAppendQ at hr
  split at hr
  · split at hr
    · rename_i b0 o len c _ cs ex es hg
      cases hb : Nat.blt 0 len with
      | false => rw [hb] at hr; exact .inl hr
      | true =>
        rw [hb, cond_true] at hr
        obtain ⟨c1, hr⟩ := cond_ok hr
        exact .inr ⟨b0, o, len, c, cs, ex, es, rfl, hg, by simpa using hb, c1, hr⟩
    · exact .inl hr
  · exact .inl hr
theorem appQ_val {st : ASt} {size n : Nat} {s : Value} {r : AN} {f : Nat → Nat → Td} (hr : aAppendQ st size s n f = .ok r) : ∃ v st', r = .val v st' := by
  rcases appQ_cases hr with h | ⟨_, _, _, _, _, _, _, _, _, _, _, h⟩
  · exact appR_val h
  · exact appR_val h
theorem turnC_next (st : ASt) (b0 o size len : Nat) (cs : List Value) : (turnC st b0 o size len cs).next = st.next + 1 ∧ LoS st (turnC st b0 o size len cs) := ⟨rfl, (LoS.set _ _ _ (.inl rfl)).trans (LoS.new _ _)⟩
theorem appQ_next {st st' : ASt} {size n : Nat} {s v : Value} {f : Nat → Nat → Td} (hr : aAppendQ st size s n f = .ok (.val v st')) : st.next + 1 ≤ st'.next ∧ LoS st st' := by
  rcases appQ_cases hr with h | ⟨b0, o, len, c, cs, ex, es, _, hg, _, _, h⟩
  · exact ⟨Nat.le_of_eq (appR_next h).1.symm, (appR_next h).2⟩
  · obtain ⟨k1, k2⟩ := appR_next h
    obtain ⟨k3, k4⟩ := turnC_next st b0 o size len cs
    exact ⟨by rw [k1, k3]; omega, k4.trans k2⟩
theorem dropT_drop : ∀ (n : Nat) (l : List Td), dropT n l = l.drop n
  | 0, _ => rfl
  | n + 1, [] => rfl
  | n + 1, _ :: l => dropT_drop n l
theorem turnC_mv {ρ : Rho} {st : ASt} {w : World} {b0 o size len c es : Nat} {ex : Bool} {cs : List Value} {s' : Value} (hg : st.h.get b0 = some (.cells cs ex es)) (h0 : 0 < len) (hok : turnOk o size len c es ex cs = true)
    (hw : WR ρ st.h.get w) (hS : VR ρ (.slice (some ⟨b0, o, none⟩) len c) s') (hfn : ρ st.next = none) :
    ∃ ρ1, (∀ b, Frz ρ b → Frz ρ1 b) ∧ VR ρ1 (.slice (some ⟨st.next, 0, some 0⟩) len c) s' ∧ Mv ρ ρ1 st.h.get (turnC st b0 o size len cs).h.get st.next (st.next + 1) w w := by
  simp only [turnOk, Bool.and_eq_true, Bool.or_eq_true] at hok
  obtain ⟨⟨⟨k1, k2⟩, k3⟩, hscal⟩ := hok
  have hnc : len ≤ c := Nat.le_of_ble_eq_true k2
  have hlen : o + c * size ≤ cs.length := Nat.le_of_ble_eq_true k3
  obtain ⟨s, e1, f0, f1, f2, C, ty, fr, f3, f4, f5, f6, f7⟩ := hw.obj _ _ hg
  cases hS with
  | slice _ _ s' _ _ c' o' hsp hn' hc hxx hro ho =>
    rw [hsp] at e1; cases e1
    have ho' : o' = s.base + o := by
      rcases ho with ho | ho
      · exact ho
      · omega
    have hroom : o' + c' * size ≤ C.size := by
      cases hex : ex with
      | false =>
        rw [hex] at f1 k1
        have hes : es = size := by
          rcases k1 with h | h
          · cases h
          · exact Nat.eq_of_beq_eq_true h
        have h1 := hro f1
        rw [f2, hes] at h1; omega
      | true =>
        rw [hex] at f1
        have h1 := hxx f1
        rw [h1, ho']; omega
    have hle : len * size ≤ c' * size := Nat.mul_le_mul_right _ (by omega)
    have hle2 : len * size ≤ c * size := Nat.mul_le_mul_right _ hnc
    have m := Mv.turn (w' := w) (n := st.next) hw hfn hg rfl hsp f0 (.row .mine size 0 len (selT size len (dropT o (cs.map .sc)))) rfl ⟨s.blk, o', false, size, C.size, false, nofz⟩ (fun _ h => h) (.inr ⟨rfl, rfl, fun _ _ => rfl⟩)
      ⟨rfl, (fun h => by cases h), fun _ => ⟨rfl, rfl, fun _ => ⟨C, ty, fr, f3, rfl, f5, by show o' + len * size ≤ C.size; omega⟩⟩, (fun h => by cases h), fun i _ hi j hj => by
        have hij : i * size + j < len * size := by
          have := Nat.mul_le_mul_right size (Nat.succ_le_of_lt hi)
          rw [Nat.succ_mul] at this; omega
        have hlt : o + (i * size + j) < cs.length := by omega
        have x1 : cs[o + (i * size + j)]? = some cs[o + (i * size + j)] := List.getElem?_eq_getElem hlt
        obtain ⟨y, y1, y2⟩ := f7 _ _ x1
        rw [List.all_eq_true] at hscal
        obtain ⟨z1, z2⟩ := scalT_rel (hscal _ (List.getElem_mem hlt)) y2
        refine ⟨y, ?_, z2, ?_⟩
        · rw [cell_row f3, ← y1, ho']; congr 1; show s.base + o + i * size + j = _; omega
        · refine selT_rel _ _ _ _ (.sc cs[o + (i * size + j)]) _ hi hj ?_ z1
          rw [dropT_drop, List.getElem?_drop, List.getElem?_map, x1]; rfl⟩ rfl rfl rfl
    refine ⟨_, fun b => Frz.mono m.ext, ?_, by
      have hgg : (turnC st b0 o size len cs).h.get = upd (upd st.h.get b0 none) st.next (some (.row .mine size 0 len (selT size len (dropT o (cs.map .sc))))) := by simp [turnC, ASt.new, ASt.set, set_get]
      rw [hgg]; exact m⟩
    exact VR.sliceI st.next 0 ⟨s.blk, o', false, size, C.size, false, nofz⟩ len c c' o' (upd_same _ _ _) (by omega) (fun _ => h0) (fun _ => hroom) rfl (.inl (by simp))
/-- the state behind an append, cells too -/
theorem appQ_core {P : Program} {ρ : Rho} {st : ASt} {w : World} {t t2 elem ty : TypeId} {ts : List TypeId} {n len size : Nat} {base : Option Addr} {cap : Nat} {x' s' v zv : Value} {f : Nat → Nat → Td} {st' : ASt} {new' : List Value}
    (hd : undL P t = .ok (.slice elem)) (hzs : zv.cells.size = size) (hsrc : Src P w t2 elem size n zv x' new') (nl : new'.length = n * size) (n3 : ∀ v ∈ new', v.oneCell' = true) (n4 : ∀ j, j < n → ∀ k, k < size → ∃ y, new'[j * size + k]? = some y ∧ TR w (Frz ρ) (f j k) y)
    (h1 : len + n ≤ 1000000) (hr : aAppendQ st size (.slice base len cap) n f = .ok (.val v st'))
    (hw : WR ρ st.h.get w) (hS : VR ρ (.slice base len cap) s') (hfr : Fresh ρ st.next st'.next) :
    ∃ ρ' v' w', (Builtin.append_ (t :: t2 :: ts).toArray ty #[s', x']).run P w = .ok v' w' ∧ VR ρ' v v' ∧ Mv ρ ρ' st.h.get st'.h.get st.next st'.next w w' := by
  rcases appQ_cases hr with h | ⟨b0, o, len', c, cs, ex, es, he, hg, h0, hok, h⟩
  · have hn1 := (appR_next h).1
    exact appR_core hd hzs hsrc nl n3 n4 h1 h hw hS (by rw [← hn1]; exact hfr)
  · cases he
    have hn1 := (appR_next h).1
    have hn2 := (turnC_next st b0 o size len cs).1
    have hfn : ρ st.next = none := hfr _ (Nat.le_refl _) (by omega)
    obtain ⟨ρ1, hF, hS1, m⟩ := turnC_mv hg h0 hok hw hS hfn
    obtain ⟨ρ', v', w', p1, p2, p3⟩ := appR_core (st := turnC st b0 o size len cs) (ρ := ρ1) (ty := ty) (ts := ts) hd hzs hsrc nl n3 (fun j hj k hk => by
      obtain ⟨y, y1, y2⟩ := n4 j hj k hk
      exact ⟨y, y1, y2.kept hF (fun _ _ => rfl)⟩) h1 h m.wr hS1 (by
      rw [← hn1, hn2]; exact m.fresh hfr)
    exact ⟨ρ', v', w', p1, p2, m.trans p3⟩
theorem appR_sound {P : Program} {ρ : Rho} {st st1 : ASt} {w : World} {t t2 elem ty : TypeId} {ts : List TypeId} {n len size by_ : Nat} {base : Option Addr} {cap : Nat} {x x' s' v : Value} {d2 : TypeDesc} {z : List Value} {f : Nat → Nat → Td} {st' : ASt}
    (hd : undL P t = .ok (.slice elem)) (hd2 : undL P t2 = .ok d2) (hs : sizeL P elem = .ok size) (hby : bytesL P elem = .ok by_) (hz : zeroL P elem = .ok z) (hf : srcX P st d2 elem size x = .ok (n, f, st1))
    (h1 : len + n ≤ 1000000) (h2 : by_ ≤ 1000000) (h3 : z.length = size) (hr : aAppendQ st1 size (.slice base len cap) n f = .ok (.val v st'))
    (hw : WR ρ st.h.get w) (hS : VR ρ (.slice base len cap) s') (hX : VR ρ x x') (hfr : Fresh ρ st.next st'.next) :
    ∃ ρ' v' w', (Builtin.append_ (t :: t2 :: ts).toArray ty #[s', x']).run P w = .ok v' w' ∧ VR ρ' v v' ∧ Mv ρ ρ' st.h.get st'.h.get st.next st'.next w w' := by
  obtain ⟨zv, z1, z2, z3⟩ := run_zeroL hz
  obtain ⟨ii, i1, i2⟩ : ∃ ii, P.info? elem = some ii ∧ ii.bytes = by_ := by
    unfold bytesL at hby
    split at hby
    · rename_i i e; cases hby; exact ⟨i, e, rfl⟩
    · cases hby
  have hzs : zv.cells.size = size := by rw [← h3, ← z1]; simp
  obtain ⟨hn1, _⟩ := appQ_next hr
  obtain ⟨ρ1, m1, new', nl, hsrc, n3, n4⟩ := srcX_run (P := P) hd2 hs hz z3 z1 z2 i1 (by omega) h3 hf hX hw (hfr.left (by omega))
  obtain ⟨ρ', v', w', p1, p2, p3⟩ := appQ_core (ty := ty) (ts := ts) hd hzs hsrc nl n3 n4 h1 hr m1.wr (hS.mono m1.ext) (m1.fresh hfr)
  exact ⟨ρ', v', w', p1, p2, m1.trans p3⟩
theorem op_makeRow {P : Program} {o : Oper} {f : AFr} {st : ASt} {t e : TypeId} {x y : Operand} {k1 k2 : IntKind} {l n b : Nat} {z : List Value} (h : o.op = .makeSlice t x y) (hx : f.ev x = .int k1 (.ofNat l)) (hy : f.ev y = .int k2 (.ofNat l)) (hd : undL P t = .ok (.slice e))
    (hz : zeroL P e = .ok z) (hn : sizeL P e = .ok n) (hb : bytesL P e = .ok b) (h2 : l ≤ 1000000) (h3 : b ≤ 1000000) (h4 : z.length = n) (h5 : z.all zOk = true) :
    OpR P o f st (.val (.slice (some ⟨st.next, 0, some 0⟩) l 0) (st.new (.row .mine n 0 l fun _ j => nthT (z.map zT) j))) := by
  refine ⟨LoS.new _ _, fun ρ w a hf hw hfr => ?_⟩
  obtain ⟨zv, e1, e2, e3⟩ := run_zeroL hz
  have ex := hf.ev x
  have ey := hf.ev y
  rw [hx] at ex; rw [hy] at ey
  generalize hX : a.eval x = X at ex
  generalize hY : a.eval y = Y at ey
  cases ex; cases ey
  obtain ⟨ii, i1, i2⟩ := bytesL_ok hb w
  have hfn : ρ st.next = none := hfr _ (Nat.le_refl _) (Nat.lt_succ_self _)
  have hget : (st.new (.row .mine n 0 l fun _ j => nthT (z.map zT) j)).h.get = upd st.h.get st.next (some (.row .mine n 0 l fun _ j => nthT (z.map zT) j)) := by simp [ASt.new, set_get]
  let C : Array Value := (Array.range (l * n)).map fun i => (if l * n = 0 then #[] else zv.cells)[i % (if l * n = 0 then #[] else zv.cells).size]!
  have hC : C.size = l * n := by simp [C]
  have hzsz : zv.cells.size = n := by rw [← h4, ← e1]; simp
  refine ⟨upd ρ st.next (some ⟨w.heap.size, 0, false, n, C.size, false, nofz⟩), .slice (some ⟨w.heap.size, 0, none⟩) l l, w.alloc (.cells C e), .inl ?_,
    .sliceI st.next 0 ⟨w.heap.size, 0, false, n, C.size, false, nofz⟩ l 0 l 0 (upd_same _ _ _) (Nat.le_refl _) (fun h => absurd rfl h) (fun _ => by show 0 + l * n ≤ C.size; rw [hC, Nat.zero_add]; exact Nat.le_refl _) rfl (.inl (by simp)), ?_⟩
  · have hbn : b * l ≤ 1000000 * 1000000 := Nat.mul_le_mul h3 h2
    have w1 := wrap_small l (by omega)
    simp only [execOp, h, hX, hY, Instr.makeSlice, Sem.run_bind, run_und hd, Result.andThen_ok, asInt, asIntOf, Sem.run_pure, i1, i2, w1]
    have c1 : ¬ ((l : Int) < 0) := by omega
    have c2 : ¬ ((b : Int) * (l : Int) > 2 ^ 48) := by
      have : ((b : Int) * (l : Int)) = ((b * l : Nat) : Int) := by simp
      rw [this]; omega
    have c4 : ¬ ((l : Int) > l) := by omega
    simp only [c1, c2, c4, decide_false, Bool.or_self, Bool.false_eq_true, if_false, run_askRoom, Result.andThen_ok, Int.toNat_natCast, Sem.run_bind, run_sizeL hn]
    by_cases h0 : l * n = 0
    · simp only [C, h0, ↓reduceIte, Sem.run_bind, Sem.run_pure, Result.andThen_ok]
      simp [newRow]
    · simp only [C, h0, ↓reduceIte, Sem.run_bind, e3, Sem.run_pure, Result.andThen_ok]
      simp [newRow]
  · rw [hget]
    refine Mv.rowNew (C := C) (t := e) hw hfn rfl (by rw [hC]; omega) (fun j hj k hk => ?_) rfl rfl rfl
    have hlt : j * n + k < l * n := by
      have : j * n + n ≤ l * n := by rw [← Nat.succ_mul]; exact Nat.mul_le_mul_right _ hj
      omega
    have h0 : ¬ l * n = 0 := by omega
    have hm : (j * n + k) % n = k := by rw [Nat.add_comm, Nat.add_mul_mod_self_right, Nat.mod_eq_of_lt hk]
    have hzk : k < z.length := by omega
    have hzc : zv.cells[k]! = z[k] := by
      have h6 : k < zv.cells.size := by omega
      rw [getElem!_pos zv.cells k h6]
      have : zv.cells.toList[k]'(by simpa using h6) = z[k] := by simp only [e1]
      simpa using this
    refine ⟨z[k], ?_, ?_⟩
    · simp only [C, if_neg h0, hzsz]
      rw [Array.getElem?_map, Array.getElem?_range, if_pos hlt]
      simp only [Option.map_some, hm, hzc]
    · have hv : VR ρ z[k] z[k] := VR.refl 2 (by rw [List.all_eq_true] at e2; exact e2 _ (List.getElem_mem hzk))
      have hzo : zOk z[k] = true := by rw [List.all_eq_true] at h5; exact h5 _ (List.getElem_mem hzk)
      have := zT_rel hzo hv w (Frz ρ)
      have hnt : nthT (z.map zT) k = zT z[k] := nthT_eq _ _ _ (by simp [hzk])
      rw [hnt]
      exact ⟨this.2, this.1⟩
end Go.Proofs.YtpogcoolgnjejaaGreatDoor.Ev
