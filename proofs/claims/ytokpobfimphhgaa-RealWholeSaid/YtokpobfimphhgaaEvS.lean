/-
  What the evaluator says of single operations holds of their runs: parts of slices, lengths, kinds of interface values.
-/
import Derived.Test.YtokpobfimphhgaaEvQ
set_option linter.unusedVariables false
set_option linter.unusedSimpArgs false
namespace Go.Proofs.Ytokpobfimphhgaa.Ev
open Go

/-- an operand that may be there -/
def OptR (ρ : Rho) : Option Value → Option Value → Prop
  | none, none => True
  | some v, some v' => VR ρ v v'
  | _, _ => False
theorem FrR.opt {ρ : Rho} {f : AFr} {a : Act} (h : FrR ρ f a) (x : Option Operand) : OptR ρ (x.map f.ev) (x.map a.eval) := by
  cases x with
  | none => trivial
  | some x => exact h.ev x
theorem boundL_run {P : Program} {x x' : Option Value} {d m r : Nat} {ρ : Rho} (h : boundL x d m = .ok r) (hx : OptR ρ x x') :
    (x' = none ∧ r = d) ∨ ∃ v', x' = some v' ∧ r ≤ m ∧ ∀ (m' : Nat) (c : BoundsCode) (w : World), m ≤ m' → (Instr.sliceBound v' m' c).run P w = .ok r w := by
  unfold boundL at h
  split at h
  · cases x' with
    | none => cases h; exact .inl ⟨rfl, rfl⟩
    | some v => exact hx.elim
  · rename_i k i
    obtain ⟨h1, h2⟩ := cond_ok h
    cases h2
    have h3 : r ≤ m := Nat.le_of_ble_eq_true h1
    cases x' with
    | none => exact hx.elim
    | some v =>
      cases hx
      refine .inr ⟨_, rfl, h3, fun m' c w hm => ?_⟩
      have h4 : (0 : Int) ≤ (Int.ofNat r) ∧ (Int.ofNat r) ≤ m' := ⟨Int.natCast_nonneg r, by simp; omega⟩
      simp only [Instr.sliceBound, asIntOf, Sem.run_bind, Sem.run_pure, Result.andThen_ok, h4, and_self, if_true]
      rfl
  · cases h
/-- the bounds of a slice expression of two -/
theorem bounds2 {P : Program} {lo hi lo' hi' : Option Value} {len cap cap' h l : Nat} {ρ : Rho} (h1 : boundL hi len cap = .ok h) (h2 : boundL lo 0 h = .ok l) (hh : OptR ρ hi hi') (hl : OptR ρ lo lo') (hc : cap ≤ cap') (isS : Bool) (w : World) :
    (Instr.sliceBounds isS len cap' lo' hi' none).run P w = .ok (l, h, cap') w ∧ l ≤ h ∧ (h ≤ cap ∨ h = len) := by
  have hlh : l ≤ h := by
    rcases boundL_run (P := P) h2 hl with ⟨_, rfl⟩ | ⟨v, _, e, _⟩
    · omega
    · exact e
  rcases boundL_run (P := P) h1 hh with ⟨rfl, rfl⟩ | ⟨v, rfl, e1, e2⟩
  · refine ⟨?_, hlh, .inr rfl⟩
    rcases boundL_run (P := P) h2 hl with ⟨rfl, rfl⟩ | ⟨u, rfl, e3, e4⟩
    · simp only [Instr.sliceBounds, Sem.run_bind, Sem.run_pure, Result.andThen_ok]
    · simp only [Instr.sliceBounds, Sem.run_bind, Sem.run_pure, Result.andThen_ok, e4 h _ w (Nat.le_refl _)]
  · refine ⟨?_, hlh, .inl e1⟩
    rcases boundL_run (P := P) h2 hl with ⟨rfl, rfl⟩ | ⟨u, rfl, e3, e4⟩
    · simp only [Instr.sliceBounds, Sem.run_bind, Sem.run_pure, Result.andThen_ok, e2 cap' _ w hc]
    · simp only [Instr.sliceBounds, Sem.run_bind, Sem.run_pure, Result.andThen_ok, e2 cap' _ w hc, e4 h _ w (Nat.le_refl _)]
theorem op_slice_str {P : Program} {o : Oper} {f : AFr} {st : ASt} {t : TypeId} {x : Operand} {lo hi : Option Operand} {s : ByteArray} {h l : Nat} (ho : o.op = .slice t x lo hi none) (hx : f.ev x = .string s) (hd : undL P t = .ok .string)
    (h1 : boundL (hi.map f.ev) s.size s.size = .ok h) (h2 : boundL (lo.map f.ev) 0 h = .ok l) : OpR P o f st (.val (.string ⟨((s.data.toList.take h).drop l).toArray⟩) st) :=
  OpR.quiet fun ρ w a hf hw => by
    have hc := hf.ev x
    rw [hx] at hc
    have hX := hc.string_inv
    obtain ⟨r1, r2, r3⟩ := bounds2 (P := P) (cap' := s.size) h1 h2 (hf.opt hi) (hf.opt lo) (Nat.le_refl _) false w
    refine ⟨.string (s.extract l h), ?_, ?_⟩
    · simp [execOp, ho, hX, Instr.sliceAt, run_und hd, Instr.slice, r1]
    · have : s.extract l h = ⟨((s.data.toList.take h).drop l).toArray⟩ := by
        apply ByteArray.ext
        rw [ByteArray.data_extract]
        apply Array.toList_inj.1
        simp [Array.toList_extract, List.extract_eq_take_drop, List.drop_take]
      rw [this]
      exact .string _
theorem op_slice_nil {P : Program} {o : Oper} {f : AFr} {st : ASt} {t e : TypeId} {x : Operand} {lo hi : Option Operand} {h l n : Nat} (ho : o.op = .slice t x lo hi none) (hx : f.ev x = .slice none 0 0) (hd : undL P t = .ok (.slice e)) (hn : sizeL P e = .ok n)
    (h1 : boundL (hi.map f.ev) 0 0 = .ok h) (h2 : boundL (lo.map f.ev) 0 0 = .ok l) : OpR P o f st (.val (.slice none 0 0) st) :=
  OpR.quiet fun ρ w a hf hw => by
    have hc := hf.ev x
    rw [hx] at hc
    generalize hX : a.eval x = X at hc
    cases hc
    have hh0 : h = 0 := by
      rcases boundL_run (P := P) h1 (hf.opt hi) with ⟨_, e⟩ | ⟨v, _, e, _⟩ <;> omega
    subst hh0
    obtain ⟨r1, r2, r3⟩ := bounds2 (P := P) (cap' := 0) h1 h2 (hf.opt hi) (hf.opt lo) (Nat.le_refl _) true w
    have hl0 : l = 0 := by omega
    subst hl0
    exact ⟨.slice none 0 0, by simp [execOp, ho, hX, Instr.sliceAt, run_und hd, Instr.slice, r1, run_sizeL hn], .sliceNil⟩
theorem op_slice_ex {P : Program} {o : Oper} {f : AFr} {st : ASt} {t e : TypeId} {x : Operand} {lo hi : Option Operand} {h l n len cap es : Nat} {b0 o0 : Nat} {cs : List Value} (ho : o.op = .slice t x lo hi none) (hx : f.ev x = .slice (some ⟨b0, o0, none⟩) len cap) (hd : undL P t = .ok (.slice e)) (hn : sizeL P e = .ok n)
    (hg : st.h.get b0 = some (.cells cs true es)) (h1 : boundL (hi.map f.ev) len cap = .ok h) (h2 : boundL (lo.map f.ev) 0 h = .ok l) : OpR P o f st (.val (.slice (some (cond (Nat.beq cap l) ⟨b0, o0, none⟩ ((⟨b0, o0, none⟩ : Addr).add (l * n)))) (h - l) (cap - l)) st) :=
  OpR.quiet fun ρ w a hf hw => by
    have hc := hf.ev x
    rw [hx] at hc
    generalize hX : a.eval x = X at hc
    cases hc with
    | slice _ _ s _ _ c' o' hs hnc hcc hxx hr hoo =>
      obtain ⟨s', e1, e2⟩ := hw.obj _ _ hg
      rw [hs] at e1; cases e1
      have hex : s.ex = true := e2.2.1
      have hcap := hxx hex
      subst hcap
      obtain ⟨r1, r2, r3⟩ := bounds2 (P := P) (cap' := c') h1 h2 (hf.opt hi) (hf.opt lo) (Nat.le_refl _) true w
      have hhc : h ≤ c' := by omega
      refine ⟨.slice (some (if c' = l then ⟨s.blk, o', none⟩ else (⟨s.blk, o', none⟩ : Addr).add (l * n))) (h - l) (c' - l), ?_, ?_⟩
      · simp only [execOp, ho, hX, Instr.sliceAt, Sem.run_bind, run_und hd, Result.andThen_ok, Instr.slice, Option.map_none, r1, run_sizeL hn, Sem.run_pure, Option.map_some]
        congr 3
        split <;> rfl
      · by_cases hcl : c' = l
        · have hb : Nat.beq c' l = true := by rw [hcl]; exact Nat.beq_refl l
          rw [hb, if_pos hcl]
          exact .slice b0 o0 s _ _ _ o' hs (by omega) (Nat.le_refl _) (fun _ => rfl) (fun h => by rw [hex] at h; cases h) (.inr (by omega))
        · have hb : Nat.beq c' l = false := by
            cases hb : Nat.beq c' l with
            | true => exact absurd (Nat.eq_of_beq_eq_true hb) hcl
            | false => rfl
          rw [hb, if_neg hcl]
          simp only [cond_false, add_at]
          exact .slice b0 (o0 + l * n) s _ _ _ (o' + l * n) hs (by omega) (Nat.le_refl _) (fun _ => rfl) (fun h => by rw [hex] at h; cases h) (by rcases hoo with hoo | hoo <;> omega)
theorem op_slice_own {P : Program} {o : Oper} {f : AFr} {st : ASt} {t e : TypeId} {x : Operand} {lo hi : Option Operand} {h l n len cap : Nat} {b0 o0 : Nat} {cs : List Value} (ho : o.op = .slice t x lo hi none) (hx : f.ev x = .slice (some ⟨b0, o0, none⟩) len cap) (hd : undL P t = .ok (.slice e)) (hn : sizeL P e = .ok n)
    (hg : st.h.get b0 = some (.cells cs false n)) (h1 : boundL (hi.map f.ev) len cap = .ok h) (h2 : boundL (lo.map f.ev) 0 h = .ok l) : OpR P o f st (.val (.slice (some ((⟨b0, o0, none⟩ : Addr).add (l * n))) (h - l) (cap - l)) st) :=
  OpR.quiet fun ρ w a hf hw => by
    have hc := hf.ev x
    rw [hx] at hc
    generalize hX : a.eval x = X at hc
    cases hc with
    | slice _ _ s _ _ c' o' hs hnc hcc hxx hr hoo =>
      obtain ⟨s', e1, e2⟩ := hw.obj _ _ hg
      rw [hs] at e1; cases e1
      have hex : s.ex = false := e2.2.1
      have hes : s.es = n := e2.2.2.1
      obtain ⟨r1, r2, r3⟩ := bounds2 (P := P) (cap' := c') h1 h2 (hf.opt hi) (hf.opt lo) hcc true w
      have hhc : h ≤ cap := by omega
      have hro := hr hex
      rw [hes] at hro
      refine ⟨.slice (some (if c' = l then ⟨s.blk, o', none⟩ else (⟨s.blk, o', none⟩ : Addr).add (l * n))) (h - l) (c' - l), ?_, ?_⟩
      · simp only [execOp, ho, hX, Instr.sliceAt, Sem.run_bind, run_und hd, Result.andThen_ok, Instr.slice, Option.map_none, r1, run_sizeL hn, Sem.run_pure, Option.map_some]
        congr 3
        split <;> rfl
      · simp only [add_at]
        by_cases hcl : c' = l
        · rw [if_pos hcl]
          have hz : o' + (c' - l) * s.es ≤ s.room := by
            rw [show c' - l = 0 by omega]
            have := Nat.zero_le (c' * n)
            omega
          exact .slice b0 (o0 + l * n) s _ _ _ o' hs (by omega) (by omega) (fun h => by rw [hex] at h; cases h) (fun _ => hz) (.inr (by omega))
        · rw [if_neg hcl]
          have hm : (c' - l) * n + l * n = c' * n := by rw [← Nat.add_mul]; congr 1; omega
          exact .slice b0 (o0 + l * n) s _ _ _ (o' + l * n) hs (by omega) (by omega) (fun h => by rw [hex] at h; cases h) (fun _ => by rw [hes]; omega) (by rcases hoo with hoo | hoo <;> omega)
theorem maxN_ge (a b : Nat) : a ≤ maxN a b ∧ b ≤ maxN a b ∧ (maxN a b = a ∨ maxN a b = b) := by
  unfold maxN
  cases h : Nat.ble a b with
  | true => have : a ≤ b := Nat.le_of_ble_eq_true h; exact ⟨this, Nat.le_refl _, .inr rfl⟩
  | false => have : ¬ a ≤ b := fun h2 => by rw [Nat.ble_eq_true_of_le h2] at h; cases h
             exact ⟨Nat.le_refl _, by simp; omega, .inl rfl⟩
theorem op_slice_row {P : Program} {o : Oper} {f : AFr} {st : ASt} {t e : TypeId} {x : Operand} {lo hi : Option Operand} {h l n len cap : Nat} {b0 i0 lo' hi' : Nat} {own : Bool} {elem : Nat → List Value} (ho : o.op = .slice t x lo hi none) (hx : f.ev x = .slice (some ⟨b0, 0, some i0⟩) len cap) (hd : undL P t = .ok (.slice e)) (hn : sizeL P e = .ok n)
    (hg : st.h.get b0 = some (.row own n lo' hi' elem)) (h1 : boundL (hi.map f.ev) len len = .ok h) (h2 : boundL (lo.map f.ev) 0 h = .ok l) : OpR P o f st (.val (.slice (some ⟨b0, 0, some (i0 + l)⟩) (h - l) (cond (Nat.beq len 0) cap 0)) st) :=
  OpR.quiet fun ρ w a hf hw => by
    have hc := hf.ev x
    rw [hx] at hc
    generalize hX : a.eval x = X at hc
    cases hc with
    | sliceI _ _ s _ _ c' o' hs hnc hcc hr hv hoo =>
      obtain ⟨s', e1, e2, _⟩ := hw.obj _ _ hg
      rw [hs] at e1; cases e1
      obtain ⟨r1, r2, r3⟩ := bounds2 (P := P) (cap' := c') h1 h2 (hf.opt hi) (hf.opt lo) (by omega) true w
      have hhc : h ≤ c' := by omega
      have hfl : (cond (Nat.beq len 0) cap 0) ≠ 0 → 0 < h - l := by
        intro hne
        cases len with
        | zero => exact absurd (hcc (by simpa using hne)) (by simp)
        | succ len => exact absurd rfl hne
      refine ⟨.slice (some (if c' = l then ⟨s.blk, o', none⟩ else (⟨s.blk, o', none⟩ : Addr).add (l * n))) (h - l) (c' - l), ?_, ?_⟩
      · simp only [execOp, ho, hX, Instr.sliceAt, Sem.run_bind, run_und hd, Result.andThen_ok, Instr.slice, Option.map_none, r1, run_sizeL hn, Sem.run_pure, Option.map_some]
        congr 3
        split <;> rfl
      · simp only [add_at]
        by_cases hcl : c' = l
        · rw [if_pos hcl]
          exact .sliceI b0 _ s _ _ _ o' hs (by omega) hfl (fun hex => by have := hr hex; rw [show c' - l = 0 by omega]; omega) hv (.inr (by omega))
        · rw [if_neg hcl]
          have hm : (c' - l) * n + l * n = c' * n := by rw [← Nat.add_mul]; congr 1; omega
          exact .sliceI b0 _ s _ _ _ (o' + l * n) hs (by omega) hfl (fun hex => by have := hr hex; rw [e2] at this ⊢; omega) hv (by
            rcases hoo with hoo | hoo
            · left; rw [hoo, e2, Nat.add_mul]; omega
            · omega)
    | sliceE _ _ c' x s hs hex =>
      obtain ⟨r1, r2, r3⟩ := bounds2 (P := P) (cap' := c') h1 h2 (hf.opt hi) (hf.opt lo) (by omega) true w
      have hh : h = 0 := by omega
      have hl : l = 0 := by omega
      subst hh; subst hl
      refine ⟨.slice (some (if c' = 0 then x else x.add (0 * n))) (0 - 0) (c' - 0), ?_, .sliceE b0 _ _ _ s hs hex⟩
      simp only [execOp, ho, hX, Instr.sliceAt, Sem.run_bind, run_und hd, Result.andThen_ok, Instr.slice, Option.map_none, r1, run_sizeL hn, Sem.run_pure, Option.map_some]
      congr 3
      split <;> rfl
    | sliceN =>
      obtain ⟨r1, r2, r3⟩ := bounds2 (P := P) (cap' := 0) h1 h2 (hf.opt hi) (hf.opt lo) (by omega) true w
      have hh : h = 0 := by omega
      have hl : l = 0 := by omega
      subst hh; subst hl
      refine ⟨.slice none (0 - 0) (0 - 0), ?_, .sliceN b0 _⟩
      simp only [execOp, ho, hX, Instr.sliceAt, Sem.run_bind, run_und hd, Result.andThen_ok, Instr.slice, Option.map_none, r1, run_sizeL hn, Sem.run_pure, if_true]
    | sliceZ _ _ x =>
      obtain ⟨r1, r2, r3⟩ := bounds2 (P := P) (cap' := 0) h1 h2 (hf.opt hi) (hf.opt lo) (by omega) true w
      have hh : h = 0 := by omega
      have hl : l = 0 := by omega
      subst hh; subst hl
      refine ⟨.slice (some x) (0 - 0) (0 - 0), ?_, .sliceZ b0 _ x⟩
      simp only [execOp, ho, hX, Instr.sliceAt, Sem.run_bind, run_und hd, Result.andThen_ok, Instr.slice, Option.map_none, r1, run_sizeL hn, Sem.run_pure, Option.map_some, if_true]
/-- s[:0:0] -/
theorem op_slice_none {P : Program} {o : Oper} {f : AFr} {st : ASt} {t e : TypeId} {x m h : Operand} {k k' : IntKind} {n : Nat} {v : Value} (ho : o.op = .slice t x none (some h) (some m)) (hm : f.ev m = .int k (.ofNat 0)) (hh : f.ev h = .int k' (.ofNat 0)) (hd : undL P t = .ok (.slice e)) (hn : sizeL P e = .ok n)
    (hv : (∃ b0 i0 a c, f.ev x = .slice (some ⟨b0, 0, some i0⟩) a c ∧ v = .slice (some ⟨b0, 1, some i0⟩) 0 0) ∨ (f.ev x = .slice none 0 0 ∧ v = .slice none 0 0) ∨ ∃ b0 o0 a c, f.ev x = .slice (some ⟨b0, o0, none⟩) a c ∧ v = .slice (some ⟨b0, 1, some 0⟩) 0 0) : OpR P o f st (.val v st) :=
  OpR.quiet fun ρ w a hf hw => by
    have hM := hf.ev m
    rw [hm] at hM
    have hH := hf.ev h
    rw [hh] at hH
    have hX := hf.ev x
    have main : ∀ (b : Option Addr) (l c : Nat), a.eval x = .slice b l c → VR ρ v (.slice b 0 0) → ∃ v', (execOp a.eval o).run P w = .ok (.value v') w ∧ VR ρ v v' := by
      intro b l c hA hv
      refine ⟨.slice b 0 0, ?_, hv⟩
      generalize hMM : a.eval m = M at hM
      generalize hHH : a.eval h = H at hH
      cases hM; cases hH
      have hb : ∀ (k : IntKind) (m' : Nat) (cc : BoundsCode) (w : World), (Instr.sliceBound (.int k (Int.ofNat 0)) m' cc).run P w = .ok 0 w := by
        intro k m' cc w
        have h4 : (0 : Int) ≤ (Int.ofNat 0) ∧ (Int.ofNat 0) ≤ m' := ⟨Int.natCast_nonneg 0, by simp⟩
        simp only [Instr.sliceBound, asIntOf, Sem.run_bind, Sem.run_pure, Result.andThen_ok, h4, and_self, if_true]
        rfl
      simp only [execOp, ho, hA, hMM, hHH, Instr.sliceAt, Sem.run_bind, run_und hd, Result.andThen_ok, Instr.slice, Instr.sliceBounds, Option.map_none, Option.map_some, hb, run_sizeL hn, Sem.run_pure, if_true, Nat.sub_self]
    rcases hv with ⟨b0, i0, l, c, hx, rfl⟩ | ⟨hx, rfl⟩ | ⟨b0, o0, l, c, hx, rfl⟩
    · rw [hx] at hX
      generalize hA : a.eval x = A at hX
      cases hX with
      | sliceI => exact main _ _ _ hA (.sliceX _ _ _)
      | sliceE => exact main _ _ _ hA (.sliceX _ _ _)
      | sliceN => exact main _ _ _ hA (.sliceX _ _ _)
      | sliceZ => exact main _ _ _ hA (.sliceX _ _ _)
    · rw [hx] at hX
      generalize hA : a.eval x = A at hX
      cases hX
      exact main _ _ _ hA .sliceNil
    · rw [hx] at hX
      generalize hA : a.eval x = A at hX
      cases hX with
      | slice => exact main _ _ _ hA (.sliceX _ _ _)

/-! ### lengths -/
theorem len_rel {P : Program} {ρ : Rho} {st : ASt} {w : World} {t : TypeId} {ts : List TypeId} {ty : TypeId} {x x' v : Value} (h : aLen P st t x = .ok v) (hx : VR ρ x x') (hw : WR ρ st.h.get w) :
    (Builtin.len_ (t :: ts).toArray ty #[x']).run P w = .ok v w ∧ VR ρ v v := by
  unfold aLen at h
  obtain ⟨d, hd, h⟩ := bnd_ok h
  split at h
  · cases h
    have := hx.string_inv
    subst this
    exact ⟨by simp [Builtin.len_, run_und hd, goInt], .int _ _⟩
  · cases h
    cases hx <;> exact ⟨by simp [Builtin.len_, run_und hd, goInt], .int _ _⟩
  · cases h
    cases hx
    exact ⟨by simp [Builtin.len_, run_und hd, goInt], .int _ _⟩
  · rename_i r
    split at h
    · rename_i es clock hg
      cases h
      cases hx with
      | map a s hs =>
        obtain ⟨s', e1, _, E, e2, e3, e4⟩ := hw.obj _ _ hg
        rw [hs] at e1; cases e1
        have hgo : (getObj s.blk).run P w = .ok (.map E clock) w := by simp [getObj, Sem.run, e2]
        exact ⟨by simp [Builtin.len_, run_und hd, goInt, hgo, e3], .int _ _⟩
    · cases h
  · cases h
    exact ⟨by simp [Builtin.len_, run_und hd, goInt], .int _ _⟩
  · cases h
theorem cap_rel {P : Program} {ρ : Rho} {st : ASt} {w : World} {t : TypeId} {ts : List TypeId} {ty : TypeId} {x x' v : Value} {e : TypeId} (h : aCap st x = .ok v) (hd : undL P t = .ok (.slice e)) (hx : VR ρ x x') (hw : WR ρ st.h.get w) :
    (Builtin.cap_ (t :: ts).toArray ty #[x']).run P w = .ok v w ∧ VR ρ v v := by
  unfold aCap at h
  split at h
  · cases h
    cases hx
    exact ⟨by simp [Builtin.cap_, run_und hd, goInt], .int _ _⟩
  · split at h
    · rename_i hg
      cases h
      cases hx with
      | slice a o s _ _ c' o' hs hn hc hxx hr ho =>
        obtain ⟨s', e1, e2⟩ := hw.obj _ _ hg
        rw [hs] at e1; cases e1
        have := hxx e2.2.1
        subst this
        exact ⟨by simp [Builtin.cap_, run_und hd, goInt], .int _ _⟩
    · cases h
  · cases h

/-! ### what kind an interface value is of -/
theorem zeroV_run {P : Program} {ρ : Rho} {t : TypeId} {z : Value} (h : zeroV P t = .ok z) : (∀ w, (zeroValue t).run P w = .ok z w) ∧ VR ρ z z := by
  unfold zeroV at h
  split at h
  · rename_i i e
    split at h
    · rename_i z' ez
      obtain ⟨h1, h2⟩ := cond_ok h
      cases h2
      exact ⟨fun w => by simp [zeroValue, typeInfo, e, ez], VR.refl 3 h1⟩
    · cases h
  · cases h
theorem VR.pair {ρ : Rho} {v v' : Value} (h : VR ρ v v') (b : Bool) : VR ρ (.tuple #[v, .bool b]) (.tuple #[v', .bool b]) := VR.tuple' (VRL.cons h (VRL.cons (.bool b) (VRL.nil ρ)))
theorem op_typeAssert {P : Program} {o : Oper} {f : AFr} {st : ASt} {x : Operand} {xt t : TypeId} {ok : Bool} {d : TypeDesc} {r : AN} (h : o.op = .typeAssert x xt t ok) (hd : undL P t = .ok d) (hni : ∀ m, d ≠ .interface m)
    (hr : (match f.ev x with
      | .nilIface => cond ok ((zeroV P t).bnd fun z => .ok (.val (.tuple #[z, .bool false]) st)) (.er "typeAssert: nil")
      | .iface t' v => cond (Nat.beq t' t) (.ok (.val (cond ok (.tuple #[v, .bool true]) v) st)) (cond ok ((zeroV P t).bnd fun z => .ok (.val (.tuple #[z, .bool false]) st)) (.er "typeAssert: fails"))
      | _ => .er "typeAssert") = Rs.ok r) : OpR P o f st r := by
  have hc : ∀ ρ a, FrR ρ f a → VR ρ (f.ev x) (a.eval x) := fun ρ a hf => hf.ev x
  split at hr
  · rename_i hx
    obtain ⟨h1, h2⟩ := cond_ok hr
    obtain ⟨z, h3, h4⟩ := bnd_ok h2
    cases h4
    subst h1
    refine OpR.quiet fun ρ w a hf hw => ?_
    have hX := hc ρ a hf
    rw [hx] at hX
    generalize hA : a.eval x = A at hX
    cases hX
    obtain ⟨z1, z2⟩ := zeroV_run (ρ := ρ) h3
    refine ⟨.tuple #[z, .bool false], ?_, VR.pair z2 false⟩
    simp only [execOp, h, hA, Instr.typeAssert, Sem.run_bind, run_und hd, Result.andThen_ok]
    cases d <;> first | exact absurd rfl (hni _) | simp [z1]
  · rename_i t' v hx
    cases ht : Nat.beq t' t with
    | true =>
      rw [ht] at hr
      cases hr
      have e : t' = t := Nat.eq_of_beq_eq_true ht
      subst e
      refine OpR.quiet fun ρ w a hf hw => ?_
      have hX := hc ρ a hf
      rw [hx] at hX
      generalize hA : a.eval x = A at hX
      cases hX with
      | iface _ _ v' hv =>
        cases ok with
        | true =>
          refine ⟨.tuple #[v', .bool true], ?_, VR.pair hv true⟩
          simp only [execOp, h, hA, Instr.typeAssert, Sem.run_bind, run_und hd, Result.andThen_ok]
          cases d <;> first | exact absurd rfl (hni _) | simp
        | false =>
          refine ⟨v', ?_, hv⟩
          simp only [execOp, h, hA, Instr.typeAssert, Sem.run_bind, run_und hd, Result.andThen_ok]
          cases d <;> first | exact absurd rfl (hni _) | simp
    | false =>
      rw [ht] at hr
      simp only [cond_false] at hr
      obtain ⟨h1, h2⟩ := cond_ok hr
      obtain ⟨z, h3, h4⟩ := bnd_ok h2
      cases h4
      subst h1
      have e : t' ≠ t := Nat.ne_of_beq_eq_false ht
      refine OpR.quiet fun ρ w a hf hw => ?_
      have hX := hc ρ a hf
      rw [hx] at hX
      generalize hA : a.eval x = A at hX
      cases hX with
      | iface _ _ v' hv =>
        obtain ⟨z1, z2⟩ := zeroV_run (ρ := ρ) h3
        refine ⟨.tuple #[z, .bool false], ?_, VR.pair z2 false⟩
        simp only [execOp, h, hA, Instr.typeAssert, Sem.run_bind, run_und hd, Result.andThen_ok]
        cases d <;> first | exact absurd rfl (hni _) | simp [z1, e]
  · cases hr
end Go.Proofs.Ytokpobfimphhgaa.Ev
