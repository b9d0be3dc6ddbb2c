/-
  What the evaluator says of single operations holds of their runs: parts of slices, lengths, kinds of interface values.
-/
import Derived.Test.YtpbnlbbieaokoaaGreatDoorGc
import Derived.Laws.BytesString
set_option linter.unusedVariables false
set_option linter.unusedSimpArgs false
namespace Go.Proofs.YtpbnlbbieaokoaaGreatDoor.Ev
open Go

/-- an operand that may be there -/
def OptR (ρ : Rho) : Option Value → Option Value → Prop
  | none, none => True
  | some v, some v' => VR ρ v v'
  | _, _ => False
theorem FrR.opt {ρ : Rho} {f : AFr} {a : Act} (h : FrR ρ f a) (x : Option Operand) : OptR ρ (x.map f.ev) (x.map a.eval) := by
  cases x with
  | none => trivial
  | some x => exact h.ev x
theorem boundL_run {P : Program} {x x' : Option Value} {d m r : Nat} {ρ : Rho} (h : boundL x d m = .ok r) (hx : OptR ρ x x') :
    (x' = none ∧ r = d) ∨ ∃ v', x' = some v' ∧ r ≤ m ∧ ∀ (m' : Nat) (c : BoundsCode) (w : World), m ≤ m' → (Instr.sliceBound v' m' c).run P w = .ok r w := by
  unfold boundL at h
  split at h
  · cases x' with
    | none => cases h; exact .inl ⟨rfl, rfl⟩
    | some v => exact hx.elim
  · rename_i k i
    obtain ⟨h1, h2⟩ := cond_ok h
    cases h2
    have h3 : r ≤ m := Nat.le_of_ble_eq_true h1
    cases x' with
    | none => exact hx.elim
    | some v =>
      cases hx
      refine .inr ⟨_, rfl, h3, fun m' c w hm => ?_⟩
      have h4 : (0 : Int) ≤ (Int.ofNat r) ∧ (Int.ofNat r) ≤ m' := ⟨Int.natCast_nonneg r, by simp; omega⟩
      simp only [Instr.sliceBound, asIntOf, Sem.run_bind, Sem.run_pure, Result.andThen_ok, h4, and_self, if_true]
      rfl
  · cases h
/-- the bounds of a slice expression of two -/
theorem bounds2 {P : Program} {lo hi lo' hi' : Option Value} {len cap cap' h l : Nat} {ρ : Rho} (h1 : boundL hi len cap = .ok h) (h2 : boundL lo 0 h = .ok l) (hh : OptR ρ hi hi') (hl : OptR ρ lo lo') (hc : cap ≤ cap') (isS : Bool) (w : World) :
    (Instr.sliceBounds isS len cap' lo' hi' none).run P w = .ok (l, h, cap') w ∧ l ≤ h ∧ (h ≤ cap ∨ h = len) := by
  have hlh : l ≤ h := by
    rcases boundL_run (P := P) h2 hl with ⟨_, rfl⟩ | ⟨v, _, e, _⟩
    · omega
    · exact e
  rcases boundL_run (P := P) h1 hh with ⟨rfl, rfl⟩ | ⟨v, rfl, e1, e2⟩
  · refine ⟨?_, hlh, .inr rfl⟩
    rcases boundL_run (P := P) h2 hl with ⟨rfl, rfl⟩ | ⟨u, rfl, e3, e4⟩
    · simp only [Instr.sliceBounds, Sem.run_bind, Sem.run_pure, Result.andThen_ok]
    · simp only [Instr.sliceBounds, Sem.run_bind, Sem.run_pure, Result.andThen_ok, e4 h _ w (Nat.le_refl _)]
  · refine ⟨?_, hlh, .inl e1⟩
    rcases boundL_run (P := P) h2 hl with ⟨rfl, rfl⟩ | ⟨u, rfl, e3, e4⟩
    · simp only [Instr.sliceBounds, Sem.run_bind, Sem.run_pure, Result.andThen_ok, e2 cap' _ w hc]
    · simp only [Instr.sliceBounds, Sem.run_bind, Sem.run_pure, Result.andThen_ok, e2 cap' _ w hc, e4 h _ w (Nat.le_refl _)]
theorem op_slice_str {P : Program} {o : Oper} {f : AFr} {st : ASt} {t : TypeId} {x : Operand} {lo hi : Option Operand} {s : ByteArray} {h l : Nat} (ho : o.op = .slice t x lo hi none) (hx : f.ev x = .string s) (hd : undL P t = .ok .string)
    (h1 : boundL (hi.map f.ev) s.size s.size = .ok h) (h2 : boundL (lo.map f.ev) 0 h = .ok l) : OpR P o f st (.val (.string ⟨((s.data.toList.take h).drop l).toArray⟩) st) :=
  OpR.quiet fun ρ w a hf hw => by
    have hc := hf.ev x
    rw [hx] at hc
    have hX := hc.string_inv
    obtain ⟨r1, r2, r3⟩ := bounds2 (P := P) (cap' := s.size) h1 h2 (hf.opt hi) (hf.opt lo) (Nat.le_refl _) false w
    refine ⟨.string (s.extract l h), ?_, ?_⟩
    · simp [execOp, ho, hX, Instr.sliceAt, run_und hd, Instr.slice, r1]
    · have : s.extract l h = ⟨((s.data.toList.take h).drop l).toArray⟩ := by
        apply ByteArray.ext
        rw [ByteArray.data_extract]
        apply Array.toList_inj.1
        simp [Array.toList_extract, List.extract_eq_take_drop, List.drop_take]
      rw [this]
      exact .string _
theorem op_slice_nil {P : Program} {o : Oper} {f : AFr} {st : ASt} {t e : TypeId} {x : Operand} {lo hi : Option Operand} {h l n : Nat} (ho : o.op = .slice t x lo hi none) (hx : f.ev x = .slice none 0 0) (hd : undL P t = .ok (.slice e)) (hn : sizeL P e = .ok n)
    (h1 : boundL (hi.map f.ev) 0 0 = .ok h) (h2 : boundL (lo.map f.ev) 0 0 = .ok l) : OpR P o f st (.val (.slice none 0 0) st) :=
  OpR.quiet fun ρ w a hf hw => by
    have hc := hf.ev x
    rw [hx] at hc
    generalize hX : a.eval x = X at hc
    cases hc
    have hh0 : h = 0 := by
      rcases boundL_run (P := P) h1 (hf.opt hi) with ⟨_, e⟩ | ⟨v, _, e, _⟩ <;> omega
    subst hh0
    obtain ⟨r1, r2, r3⟩ := bounds2 (P := P) (cap' := 0) h1 h2 (hf.opt hi) (hf.opt lo) (Nat.le_refl _) true w
    have hl0 : l = 0 := by omega
    subst hl0
    exact ⟨.slice none 0 0, by simp [execOp, ho, hX, Instr.sliceAt, run_und hd, Instr.slice, r1, run_sizeL hn], .sliceNil⟩
theorem op_slice_ex {P : Program} {o : Oper} {f : AFr} {st : ASt} {t e : TypeId} {x : Operand} {lo hi : Option Operand} {h l n len cap es : Nat} {b0 o0 : Nat} {cs : List Value} (ho : o.op = .slice t x lo hi none) (hx : f.ev x = .slice (some ⟨b0, o0, none⟩) len cap) (hd : undL P t = .ok (.slice e)) (hn : sizeL P e = .ok n)
    (hg : st.h.get b0 = some (.cells cs true es)) (h1 : boundL (hi.map f.ev) len cap = .ok h) (h2 : boundL (lo.map f.ev) 0 h = .ok l) : OpR P o f st (.val (.slice (some (cond (Nat.beq cap l) ⟨b0, o0, none⟩ ((⟨b0, o0, none⟩ : Addr).add (l * n)))) (h - l) (cap - l)) st) :=
  OpR.quiet fun ρ w a hf hw => by
    have hc := hf.ev x
    rw [hx] at hc
    generalize hX : a.eval x = X at hc
    cases hc with
    | slice _ _ s _ _ c' o' hs hnc hcc hxx hr hoo =>
      obtain ⟨s', e1, e2⟩ := hw.obj _ _ hg
      rw [hs] at e1; cases e1
      have hex : s.ex = true := e2.2.1
      have hcap := hxx hex
      subst hcap
      obtain ⟨r1, r2, r3⟩ := bounds2 (P := P) (cap' := c') h1 h2 (hf.opt hi) (hf.opt lo) (Nat.le_refl _) true w
      have hhc : h ≤ c' := by omega
      refine ⟨.slice (some (if c' = l then ⟨s.blk, o', none⟩ else (⟨s.blk, o', none⟩ : Addr).add (l * n))) (h - l) (c' - l), ?_, ?_⟩
      · simp only [execOp, ho, hX, Instr.sliceAt, Sem.run_bind, run_und hd, Result.andThen_ok, Instr.slice, Option.map_none, r1, run_sizeL hn, Sem.run_pure, Option.map_some]
        congr 3
        split <;> rfl
      · by_cases hcl : c' = l
        · have hb : Nat.beq c' l = true := by rw [hcl]; exact Nat.beq_refl l
          rw [hb, if_pos hcl]
          exact .slice b0 o0 s _ _ _ o' hs (by omega) (Nat.le_refl _) (fun _ => rfl) (fun h => by rw [hex] at h; cases h) (.inr (by omega))
        · have hb : Nat.beq c' l = false := by
            cases hb : Nat.beq c' l with
            | true => exact absurd (Nat.eq_of_beq_eq_true hb) hcl
            | false => rfl
          rw [hb, if_neg hcl]
          simp only [cond_false, add_at]
          exact .slice b0 (o0 + l * n) s _ _ _ (o' + l * n) hs (by omega) (Nat.le_refl _) (fun _ => rfl) (fun h => by rw [hex] at h; cases h) (by rcases hoo with hoo | hoo <;> omega)
theorem op_slice_own {P : Program} {o : Oper} {f : AFr} {st : ASt} {t e : TypeId} {x : Operand} {lo hi : Option Operand} {h l n len cap : Nat} {b0 o0 : Nat} {cs : List Value} (ho : o.op = .slice t x lo hi none) (hx : f.ev x = .slice (some ⟨b0, o0, none⟩) len cap) (hd : undL P t = .ok (.slice e)) (hn : sizeL P e = .ok n)
    (hg : st.h.get b0 = some (.cells cs false n)) (h1 : boundL (hi.map f.ev) len cap = .ok h) (h2 : boundL (lo.map f.ev) 0 h = .ok l) : OpR P o f st (.val (.slice (some ((⟨b0, o0, none⟩ : Addr).add (l * n))) (h - l) (cap - l)) st) :=
  OpR.quiet fun ρ w a hf hw => by
    have hc := hf.ev x
    rw [hx] at hc
    generalize hX : a.eval x = X at hc
    cases hc with
    | slice _ _ s _ _ c' o' hs hnc hcc hxx hr hoo =>
      obtain ⟨s', e1, e2⟩ := hw.obj _ _ hg
      rw [hs] at e1; cases e1
      have hex : s.ex = false := e2.2.1
      have hes : s.es = n := e2.2.2.1
      obtain ⟨r1, r2, r3⟩ := bounds2 (P := P) (cap' := c') h1 h2 (hf.opt hi) (hf.opt lo) hcc true w
      have hhc : h ≤ cap := by omega
      have hro := hr hex
      rw [hes] at hro
      refine ⟨.slice (some (if c' = l then ⟨s.blk, o', none⟩ else (⟨s.blk, o', none⟩ : Addr).add (l * n))) (h - l) (c' - l), ?_, ?_⟩
      · simp only [execOp, ho, hX, Instr.sliceAt, Sem.run_bind, run_und hd, Result.andThen_ok, Instr.slice, Option.map_none, r1, run_sizeL hn, Sem.run_pure, Option.map_some]
        congr 3
        split <;> rfl
      · simp only [add_at]
        by_cases hcl : c' = l
        · rw [if_pos hcl]
          have hz : o' + (c' - l) * s.es ≤ s.room := by
            rw [show c' - l = 0 by omega]
            have := Nat.zero_le (c' * n)
            omega
          exact .slice b0 (o0 + l * n) s _ _ _ o' hs (by omega) (by omega) (fun h => by rw [hex] at h; cases h) (fun _ => hz) (.inr (by omega))
        · rw [if_neg hcl]
          have hm : (c' - l) * n + l * n = c' * n := by rw [← Nat.add_mul]; congr 1; omega
          exact .slice b0 (o0 + l * n) s _ _ _ (o' + l * n) hs (by omega) (by omega) (fun h => by rw [hex] at h; cases h) (fun _ => by rw [hes]; omega) (by rcases hoo with hoo | hoo <;> omega)
theorem maxN_ge (a b : Nat) : a ≤ maxN a b ∧ b ≤ maxN a b ∧ (maxN a b = a ∨ maxN a b = b) := by
  unfold maxN
  cases h : Nat.ble a b with
  | true => have : a ≤ b := Nat.le_of_ble_eq_true h; exact ⟨this, Nat.le_refl _, .inr rfl⟩
  | false => have : ¬ a ≤ b := fun h2 => by rw [Nat.ble_eq_true_of_le h2] at h; cases h
             exact ⟨Nat.le_refl _, by simp; omega, .inl rfl⟩
theorem op_slice_row {P : Program} {o : Oper} {f : AFr} {st : ASt} {t e : TypeId} {x : Operand} {lo hi : Option Operand} {h l n len cap : Nat} {b0 i0 lo' hi' : Nat} {own : Rk} {elem : Nat → Nat → Td} (ho : o.op = .slice t x lo hi none) (hx : f.ev x = .slice (some ⟨b0, 0, some i0⟩) len cap) (hd : undL P t = .ok (.slice e)) (hn : sizeL P e = .ok n)
    (hg : st.h.get b0 = some (.row own n lo' hi' elem)) (h1 : boundL (hi.map f.ev) len len = .ok h) (h2 : boundL (lo.map f.ev) 0 h = .ok l) : OpR P o f st (.val (.slice (some ⟨b0, 0, some (i0 + l)⟩) (h - l) (cond (Nat.beq len 0) cap 0)) st) :=
  OpR.quiet fun ρ w a hf hw => by
    have hc := hf.ev x
    rw [hx] at hc
    generalize hX : a.eval x = X at hc
    cases hc with
    | sliceI _ _ s _ _ c' o' hs hnc hcc hr hv hoo =>
      obtain ⟨s', e1, e2, _⟩ := hw.obj _ _ hg
      rw [hs] at e1; cases e1
      obtain ⟨r1, r2, r3⟩ := bounds2 (P := P) (cap' := c') h1 h2 (hf.opt hi) (hf.opt lo) (by omega) true w
      have hhc : h ≤ c' := by omega
      have hfl : (cond (Nat.beq len 0) cap 0) ≠ 0 → 0 < h - l := by
        intro hne
        cases len with
        | zero => exact absurd (hcc (by simpa using hne)) (by simp)
        | succ len => exact absurd rfl hne
      refine ⟨.slice (some (if c' = l then ⟨s.blk, o', none⟩ else (⟨s.blk, o', none⟩ : Addr).add (l * n))) (h - l) (c' - l), ?_, ?_⟩
      · simp only [execOp, ho, hX, Instr.sliceAt, Sem.run_bind, run_und hd, Result.andThen_ok, Instr.slice, Option.map_none, r1, run_sizeL hn, Sem.run_pure, Option.map_some]
        congr 3
        split <;> rfl
      · simp only [add_at]
        by_cases hcl : c' = l
        · rw [if_pos hcl]
          exact .sliceI b0 _ s _ _ _ o' hs (by omega) hfl (fun hex => by have := hr hex; rw [show c' - l = 0 by omega]; omega) hv (.inr (by omega))
        · rw [if_neg hcl]
          have hm : (c' - l) * n + l * n = c' * n := by rw [← Nat.add_mul]; congr 1; omega
          exact .sliceI b0 _ s _ _ _ (o' + l * n) hs (by omega) hfl (fun hex => by have := hr hex; rw [e2] at this ⊢; omega) hv (by
            rcases hoo with hoo | hoo
            · left; rw [hoo, e2, Nat.add_mul]; omega
            · omega)
    | sliceE _ _ c' x s hs hex =>
      obtain ⟨r1, r2, r3⟩ := bounds2 (P := P) (cap' := c') h1 h2 (hf.opt hi) (hf.opt lo) (by omega) true w
      have hh : h = 0 := by omega
      have hl : l = 0 := by omega
      subst hh; subst hl
      refine ⟨.slice (some (if c' = 0 then x else x.add (0 * n))) (0 - 0) (c' - 0), ?_, .sliceE b0 _ _ _ s hs hex⟩
      simp only [execOp, ho, hX, Instr.sliceAt, Sem.run_bind, run_und hd, Result.andThen_ok, Instr.slice, Option.map_none, r1, run_sizeL hn, Sem.run_pure, Option.map_some]
      congr 3
      split <;> rfl
    | sliceN =>
      obtain ⟨r1, r2, r3⟩ := bounds2 (P := P) (cap' := 0) h1 h2 (hf.opt hi) (hf.opt lo) (by omega) true w
      have hh : h = 0 := by omega
      have hl : l = 0 := by omega
      subst hh; subst hl
      refine ⟨.slice none (0 - 0) (0 - 0), ?_, .sliceN b0 _⟩
      simp only [execOp, ho, hX, Instr.sliceAt, Sem.run_bind, run_und hd, Result.andThen_ok, Instr.slice, Option.map_none, r1, run_sizeL hn, Sem.run_pure, if_true]
    | sliceZ _ _ x =>
      obtain ⟨r1, r2, r3⟩ := bounds2 (P := P) (cap' := 0) h1 h2 (hf.opt hi) (hf.opt lo) (by omega) true w
      have hh : h = 0 := by omega
      have hl : l = 0 := by omega
      subst hh; subst hl
      refine ⟨.slice (some x) (0 - 0) (0 - 0), ?_, .sliceZ b0 _ x⟩
      simp only [execOp, ho, hX, Instr.sliceAt, Sem.run_bind, run_und hd, Result.andThen_ok, Instr.slice, Option.map_none, r1, run_sizeL hn, Sem.run_pure, Option.map_some, if_true]
/-- s[:0:0] -/
theorem op_slice_none {P : Program} {o : Oper} {f : AFr} {st : ASt} {t e : TypeId} {x m h : Operand} {k k' : IntKind} {n : Nat} {v : Value} (ho : o.op = .slice t x none (some h) (some m)) (hm : f.ev m = .int k (.ofNat 0)) (hh : f.ev h = .int k' (.ofNat 0)) (hd : undL P t = .ok (.slice e)) (hn : sizeL P e = .ok n)
    (hv : (∃ b0 i0 a c, f.ev x = .slice (some ⟨b0, 0, some i0⟩) a c ∧ v = .slice (some ⟨b0, 1, some i0⟩) 0 0) ∨ (f.ev x = .slice none 0 0 ∧ v = .slice none 0 0) ∨ ∃ b0 o0 a c, f.ev x = .slice (some ⟨b0, o0, none⟩) a c ∧ v = .slice (some ⟨b0, 1, some 0⟩) 0 0) : OpR P o f st (.val v st) :=
  OpR.quiet fun ρ w a hf hw => by
    have hM := hf.ev m
    rw [hm] at hM
    have hH := hf.ev h
    rw [hh] at hH
    have hX := hf.ev x
    have main : ∀ (b : Option Addr) (l c : Nat), a.eval x = .slice b l c → VR ρ v (.slice b 0 0) → ∃ v', (execOp a.eval o).run P w = .ok (.value v') w ∧ VR ρ v v' := by
      intro b l c hA hv
      refine ⟨.slice b 0 0, ?_, hv⟩
      generalize hMM : a.eval m = M at hM
      generalize hHH : a.eval h = H at hH
      cases hM; cases hH
      have hb : ∀ (k : IntKind) (m' : Nat) (cc : BoundsCode) (w : World), (Instr.sliceBound (.int k (Int.ofNat 0)) m' cc).run P w = .ok 0 w := by
        intro k m' cc w
        have h4 : (0 : Int) ≤ (Int.ofNat 0) ∧ (Int.ofNat 0) ≤ m' := ⟨Int.natCast_nonneg 0, by simp⟩
        simp only [Instr.sliceBound, asIntOf, Sem.run_bind, Sem.run_pure, Result.andThen_ok, h4, and_self, if_true]
        rfl
      simp only [execOp, ho, hA, hMM, hHH, Instr.sliceAt, Sem.run_bind, run_und hd, Result.andThen_ok, Instr.slice, Instr.sliceBounds, Option.map_none, Option.map_some, hb, run_sizeL hn, Sem.run_pure, if_true, Nat.sub_self]
    rcases hv with ⟨b0, i0, l, c, hx, rfl⟩ | ⟨hx, rfl⟩ | ⟨b0, o0, l, c, hx, rfl⟩
    · rw [hx] at hX
      generalize hA : a.eval x = A at hX
      cases hX with
      | sliceI => exact main _ _ _ hA (.sliceX _ _ _)
      | sliceE => exact main _ _ _ hA (.sliceX _ _ _)
      | sliceN => exact main _ _ _ hA (.sliceX _ _ _)
      | sliceZ => exact main _ _ _ hA (.sliceX _ _ _)
    · rw [hx] at hX
      generalize hA : a.eval x = A at hX
      cases hX
      exact main _ _ _ hA .sliceNil
    · rw [hx] at hX
      generalize hA : a.eval x = A at hX
      cases hX with
      | slice => exact main _ _ _ hA (.sliceX _ _ _)

/-! ### lengths -/
theorem len_rel {P : Program} {ρ : Rho} {st : ASt} {w : World} {t : TypeId} {ts : List TypeId} {ty : TypeId} {x x' v : Value} (h : aLen P st t x = .ok v) (hx : VR ρ x x') (hw : WR ρ st.h.get w) :
    (Builtin.len_ (t :: ts).toArray ty #[x']).run P w = .ok v w ∧ VR ρ v v := by
  unfold aLen at h
  obtain ⟨d, hd, h⟩ := bnd_ok h
  split at h
  · cases h
    have := hx.string_inv
    subst this
    exact ⟨by simp [Builtin.len_, run_und hd, goInt], .int _ _⟩
  · cases h
    cases hx <;> exact ⟨by simp [Builtin.len_, run_und hd, goInt], .int _ _⟩
  · cases h
    cases hx
    exact ⟨by simp [Builtin.len_, run_und hd, goInt], .int _ _⟩
  · rename_i r
    split at h
    · rename_i es clock hg
      cases h
      cases hx with
      | map a s hs =>
        obtain ⟨s', e1, _, E, e2, e3, e4⟩ := hw.obj _ _ hg
        rw [hs] at e1; cases e1
        have hgo : (getObj s.blk).run P w = .ok (.map E clock) w := by simp [getObj, Sem.run, e2]
        exact ⟨by simp [Builtin.len_, run_und hd, goInt, hgo, e3], .int _ _⟩
    · cases h
  · cases h
    exact ⟨by simp [Builtin.len_, run_und hd, goInt], .int _ _⟩
  · cases h
theorem cap_rel {P : Program} {ρ : Rho} {st : ASt} {w : World} {t : TypeId} {ts : List TypeId} {ty : TypeId} {x x' v : Value} {e : TypeId} (h : aCap st x = .ok v) (hd : undL P t = .ok (.slice e)) (hx : VR ρ x x') (hw : WR ρ st.h.get w) :
    (Builtin.cap_ (t :: ts).toArray ty #[x']).run P w = .ok v w ∧ VR ρ v v := by
  unfold aCap at h
  split at h
  · cases h
    cases hx
    exact ⟨by simp [Builtin.cap_, run_und hd, goInt], .int _ _⟩
  · split at h
    · rename_i hg
      cases h
      cases hx with
      | slice a o s _ _ c' o' hs hn hc hxx hr ho =>
        obtain ⟨s', e1, e2⟩ := hw.obj _ _ hg
        rw [hs] at e1; cases e1
        have := hxx e2.2.1
        subst this
        exact ⟨by simp [Builtin.cap_, run_und hd, goInt], .int _ _⟩
    · cases h
  · cases h

/-! ### what kind an interface value is of -/
theorem zeroV_run {P : Program} {ρ : Rho} {t : TypeId} {z : Value} (h : zeroV P t = .ok z) : (∀ w, (zeroValue t).run P w = .ok z w) ∧ VR ρ z z := by
  unfold zeroV at h
  split at h
  · rename_i i e
    split at h
    · rename_i z' ez
      obtain ⟨h1, h2⟩ := cond_ok h
      cases h2
      exact ⟨fun w => by simp [zeroValue, typeInfo, e, ez], VR.refl 3 h1⟩
    · cases h
  · cases h
theorem VR.pair {ρ : Rho} {v v' : Value} (h : VR ρ v v') (b : Bool) : VR ρ (.tuple #[v, .bool b]) (.tuple #[v', .bool b]) := VR.tuple' (VRL.cons h (VRL.cons (.bool b) (VRL.nil ρ)))
theorem op_typeAssert {P : Program} {o : Oper} {f : AFr} {st : ASt} {x : Operand} {xt t : TypeId} {ok : Bool} {d : TypeDesc} {r : AN} (h : o.op = .typeAssert x xt t ok) (hd : undL P t = .ok d) (hni : ∀ m, d ≠ .interface m)
    (hr : (match f.ev x with
      | .nilIface => cond ok ((zeroV P t).bnd fun z => .ok (.val (.tuple #[z, .bool false]) st)) (.er "typeAssert: nil")
      | .iface t' v => cond (Nat.beq t' t) (.ok (.val (cond ok (.tuple #[v, .bool true]) v) st)) (cond ok ((zeroV P t).bnd fun z => .ok (.val (.tuple #[z, .bool false]) st)) (.er "typeAssert: fails"))
      | _ => .er "typeAssert") = Rs.ok r) : OpR P o f st r := by
  have hc : ∀ ρ a, FrR ρ f a → VR ρ (f.ev x) (a.eval x) := fun ρ a hf => hf.ev x
  split at hr
  · rename_i hx
    obtain ⟨h1, h2⟩ := cond_ok hr
    obtain ⟨z, h3, h4⟩ := bnd_ok h2
    cases h4
    subst h1
    refine OpR.quiet fun ρ w a hf hw => ?_
    have hX := hc ρ a hf
    rw [hx] at hX
    generalize hA : a.eval x = A at hX
    cases hX
    obtain ⟨z1, z2⟩ := zeroV_run (ρ := ρ) h3
    refine ⟨.tuple #[z, .bool false], ?_, VR.pair z2 false⟩
    simp only [execOp, h, hA, Instr.typeAssert, Sem.run_bind, run_und hd, Result.andThen_ok]
    cases d <;> first | exact absurd rfl (hni _) | simp [z1]
  · rename_i t' v hx
    cases ht : Nat.beq t' t with
    | true =>
      rw [ht] at hr
      cases hr
      have e : t' = t := Nat.eq_of_beq_eq_true ht
      subst e
      refine OpR.quiet fun ρ w a hf hw => ?_
      have hX := hc ρ a hf
      rw [hx] at hX
      generalize hA : a.eval x = A at hX
      cases hX with
      | iface _ _ v' hv =>
        cases ok with
        | true =>
          refine ⟨.tuple #[v', .bool true], ?_, VR.pair hv true⟩
          simp only [execOp, h, hA, Instr.typeAssert, Sem.run_bind, run_und hd, Result.andThen_ok]
          cases d <;> first | exact absurd rfl (hni _) | simp
        | false =>
          refine ⟨v', ?_, hv⟩
          simp only [execOp, h, hA, Instr.typeAssert, Sem.run_bind, run_und hd, Result.andThen_ok]
          cases d <;> first | exact absurd rfl (hni _) | simp
    | false =>
      rw [ht] at hr
      simp only [cond_false] at hr
      obtain ⟨h1, h2⟩ := cond_ok hr
      obtain ⟨z, h3, h4⟩ := bnd_ok h2
      cases h4
      subst h1
      have e : t' ≠ t := Nat.ne_of_beq_eq_false ht
      refine OpR.quiet fun ρ w a hf hw => ?_
      have hX := hc ρ a hf
      rw [hx] at hX
      generalize hA : a.eval x = A at hX
      cases hX with
      | iface _ _ v' hv =>
        obtain ⟨z1, z2⟩ := zeroV_run (ρ := ρ) h3
        refine ⟨.tuple #[z, .bool false], ?_, VR.pair z2 false⟩
        simp only [execOp, h, hA, Instr.typeAssert, Sem.run_bind, run_und hd, Result.andThen_ok]
        cases d <;> first | exact absurd rfl (hni _) | simp [z1, e]
  · cases hr
end Go.Proofs.YtpbnlbbieaokoaaGreatDoor.Ev
/-
  What the evaluator says of single operations holds of their runs: conversions, append, copy.
-/
set_option linter.unusedVariables false
set_option linter.unusedSimpArgs false
namespace Go.Proofs.YtpbnlbbieaokoaaGreatDoor.Ev
open Go

/-! ### append -/
theorem oneC_rel {ρ : Rho} {x y : Value} (hxy : VR ρ x y) (hx : oneC x = true) : y.oneCell' = true := by
  cases hxy <;> first | rfl | simp [oneC, bad] at hx
theorem oneC_list {ρ : Rho} {l l' : List Value} (hl : VRL ρ l l') (ha : l.all oneC = true) : ∀ v ∈ l', v.oneCell' = true := by
  intro v hv
  obtain ⟨i, hi⟩ := List.getElem?_of_mem hv
  have h2 : i < l.length := by
    have := (List.getElem?_eq_some_iff.1 hi).1
    have := hl.1
    omega
  have h3 := hl.2 i _ v (List.getElem?_eq_getElem h2) hi
  rw [List.all_eq_true] at ha
  exact oneC_rel h3 (ha _ (List.getElem_mem h2))
/-- the cells of what is appended or copied -/
theorem firstL_run {P : Program} {ρ : Rho} {st : ASt} {w : World} {size n : Nat} {x x' : Value} {l : List Value} (h : firstL st size x = .ok (n, l)) (hx : VR ρ x x') (hw : WR ρ st.h.get w) :
    (∀ w0, (Builtin.lenOf x').run P w0 = .ok n w0) ∧ ∃ l', VRL ρ l l' ∧ l'.length = n * size ∧ (∀ w1 : World, w1.heap = w.heap → (Builtin.firstCells size n x').run P w1 = .ok l'.toArray w1) ∧ (l.all oneC = true → ∀ v ∈ l', v.oneCell' = true) := by
  have nothing : ∀ {a : Addr} (l0 : List Value), st.readC a (0 * size) = .ok l0 → ∀ (x : Option Addr) (c' : Nat), (∀ w0, (Builtin.lenOf (.slice x 0 c')).run P w0 = .ok 0 w0) ∧ ∃ l', VRL ρ l0 l' ∧ l'.length = 0 * size ∧ (∀ w1 : World, w1.heap = w.heap → (Builtin.firstCells size 0 (.slice x 0 c')).run P w1 = .ok l'.toArray w1) ∧ (l0.all oneC = true → ∀ v ∈ l', v.oneCell' = true) := by
    intro a l0 h1 x c'
    have hl0 : l0 = [] := by
      have : 0 * size = 0 := Nat.zero_mul _
      unfold ASt.readC at h1
      rw [this] at h1
      split at h1
      · split at h1 <;> first | (cases h1; done) | (have := of_ok h1; simp only [takeL, Option.some.injEq] at this; exact this.symm)
      · split at h1 <;> first | (cases h1; done) | (have := of_ok h1; simp only [takeL, Option.some.injEq] at this; exact this.symm)
      · cases h1
    subst hl0
    refine ⟨fun w0 => rfl, [], VRL.nil ρ, by simp, fun w1 _ => ?_, fun _ v hv => by simp at hv⟩
    have h0 : 0 * size = 0 := Nat.zero_mul _
    cases x <;> simp only [Builtin.firstCells, loadCells, h0] <;> rfl
  unfold firstL at h
  split at h
  · cases h
    cases hx
    exact ⟨fun w0 => rfl, [], VRL.nil ρ, by simp, fun w1 _ => by simp [Builtin.firstCells], fun _ v hv => by simp at hv⟩
  · rename_i a m c
    obtain ⟨l0, h1, h2⟩ := bnd_ok h
    cases h2
    cases hx with
    | slice b o s _ _ c' o' hs hn hc hxx hr ho =>
      obtain ⟨l', r1, r2, r3⟩ := readC_rel h1 hw hs
      refine ⟨fun w0 => rfl, l', r1, r2, fun w1 hw1 => ?_, oneC_list r1⟩
      simp only [locOf] at r3
      by_cases h0 : n * size = 0
      · have : l' = [] := List.eq_nil_of_length_eq_zero (by rw [r2, h0])
        subst this
        simp only [Builtin.firstCells, loadCells, h0]
        rfl
      · have ho' : o' = s.base + o := by
          rcases ho with ho | ho
          · exact ho
          · exfalso
            have : n = 0 := by omega
            rw [this] at h0; simp at h0
        subst ho'
        have := run_loadCells_list (P := P) (w := w1) ⟨s.blk, s.base + o, none⟩ l' (fun j v hv => by
          have := r3 j v hv
          unfold World.cell? at this ⊢
          rw [hw1]; exact this)
        rw [r2] at this
        simp only [Builtin.firstCells, this]
    | sliceI b i s _ _ c' o' hs hn hc hr hv ho =>
      exfalso
      unfold ASt.readC at h1
      split at h1 <;> cases h1
    | sliceE b i c' x s hs hex => exact nothing _ h1 _ _
    | sliceN b i => exact nothing _ h1 _ _
    | sliceZ b i x => exact nothing _ h1 _ _
    | sliceX b i x => exact nothing _ h1 _ _
  · rename_i s
    obtain ⟨hs1, h⟩ := cond_ok h
    have hs1 : size = 1 := Nat.eq_of_beq_eq_true hs1
    subst hs1
    cases h
    have := hx.string_inv
    subst this
    have he : s.extract 0 s.size = s := by
      apply ByteArray.ext
      rw [ByteArray.data_extract]
      apply Array.toList_inj.1
      simp only [Array.toList_extract, List.extract_eq_take_drop, Nat.sub_zero, List.drop_zero]
      exact List.take_of_length_le (by simp)
    refine ⟨fun w0 => rfl, s.data.toList.map fun b => .int .u8 b.toNat, ⟨rfl, fun i x y hx hy => by rw [hx] at hy; cases hy; simp only [List.getElem?_map] at hx; cases hd : s.data.toList[i]? with | none => rw [hd] at hx; cases hx | some b => rw [hd] at hx; cases hx; exact .int _ _⟩, by simp, fun w1 _ => ?_, fun _ v hv => ?_⟩
    · simp only [Builtin.firstCells, he, Sem.run_pure]
      congr 1
      apply Array.toList_inj.1
      simp
    · simp only [List.mem_map] at hv
      obtain ⟨b, _, rfl⟩ := hv
      rfl
  · cases h
end Go.Proofs.YtpbnlbbieaokoaaGreatDoor.Ev
