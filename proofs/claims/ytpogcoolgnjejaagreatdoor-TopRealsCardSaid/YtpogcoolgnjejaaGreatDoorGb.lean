/-
  What the evaluator says of single operations holds of their runs: parts of values, addresses, numbers.
-/
import Derived.Test.YtpogcoolgnjejaaGreatDoorGa
import Derived.Laws.Strings
import Derived.Laws.BytesString
set_option linter.unusedVariables false
set_option linter.unusedSimpArgs false
namespace Go.Proofs.YtpogcoolgnjejaaGreatDoor.Ev
open Go

/-! ### parts -/
theorem partL_run {P : Program} {ρ : Rho} {t : TypeId} {cs : List Value} {off : Nat} {v : Value} {C : Array Value} (h : partL P t cs off = .ok v) (hc : VRL ρ cs C.toList) (w : World) :
    ∃ v', (part t C off).run P w = .ok v' w ∧ VR ρ v v' := by
  unfold partL at h
  obtain ⟨n, h1, h2⟩ := bnd_ok h
  obtain ⟨l, h3, h4⟩ := bnd_ok h2
  have h5 := of_ok h3
  obtain ⟨h6, h7⟩ := takeL_some h5
  rw [dropL_eq] at h6 h7
  rcases shutL_run h4 with ⟨h8, rfl⟩ | ⟨h8, h9⟩
  · refine ⟨.agg (C.extract off (off + n)), by simp [part, run_aggL h8, run_sizeL h1], ?_⟩
    rw [h7]
    have : C.extract off (off + n) = ((C.toList.drop off).take n).toArray := by
      apply Array.toList_inj.1
      simp [Array.toList_extract, List.extract_eq_take_drop]
    rw [this]
    exact VR.agg' ((hc.drop off).take n)
  · rw [h9] at h7
    have hx : cs[off]? = some v := by
      have : ((cs.drop off).take n)[0]? = some v := by rw [← h7]; rfl
      rw [List.getElem?_take] at this
      split at this
      · simpa using this
      · cases this
    obtain ⟨y, hy, hv⟩ := hc.get hx
    refine ⟨y, ?_, hv⟩
    have hy' : C[off]? = some y := by simpa using hy
    simp [part, run_aggL h8, hy']
theorem fieldOf_ok {P : Program} {s : TypeId} {i : Nat} {fd : Field} (h : fieldOf P s i = .ok fd) : ∃ fs, undL P s = .ok (.struct fs) ∧ fs[i]? = some fd := by
  unfold fieldOf at h
  obtain ⟨d, h1, h2⟩ := bnd_ok h
  split at h2
  · rename_i fs; exact ⟨fs, h1, by simpa using of_ok h2⟩
  · cases h2
theorem op_field {P : Program} {o : Oper} {f : AFr} {st : ASt} {t : TypeId} {x : Operand} {i : Nat} {cs : Array Value} {fd : Field} {v : Value} (h : o.op = .field t x i) (hx : f.ev x = .agg cs) (h1 : fieldOf P t i = .ok fd)
    (h2 : partL P fd.type cs.toList fd.offset = .ok v) : OpR P o f st (.val v st) :=
  OpR.quiet fun ρ w a hf hw => by
    have hc := hf.ev x
    rw [hx] at hc
    generalize hT : a.eval x = T at hc
    cases hc with
    | agg _ a2 hs hh =>
      obtain ⟨fs, h3, h4⟩ := fieldOf_ok h1
      obtain ⟨v', h5, h6⟩ := partL_run h2 (VRL.of_arrays hs hh) w
      exact ⟨v', by simp [execOp, h, hT, Instr.field, run_und h3, h4, asAgg, h5], h6⟩

/-- an address, a few cells on -/
theorem VR.ptr_inv {ρ : Rho} {a : Addr} {v : Value} (hsp : a.spot = none) (h : VR ρ (.pointer (some a)) v) : ∃ s, a.spot = none ∧ ρ a.block = some s ∧ v = .pointer (some ⟨s.blk, s.base + a.off, none⟩) := by
  cases h with
  | ptr a o s h => exact ⟨s, rfl, h, rfl⟩
  | ptrI => cases hsp
/-- where it lies -/
def locOf (s : Spot) (a : Addr) : Nat := match a.spot with
  | none => s.base + a.off
  | some i => s.base + i * s.es + a.off
theorem VR.ptr_loc {ρ : Rho} {a : Addr} {v : Value} (h : VR ρ (.pointer (some a)) v) : ∃ s, ρ a.block = some s ∧ v = .pointer (some ⟨s.blk, locOf s a, none⟩) := by
  cases h with
  | ptr a o s h => exact ⟨s, h, rfl⟩
  | ptrI a j i s h => exact ⟨s, h, rfl⟩
theorem add_at (b o n : Nat) : (⟨b, o, none⟩ : Addr).add n = ⟨b, o + n, none⟩ := by
  unfold Addr.add
  split
  · rename_i h; subst h; rfl
  · rfl
theorem ptr_add {ρ : Rho} {a : Addr} {s : Spot} (hs : a.spot = none) (h : ρ a.block = some s) (n : Nat) : VR ρ (.pointer (some (a.add n))) (.pointer (some ((⟨s.blk, s.base + a.off, none⟩ : Addr).add n))) := by
  obtain ⟨b, o, sp⟩ := a
  simp only at hs h
  subst hs
  rw [add_at, add_at, Nat.add_assoc]
  exact .ptr b (o + n) s h
theorem op_fieldAddr {P : Program} {o : Oper} {f : AFr} {st : ASt} {t : TypeId} {x : Operand} {i n : Nat} {b0 o0 : Nat} {fd : Field} (h : o.op = .fieldAddr t x i) (hx : f.ev x = .pointer (some ⟨b0, o0, none⟩)) (h1 : fieldOf P t i = .ok fd)
    (h2 : sizeL P fd.type = .ok n) (h3 : n ≠ 0) : OpR P o f st (.val (.pointer (some ((⟨b0, o0, none⟩ : Addr).add fd.offset))) st) :=
  OpR.quiet fun ρ w a hf hw => by
    have hc := hf.ev x
    rw [hx] at hc
    obtain ⟨s, e1, e2, e3⟩ := hc.ptr_inv rfl
    obtain ⟨fs, h4, h5⟩ := fieldOf_ok h1
    refine ⟨_, ?_, ptr_add e1 e2 fd.offset⟩
    simp [execOp, h, e3, Instr.fieldAt, run_und h4, h5, Instr.sureAddr, fieldPlace, run_sizeL h2, h3]
theorem op_fieldAddrI {P : Program} {o : Oper} {f : AFr} {st : ASt} {t : TypeId} {x : Operand} {i n : Nat} {b0 o0 i0 : Nat} {fd : Field} (h : o.op = .fieldAddr t x i) (hx : f.ev x = .pointer (some ⟨b0, o0, some i0⟩)) (h1 : fieldOf P t i = .ok fd)
    (h2 : sizeL P fd.type = .ok n) (h3 : n ≠ 0) : OpR P o f st (.val (.pointer (some ⟨b0, o0 + fd.offset, some i0⟩)) st) :=
  OpR.quiet fun ρ w a hf hw => by
    have hc := hf.ev x
    rw [hx] at hc
    generalize hT : a.eval x = T at hc
    cases hc with
    | ptrI _ _ _ s e2 =>
      obtain ⟨fs, h4, h5⟩ := fieldOf_ok h1
      refine ⟨.pointer (some ⟨s.blk, s.base + i0 * s.es + (o0 + fd.offset), none⟩), ?_, .ptrI _ _ _ s e2⟩
      simp [execOp, h, hT, Instr.fieldAt, run_und h4, h5, Instr.sureAddr, fieldPlace, run_sizeL h2, h3, add_at, Nat.add_assoc]
theorem op_indexAddrI {P : Program} {o : Oper} {f : AFr} {st : ASt} {t e : TypeId} {x y : Operand} {k : IntKind} {i n m c : Nat} {b0 i0 lo hi : Nat} {elem : Nat → Nat → Td} (h : o.op = .indexAddr t x y) (hy : f.ev y = .int k (.ofNat i)) (h1 : undL P t = .ok (.slice e)) (hx : f.ev x = .slice (some ⟨b0, 0, some i0⟩) n c)
    (h2 : sizeL P e = .ok m) (h3 : i < n) {own : Rk} (hg : st.h.get b0 = some (.row own m lo hi elem)) : OpR P o f st (.val (.pointer (some ⟨b0, 0, some (i0 + i)⟩)) st) :=
  OpR.quiet fun ρ w a hf hw => by
    have hc := hf.ev x
    have hi := hf.ev y
    rw [hx] at hc
    rw [hy] at hi
    generalize hT : a.eval x = T at hc
    generalize hI : a.eval y = I at hi
    cases hi
    cases hc with
    | sliceI _ _ s _ _ c' o' hs hn hcc hr hv ho =>
      obtain ⟨s', e5, e6, _⟩ := hw.obj _ _ hg
      rw [hs] at e5; cases e5
      have e1 : o' = s.base + i0 * s.es := by rcases ho with ho | ho <;> omega
      refine ⟨.pointer (some ⟨s.blk, s.base + (i0 + i) * s.es + 0, none⟩), ?_, .ptrI _ _ _ s hs⟩
      have h4 : (0 : Int) ≤ (Int.ofNat i) ∧ (Int.ofNat i) < n := ⟨Int.natCast_nonneg i, by simp; omega⟩
      have h5 : ((Int.ofNat i).toNat) = i := rfl
      simp only [execOp, h, hT, hI, Instr.indexAt, asIntOf, run_und h1, Sem.run_bind, Sem.run_pure, Result.andThen_ok, e1, h4, run_sizeL h2, and_self, if_true, h5, add_at, e6, Nat.add_mul, Nat.add_assoc, Nat.add_zero]
    | sliceE => omega
    | sliceN => omega
    | sliceZ => omega
theorem op_indexAddr {P : Program} {o : Oper} {f : AFr} {st : ASt} {t e : TypeId} {x y : Operand} {k : IntKind} {i n m c : Nat} {b0 o0 : Nat} (h : o.op = .indexAddr t x y) (hy : f.ev y = .int k (.ofNat i)) (h1 : undL P t = .ok (.slice e)) (hx : f.ev x = .slice (some ⟨b0, o0, none⟩) n c)
    (h2 : sizeL P e = .ok m) (h3 : i < n) : OpR P o f st (.val (.pointer (some ((⟨b0, o0, none⟩ : Addr).add (i * m)))) st) :=
  OpR.quiet fun ρ w a hf hw => by
    have hc := hf.ev x
    have hi := hf.ev y
    rw [hx] at hc
    rw [hy] at hi
    generalize hT : a.eval x = T at hc
    generalize hI : a.eval y = I at hi
    cases hi
    cases hc with
    | slice _ _ s _ _ c' o' hs hn hcc hxx hr ho =>
      have e1 : o' = s.base + o0 := by rcases ho with ho | ho <;> omega
      refine ⟨.pointer (some ((⟨s.blk, s.base + o0, none⟩ : Addr).add (i * m))), ?_, ptr_add (a := ⟨b0, o0, none⟩) rfl hs _⟩
      have h4 : (0 : Int) ≤ (Int.ofNat i) ∧ (Int.ofNat i) < n := ⟨Int.natCast_nonneg i, by simp; omega⟩
      have h5 : ((Int.ofNat i).toNat) = i := rfl
      simp only [execOp, h, hT, hI, Instr.indexAt, asIntOf, run_und h1, Sem.run_bind, Sem.run_pure, Result.andThen_ok, e1, h4, run_sizeL h2, and_self, if_true, h5]
theorem op_indexAddr_arr {P : Program} {o : Oper} {f : AFr} {st : ASt} {t e : TypeId} {x y : Operand} {k : IntKind} {i n m : Nat} {b0 o0 : Nat} (h : o.op = .indexAddr t x y) (hy : f.ev y = .int k (.ofNat i)) (h1 : undL P t = .ok (.array n e)) (hx : f.ev x = .pointer (some ⟨b0, o0, none⟩))
    (h2 : sizeL P e = .ok m) (h3 : i < n) : OpR P o f st (.val (.pointer (some ((⟨b0, o0, none⟩ : Addr).add (i * m)))) st) :=
  OpR.quiet fun ρ w a hf hw => by
    have hc := hf.ev x
    have hi := hf.ev y
    rw [hx] at hc
    rw [hy] at hi
    obtain ⟨s, e1, e2, e3⟩ := hc.ptr_inv rfl
    generalize hI : a.eval y = I at hi
    cases hi
    refine ⟨_, ?_, ptr_add e1 e2 (i * m)⟩
    have h4 : (0 : Int) ≤ (Int.ofNat i) ∧ (Int.ofNat i) < n := ⟨Int.natCast_nonneg i, by simp; omega⟩
    have h5 : ((Int.ofNat i).toNat) = i := rfl
    simp only [execOp, h, e3, hI, Instr.indexAt, asIntOf, run_und h1, Sem.run_bind, Sem.run_pure, Result.andThen_ok, h4, run_sizeL h2, and_self, if_true, h5, Instr.sureAddr]
theorem op_indexAddr_arrI {P : Program} {o : Oper} {f : AFr} {st : ASt} {t e : TypeId} {x y : Operand} {k : IntKind} {i n m : Nat} {b0 o0 i0 : Nat} (h : o.op = .indexAddr t x y) (hy : f.ev y = .int k (.ofNat i)) (h1 : undL P t = .ok (.array n e)) (hx : f.ev x = .pointer (some ⟨b0, o0, some i0⟩))
    (h2 : sizeL P e = .ok m) (h3 : i < n) : OpR P o f st (.val (.pointer (some ⟨b0, o0 + i * m, some i0⟩)) st) :=
  OpR.quiet fun ρ w a hf hw => by
    have hc := hf.ev x
    have hi := hf.ev y
    rw [hx] at hc
    rw [hy] at hi
    generalize hT : a.eval x = T at hc
    generalize hI : a.eval y = I at hi
    cases hi
    cases hc with
    | ptrI _ _ _ s e2 =>
      refine ⟨.pointer (some ⟨s.blk, s.base + i0 * s.es + (o0 + i * m), none⟩), ?_, .ptrI _ _ _ s e2⟩
      have h4 : (0 : Int) ≤ (Int.ofNat i) ∧ (Int.ofNat i) < n := ⟨Int.natCast_nonneg i, by simp; omega⟩
      have h5 : ((Int.ofNat i).toNat) = i := rfl
      simp only [execOp, h, hT, hI, Instr.indexAt, asIntOf, run_und h1, Sem.run_bind, Sem.run_pure, Result.andThen_ok, h4, run_sizeL h2, and_self, if_true, h5, Instr.sureAddr, add_at, Nat.add_assoc]
theorem op_index_str {P : Program} {o : Oper} {f : AFr} {st : ASt} {t : TypeId} {x y : Operand} {k : IntKind} {i : Nat} {s : ByteArray} {b : UInt8} (h : o.op = .index t x y) (hy : f.ev y = .int k (.ofNat i)) (hx : f.ev x = .string s) (h1 : undL P t = .ok .string)
    (h2 : s.data.toList[i]? = some b) : OpR P o f st (.val (.int .u8 b.toNat) st) :=
  OpR.quiet fun ρ w a hf hw => by
    have hc := hf.ev x
    have hi := hf.ev y
    rw [hx] at hc
    rw [hy] at hi
    generalize hT : a.eval x = T at hc
    generalize hI : a.eval y = I at hi
    cases hi
    cases hc
    refine ⟨.int .u8 b.toNat, ?_, .int _ _⟩
    have h4 : (0 : Int) ≤ (Int.ofNat i) := Int.natCast_nonneg i
    have h5 : s[i]? = some b := by
      have hlt := (List.getElem?_eq_some_iff.1 h2)
      obtain ⟨hl, he⟩ := hlt
      have hl' : i < s.size := by simpa using hl
      rw [getElem?_pos s i hl']
      simp only [Option.some.injEq]
      rw [← he]
      rfl
    have h6 : ((Int.ofNat i).toNat) = i := rfl
    simp only [execOp, h, hT, hI, Instr.index, asIntOf, run_und h1, Sem.run_bind, Sem.run_pure, Result.andThen_ok, h4, if_true, h6, h5]
theorem op_index_arr {P : Program} {o : Oper} {f : AFr} {st : ASt} {t e : TypeId} {x y : Operand} {k : IntKind} {i n m : Nat} {cs : Array Value} {v : Value} (h : o.op = .index t x y) (hy : f.ev y = .int k (.ofNat i)) (hx : f.ev x = .agg cs) (h1 : undL P t = .ok (.array n e))
    (h2 : sizeL P e = .ok m) (h3 : i < n) (h4 : partL P e cs.toList (i * m) = .ok v) : OpR P o f st (.val v st) :=
  OpR.quiet fun ρ w a hf hw => by
    have hc := hf.ev x
    have hi := hf.ev y
    rw [hx] at hc
    rw [hy] at hi
    generalize hT : a.eval x = T at hc
    generalize hI : a.eval y = I at hi
    cases hi
    cases hc with
    | agg _ a2 hs hh =>
      obtain ⟨v', h5, h6⟩ := partL_run h4 (VRL.of_arrays hs hh) w
      refine ⟨v', ?_, h6⟩
      have h7 : (0 : Int) ≤ (Int.ofNat i) ∧ (Int.ofNat i) < n := ⟨Int.natCast_nonneg i, by simp; omega⟩
      have h8 : ((Int.ofNat i).toNat) = i := rfl
      simp only [execOp, h, hT, hI, Instr.index, asIntOf, run_und h1, Sem.run_bind, Sem.run_pure, Result.andThen_ok, h7, run_sizeL h2, and_self, if_true, h8, h5]
theorem op_nilCheck {P : Program} {o : Oper} {f : AFr} {st : ASt} {x : Operand} (h : o.op = .nilCheck x)
    (hx : (match f.ev x with | .pointer (some _) | .iface .. | .func (.func _) .. | .slice .. | .map _ => true | _ => false) = true) : OpR P o f st (.val (f.ev x) st) :=
  OpR.quiet fun ρ w a hf hw => by
    have hc := hf.ev x
    refine ⟨a.eval x, ?_, hc⟩
    generalize hT : a.eval x = T at hc
    generalize f.ev x = X at hx hc
    cases hc
    case any => simp [bad] at hx
    case func fn _ _ _ _ _ _ _ _ => cases fn <;> first | (simp at hx; done) | simp [execOp, h, hT]
    all_goals first | (simp at hx; done) | simp [execOp, h, hT]

/-! ### numbers, and what is told of two -/
theorem op_unOp {P : Program} {o : Oper} {f : AFr} {st : ASt} {u : UnOp} {t : TypeId} {x : Operand} {v : Value} (h : o.op = .unOp u t x) (hx : ground 1 (f.ev x) = true) (hv : pureRun P (Op.unary u (f.ev x)) = .ok v) (hg : refl1 v = true) : OpR P o f st (.val v st) :=
  OpR.quiet fun ρ w a hf hw => by
    have hc := VR.ground 1 hx (hf.ev x)
    exact ⟨v, by simp [execOp, h, hc, pureRun_ok hv], refl1_VR hg⟩

theorem condn_ok {c r b : Bool} (h : cond c (some r) none = some b) : c = true ∧ some r = some b := by
  cases c with
  | true => exact ⟨rfl, h⟩
  | false => cases h
theorem flag_ne {n c : Nat} (h : c ≠ 0 → 0 < n) : (Nat.beq n 0 && Nat.beq c 1) = false := by
  cases n with
  | zero =>
    cases c with
    | zero => rfl
    | succ c => exact absurd (h (by simp)) (by simp)
  | succ n => rfl
theorem VR.row_nil {ρ : Rho} {a i n c : Nat} {v : Value} (h : VR ρ (.slice (some ⟨a, 0, some i⟩) n c) v) : ∃ b c', v = .slice b n c' ∧ b.isNone = (Nat.beq n 0 && Nat.beq c 1) := by
  cases h with
  | sliceI _ _ s _ _ c' o' hs hn hc => exact ⟨_, _, rfl, (flag_ne hc).symm⟩
  | sliceE => exact ⟨_, _, rfl, rfl⟩
  | sliceN => exact ⟨_, _, rfl, rfl⟩
  | sliceZ => exact ⟨_, _, rfl, rfl⟩
theorem aNil_in {P : Program} {ρ : Rho} {t : TypeId} {d : TypeDesc} {x y x' y' : Value} {b : Bool} (k : Nat) (hd : undL P t = .ok d) (h : aNil d x y = some b) (hx : VR ρ x x') (hy : VR ρ y y') (w : World) : (Op.equalIn (k + 1) t x' y').run P w = .ok b w := by
  unfold aNil at h
  split at h <;> first
    | (cases h; done)
    | (obtain ⟨b, c', rfl, hb⟩ := VR.row_nil hx; cases h; cases hy; rw [← hb]; cases b <;> simp [Op.equalIn, run_und hd]; done)
    | (obtain ⟨b, c', rfl, hb⟩ := VR.row_nil hy; cases h; cases hx; rw [← hb]; cases b <;> simp [Op.equalIn, run_und hd]; done)
    | (cases h; cases hx <;> cases hy <;> (simp [Op.equalIn, run_und hd]; done))
theorem aNil_run {P : Program} {ρ : Rho} {t : TypeId} {d : TypeDesc} {x y x' y' : Value} {b : Bool} (hd : undL P t = .ok d) (h : aNil d x y = some b) (hx : VR ρ x x') (hy : VR ρ y y') (w : World) : (Op.equal t x' y').run P w = .ok b w :=
  aNil_in 9999 hd h hx hy w
theorem aNil_bin {d : TypeDesc} {x y : Value} {b : Bool} {ρ : Rho} {x' y' : Value} (h : aNil d x y = some b) (hx : VR ρ x x') (hy : VR ρ y y') (t : TypeId) (xo yo : Operand) :
    (do eqGuard .eql t xo yo x' y'; binOp .eql t x' y') = (do pure (.bool (← Op.equal t x' y')) : Sem Value) ∧ (do eqGuard .neq t xo yo x' y'; binOp .neq t x' y') = (do pure (.bool (!(← Op.equal t x' y'))) : Sem Value) := by
  unfold aNil at h
  split at h <;> first
    | (cases h; done)
    | (cases h; cases hx <;> cases hy <;> (simp [eqGuard, binOp]; done))
theorem aStr_run {P : Program} {op : BinOp} {t : TypeId} {xo yo : Operand} {a b : ByteArray} {v : Value} (h : aStr op a b = some v) (w : World) : (do eqGuard op t xo yo (.string a) (.string b); binOp op t (.string a) (.string b) : Sem Value).run P w = .ok v w ∧ ∃ n, ground n v = true := by
  have e : (eqGuard op t xo yo (.string a) (.string b)) = (pure () : Sem Unit) := by
    unfold eqGuard
    cases op <;> simp
  rw [e]
  unfold aStr at h
  cases op <;> simp only [Option.some.injEq] at h
  case add =>
    cases hb : Nat.ble (a.size + b.size) 1000000000 with
    | false => rw [hb] at h; simp at h
    | true =>
      rw [hb] at h
      simp only [cond_true, Option.some.injEq] at h
      subst h
      have h1 : a.size + b.size ≤ 1000000000 := Nat.le_of_ble_eq_true hb
      have h2 : (a ++ b) = ⟨(a.data.toList ++ b.data.toList).toArray⟩ := by
        apply ByteArray.ext
        rw [ByteArray.data_append]
        apply Array.toList_inj.1
        simp
      have h3 : ¬ (((a.size + b.size : Nat) : Int) > IntKind.i64.max) := by
        have : IntKind.i64.max = 9223372036854775807 := by decide
        rw [this]; omega
      refine ⟨?_, 0, rfl⟩
      simp only [Sem.run_bind, Sem.run_pure, Result.andThen_ok, binOp, Op.stringOp]
      rw [if_neg h3, ← h2]
      rfl
  all_goals (try (cases h; done))
  all_goals subst h
  all_goals exact ⟨by simp [binOp, Op.stringOp, ByteArray.toList_eq], 0, rfl⟩
theorem VR.string_inv {ρ : Rho} {s : ByteArray} {v : Value} (h : VR ρ (.string s) v) : v = .string s := by cases h; rfl
theorem aBin_ok {P : Program} {op : BinOp} {t : TypeId} {xo yo : Operand} {x y x' y' : Value} {r : Pr Value} {ρ : Rho} (h : aBin P op t xo yo x y = .ok r) (hx : VR ρ x x') (hy : VR ρ y y') (w : World) :
    (∃ v v', r = .ok v ∧ (do eqGuard op t xo yo x' y'; binOp op t x' y' : Sem Value).run P w = .ok v' w ∧ VR ρ v v') ∨
    (∃ v v', r = .panic v ∧ (do eqGuard op t xo yo x' y'; binOp op t x' y' : Sem Value).run P w = .halt (.panic v') w ∧ VR ρ v v') := by
  unfold aBin at h
  split at h
  · rename_i a b
    rw [hx.string_inv, hy.string_inv]
    split at h
    · rename_i v hv
      cases h
      obtain ⟨h1, n, h2⟩ := aStr_run (P := P) (t := t) (xo := xo) (yo := yo) hv w
      exact .inl ⟨v, v, rfl, h1, VR.refl n h2⟩
    · cases h
  · cases hg : (ground 4 x && ground 4 y) with
    | true =>
      rw [hg] at h
      simp only [cond_true] at h
      simp only [Bool.and_eq_true] at hg
      rw [VR.ground 4 hg.1 hx, VR.ground 4 hg.2 hy]
      split at h
      · rename_i v hv
        obtain ⟨h1, h2⟩ := cond_ok h
        cases h2
        exact .inl ⟨v, v, rfl, pureRun_ok hv w, refl1_VR h1⟩
      · rename_i v hv
        obtain ⟨h1, h2⟩ := cond_ok h
        cases h2
        exact .inr ⟨v, v, rfl, pureRun_panic hv w, VR.refl 3 h1⟩
      · cases h
    | false =>
      rw [hg] at h
      simp only [cond_false] at h
      split at h
      · rename_i q hq
        obtain ⟨d, h1, h2⟩ := bnd_ok h
        split at h2
        · rename_i b hb
          cases h2
          obtain ⟨e1, e2⟩ := aNil_bin hb hx hy t xo yo
          have hr := aNil_run h1 hb hx hy w
          refine .inl ⟨_, .bool (b == q), rfl, ?_, .bool _⟩
          cases op <;> simp [isEq] at hq
          · subst hq; rw [e1]; simp [hr]
          · subst hq; rw [e2]; simp [hr]
        · cases h2
      · cases h
/-! ### floating-point numbers, where one is none -/
theorem float_inv {ρ : Rho} {k : FloatKind} {a : Nat} {v' : Value} (h : VR ρ (.float k a) v') : ∃ a', v' = .float k a' ∧ nanB k a' = nanB k a ∧ (nanB k a = false → a' = a) := by
  cases h with
  | float => exact ⟨a, rfl, rfl, fun _ => rfl⟩
  | nan _ _ b' h h' => exact ⟨b', rfl, by rw [h, h'], fun e => by rw [h] at e; cases e⟩
theorem nan_read {k : FloatKind} {a : Nat} (h : nanB k a = true) : ∃ s p, k.format.read a = .nan s p := by
  unfold nanB Ieee.Format.order at h
  cases hr : k.format.read a with
  | nan s p => exact ⟨s, p, rfl⟩
  | infinity s => rw [hr] at h; simp [Ieee.Datum.order] at h
  | number s m i => rw [hr] at h; simp [Ieee.Datum.order] at h
theorem arith_nan {k : FloatKind} {a b : Nat} (h : (nanB k a || nanB k b) = true) : k.format.add a b = none ∧ k.format.sub a b = none ∧ k.format.mul a b = none ∧ k.format.div a b = none ∧ k.format.order a b = none := by
  simp only [Bool.or_eq_true] at h
  rcases h with h | h
  · obtain ⟨s, p, e⟩ := nan_read h
    refine ⟨?_, ?_, ?_, ?_, ?_⟩ <;> simp only [Ieee.Format.add, Ieee.Format.sub, Ieee.Format.mul, Ieee.Format.div, Ieee.Format.order, e] <;> cases k.format.read b <;> rfl
  · obtain ⟨s, p, e⟩ := nan_read h
    refine ⟨?_, ?_, ?_, ?_, ?_⟩ <;> simp only [Ieee.Format.add, Ieee.Format.sub, Ieee.Format.mul, Ieee.Format.div, Ieee.Format.order, e] <;> cases k.format.read a <;> rfl
theorem nan_of_read {k : FloatKind} {a : Nat} {s : Bool} {p : Nat} (h : k.format.read a = .nan s p) : nanB k a = true := by
  unfold nanB Ieee.Format.order
  rw [h]
  rfl
theorem cut_nan (k : FloatKind) (x y t : Nat) : nanB k ((Question.nanBits k x y).cut t) = true := by
  cases k with
  | f32 =>
    have h1 : (Question.nanBits .f32 x y).cut t = (t % 2) * 2 ^ 31 + 0x7f800000 + 1 + (t / 2) % (2 ^ 23 - 1) := rfl
    have s1 : Ieee.single.signWeight = 2147483648 := by decide
    have s2 : Ieee.single.infRung = 2139095040 := by decide
    have s3 : Ieee.single.binade = 8388608 := by decide
    apply nan_of_read (s := (Question.nanBits .f32 x y).cut t / Ieee.single.signWeight % 2 == 1) (p := (Question.nanBits .f32 x y).cut t % Ieee.single.signWeight - Ieee.single.infRung)
    have hw : (Question.nanBits .f32 x y).cut t % 2147483648 = 2139095041 + (t / 2) % (2 ^ 23 - 1) := by
      have hlt : (t / 2) % (2 ^ 23 - 1) < 2 ^ 23 - 1 := Nat.mod_lt _ (by decide)
      rw [h1]
      generalize (t / 2) % (2 ^ 23 - 1) = m at hlt ⊢
      rw [show (t % 2) * 2 ^ 31 + 0x7f800000 + 1 + m = 2139095041 + m + 2147483648 * (t % 2) by omega, Nat.add_mul_mod_self_left, Nat.mod_eq_of_lt (by omega)]
    show Ieee.single.read _ = _
    unfold Ieee.Format.read
    simp only [s1, s2, s3]
    rw [hw, if_neg (by omega), if_neg (by omega), if_neg (by omega)]
  | f64 =>
    have h1 : (Question.nanBits .f64 x y).cut t = (t % 2) * 2 ^ 63 + 0x7ff0000000000000 + 1 + (t / 2) % (2 ^ 52 - 1) := rfl
    have s1 : Ieee.double.signWeight = 9223372036854775808 := by decide
    have s2 : Ieee.double.infRung = 9218868437227405312 := by decide
    have s3 : Ieee.double.binade = 4503599627370496 := by decide
    apply nan_of_read (s := (Question.nanBits .f64 x y).cut t / Ieee.double.signWeight % 2 == 1) (p := (Question.nanBits .f64 x y).cut t % Ieee.double.signWeight - Ieee.double.infRung)
    have hw : (Question.nanBits .f64 x y).cut t % 9223372036854775808 = 9218868437227405313 + (t / 2) % (2 ^ 52 - 1) := by
      have hlt : (t / 2) % (2 ^ 52 - 1) < 2 ^ 52 - 1 := Nat.mod_lt _ (by decide)
      rw [h1]
      generalize (t / 2) % (2 ^ 52 - 1) = m at hlt ⊢
      rw [show (t % 2) * 2 ^ 63 + 0x7ff0000000000000 + 1 + m = 9218868437227405313 + m + 9223372036854775808 * (t % 2) by omega, Nat.add_mul_mod_self_left, Nat.mod_eq_of_lt (by omega)]
    show Ieee.double.read _ = _
    unfold Ieee.Format.read
    simp only [s1, s2, s3]
    rw [hw, if_neg (by omega), if_neg (by omega), if_neg (by omega)]
theorem qnan_nan (k : FloatKind) : nanB k (qnan k) = true := by cases k <;> decide +kernel
theorem run_arithF_some {P : Program} {op : BinOp} {k : FloatKind} {a b r : Nat} (h : arithF k op a b = some (some r)) (t : TypeId) (xo yo : Operand) (w : World) :
    (do eqGuard op t xo yo (.float k a) (.float k b); binOp op t (.float k a) (.float k b) : Sem Value).run P w = .ok (.float k r) w := by
  unfold arithF at h
  split at h <;> first | (cases h; done) | (simp only [Option.some.injEq] at h; simp [eqGuard, binOp, Op.floatArith, h])
theorem run_arithF_none {P : Program} {op : BinOp} {k : FloatKind} {a b : Nat} (h : arithF k op a b = some none) (t : TypeId) (xo yo : Operand) (w : World) :
    (do eqGuard op t xo yo (.float k a) (.float k b); binOp op t (.float k a) (.float k b) : Sem Value).run P w = .ok (.float k ((Question.nanBits k a b).cut (w.tape w.drawn (.nanBits k a b)))) w.drew := by
  unfold arithF at h
  split at h <;> first | (cases h; done) | (simp only [Option.some.injEq] at h; simp [eqGuard, binOp, Op.floatArith, h, run_choose_drew, Question.forced])
theorem run_cmpF {P : Program} {op : BinOp} {k : FloatKind} {a b : Nat} {v : Value} (hn : (nanB k a || nanB k b) = true) (h : (match op with
        | .add | .sub | .mul | .quo => some (.float k (qnan k))
        | .eql | .lss | .leq | .gtr | .geq => some (.bool false)
        | .neq => some (.bool true)
        | _ => none : Option Value) = some v) (ha : arithF k op a b = none) (t : TypeId) (xo yo : Operand) (w : World) :
    (do eqGuard op t xo yo (.float k a) (.float k b); binOp op t (.float k a) (.float k b) : Sem Value).run P w = .ok v w ∧ ∃ q, v = .bool q := by
  have ho := (arith_nan hn).2.2.2.2
  cases op <;> simp [arithF] at ha <;> simp at h <;> subst h <;> exact ⟨by simp [eqGuard, binOp, Op.floatCmp, ho], _, rfl⟩
theorem WR.drew {ρ : Rho} {g : Mem} {w : World} (h : WR ρ g w) : WR ρ g w.drew := ⟨h.blk, fun a o e => by obtain ⟨s, e1, e2⟩ := h.obj a o e; exact ⟨s, e1, e2.kept (Sub.refl _) (fun _ => rfl) (fun _ _ => rfl)⟩, h.inj, h.fz, gl_keep h (Nat.le_refl _) (fun _ _ _ => rfl) fun _ h => .inr h⟩
theorem Mv.drew {ρ : Rho} {g : Mem} {w : World} (h : WR ρ g w) (n : Nat) : Mv ρ ρ g g n n w w.drew :=
  ⟨Nat.le_refl _, Sub.refl _, fun _ _ h => .inl h, Nat.le_refl _, fun _ _ _ => rfl, fun _ h => .inr h, rfl, rfl, rfl, h.drew, fun a o h => .inl ⟨o, h⟩, fun _ _ h _ => .inl h, fun _ h => .inl h⟩
theorem sameF_eq {a b : FloatKind} (h : sameF a b = true) : a = b := by cases a <;> cases b <;> simp [sameF] at h <;> rfl
theorem op_float {P : Program} {o : Oper} {f : AFr} {st : ASt} {op : BinOp} {t ty : TypeId} {x y : Operand} {v : Value} (h : o.op = .binOp op t x y ty) (hr : aFloat op (f.ev x) (f.ev y) = some v) : OpR P o f st (.val v st) := by
  refine ⟨LoS.refl st, fun ρ w a hf hw _ => ?_⟩
  have ex := hf.ev x
  have ey := hf.ev y
  unfold aFloat at hr
  split at hr
  · rename_i k n k' m hx hy
    rw [hx] at ex; rw [hy] at ey
    cases hk : sameF k k' with
    | false => rw [hk] at hr; cases hr
    | true =>
      rw [hk] at hr
      simp only [cond_true] at hr
      have := sameF_eq hk
      subst this
      obtain ⟨n', e1, e2, e3⟩ := float_inv ex
      obtain ⟨m', f1, f2, f3⟩ := float_inv ey
      have key : ∀ {v' : Value} {w' : World}, (do eqGuard op t x y (.float k n') (.float k m'); binOp op t (.float k n') (.float k m') : Sem Value).run P w = .ok v' w' → (execOp a.eval o).run P w = .ok (.value v') w' := by
        intro v' w' e
        simp only [execOp, h, e1, f1]
        rw [Sem.run_bind, e]
        rfl
      cases hn : (nanB k n || nanB k m) with
      | true =>
        rw [hn] at hr
        simp only [cond_true] at hr
        have hn' : (nanB k n' || nanB k m') = true := by rw [e2, f2]; exact hn
        cases ha : arithF k op n' m' with
        | none =>
          obtain ⟨r1, q, rfl⟩ := run_cmpF (P := P) hn' hr ha t x y w
          exact ⟨ρ, _, w, .inl (key r1), .bool _, Mv.refl hw _⟩
        | some r =>
          obtain ⟨z1, z2, z3, z4, _⟩ := arith_nan hn'
          have hrn : r = none ∧ v = .float k (qnan k) := by
            unfold arithF at ha
            split at ha <;> simp at ha <;> simp at hr <;> subst ha <;> subst hr
            · exact ⟨z1, rfl⟩
            · exact ⟨z2, rfl⟩
            · exact ⟨z3, rfl⟩
            · exact ⟨z4, rfl⟩
          obtain ⟨rfl, rfl⟩ := hrn
          have r1 := run_arithF_none (P := P) ha t x y w
          exact ⟨ρ, _, w.drew, .inl (key r1), .nan _ _ _ (qnan_nan k) (cut_nan _ _ _ _), Mv.drew hw _⟩
      | false =>
        rw [hn] at hr
        simp only [cond_false] at hr
        simp only [Bool.or_eq_false_iff] at hn
        have e4 := e3 hn.1
        have f4 := f3 hn.2
        subst e4 f4
        split at hr
        · rename_i ha
          cases hr
          have r1 := run_arithF_none (P := P) ha t x y w
          exact ⟨ρ, _, w.drew, .inl (key r1), .nan _ _ _ (qnan_nan k) (cut_nan _ _ _ _), Mv.drew hw _⟩
        · rename_i r ha
          cases hr
          have r1 := run_arithF_some (P := P) ha t x y w
          exact ⟨ρ, _, w, .inl (key r1), .float _ _, Mv.refl hw _⟩
        · cases hr
  · cases hr
theorem op_binOp {P : Program} {o : Oper} {f : AFr} {st : ASt} {op : BinOp} {t ty : TypeId} {x y : Operand} {r : Pr Value} (h : o.op = .binOp op t x y ty) (hr : aBin P op t x y (f.ev x) (f.ev y) = .ok r) :
    (∀ v, r = .ok v → OpR P o f st (.val v st)) ∧ (∀ v, r = .panic v → OpR P o f st (.panic v)) := by
  refine ⟨fun v e => OpR.quiet fun ρ w a hf hw => ?_, fun v e ρ w a hf hw => ?_⟩
  · rcases aBin_ok hr (hf.ev x) (hf.ev y) w with ⟨u, u', e1, e2, e3⟩ | ⟨u, u', e1, e2, e3⟩
    · rw [e] at e1; cases e1
      exact ⟨u', by simp only [execOp, h]; rw [Sem.run_bind, e2]; rfl, e3⟩
    · rw [e] at e1; cases e1
  · rcases aBin_ok hr (hf.ev x) (hf.ev y) w with ⟨u, u', e1, e2, e3⟩ | ⟨u, u', e1, e2, e3⟩
    · rw [e] at e1; cases e1
    · rw [e] at e1; cases e1
      exact ⟨u', by simp only [execOp, h]; rw [Sem.run_bind, e2]; rfl, e3⟩
/-! ### the sign turned -/
theorem neg_mod (a : Nat) : Op.negFloat .f64 a % 2 ^ 63 = a % 2 ^ 63 := by
  show (a ^^^ 2 ^ 63) % 2 ^ 63 = _
  rw [Nat.xor_mod_two_pow]
  simp
theorem neg_div (a : Nat) : Op.negFloat .f64 a / 2 ^ 63 % 2 = 1 - a / 2 ^ 63 % 2 := by
  show (a ^^^ 2 ^ 63) / 2 ^ 63 % 2 = _
  rw [Nat.xor_div_two_pow, Nat.div_self (by decide)]
  have h := Nat.xor_mod_two_pow (a := a / 2 ^ 63) (b := 1) (n := 1)
  rw [Nat.pow_one] at h
  rw [h]
  rcases Nat.mod_two_eq_zero_or_one (a / 2 ^ 63) with e | e <;> rw [e] <;> rfl
theorem read_neg (a : Nat) : Ieee.double.read (Op.negFloat .f64 a) = (Ieee.double.read a).opposite := by
  have s1 : Ieee.double.signWeight = 2 ^ 63 := by decide
  unfold Ieee.Format.read
  simp only [s1, neg_mod, neg_div]
  have hb : (1 - a / 2 ^ 63 % 2 == 1) = !(a / 2 ^ 63 % 2 == 1) := by
    have : a / 2 ^ 63 % 2 < 2 := Nat.mod_lt _ (by decide)
    rcases (by omega : a / 2 ^ 63 % 2 = 0 ∨ a / 2 ^ 63 % 2 = 1) with h | h <;> rw [h] <;> rfl
  rw [hb]
  split
  · rfl
  · split
    · rfl
    · split <;> rfl
theorem neg_nan {a : Nat} (h : nanB .f64 a = true) : nanB .f64 (Op.negFloat .f64 a) = true := by
  obtain ⟨s, p, e⟩ := nan_read h
  have e' : Ieee.double.read a = .nan s p := e
  have h2 := read_neg a
  rw [e'] at h2
  exact nan_of_read (k := .f64) h2
theorem op_negF {P : Program} {o : Oper} {f : AFr} {st : ASt} {u : UnOp} {t : TypeId} {x : Operand} {v : Value} (h : o.op = .unOp u t x) (hv : aNegF u (f.ev x) = some v) : OpR P o f st (.val v st) :=
  OpR.quiet fun ρ w a hf hw => by
    have hc := hf.ev x
    unfold aNegF at hv
    split at hv
    · rename_i u' x' b hx
      rw [hx] at hc
      cases hv
      obtain ⟨b', e1, e2, e3⟩ := float_inv hc
      refine ⟨.float .f64 (Op.negFloat .f64 b'), ?_, ?_⟩
      · simp only [execOp, h, e1]; rfl
      · cases hb : nanB .f64 b with
        | true => exact .nan _ _ _ (qnan_nan _) (neg_nan (e2.trans hb))
        | false => rw [e3 hb]; exact .float _ _
    · cases hv
end Go.Proofs.YtpogcoolgnjejaaGreatDoor.Ev
/-
  What the evaluator says of single operations holds of their runs: memory.
-/
set_option linter.unusedVariables false
set_option linter.unusedSimpArgs false
namespace Go.Proofs.YtpogcoolgnjejaaGreatDoor.Ev
open Go

theorem cell_row {w : World} {b : Nat} {C : Array Value} {t : TypeId} {fr : Nat × Nat} (h : w.heap[b]? = some (.cells C t fr)) (o : Nat) : w.cell? ⟨b, o, none⟩ = C[o]? := by simp [World.cell?, h]
theorem frozen_row {w : World} {b : Nat} {C : Array Value} {t : TypeId} {fr : Nat × Nat} (h : w.heap[b]? = some (.cells C t fr)) (o : Nat) : w.frozen? ⟨b, o, none⟩ = (decide (fr.1 ≤ o) && decide (o < fr.2)) := by
  obtain ⟨lo, hi⟩ := fr
  simp [World.frozen?, h]
theorem run_storeCells_row (P : Program) (b o : Nat) (t : TypeId) (fr : Nat × Nat) : ∀ (vs : List Value) (i : Nat) (C : Array Value) (w : World), w.heap[b]? = some (.cells C t fr) → (∀ k, k < C.size → ¬ (fr.1 ≤ k ∧ k < fr.2)) → o + i + vs.length ≤ C.size →
    (∀ v ∈ vs, v.oneCell' = true) → ∃ C' w', (storeCells ⟨b, o, none⟩ vs i).run P w = .ok () w' ∧ w'.heap[b]? = some (.cells C' t fr) ∧ C'.size = C.size ∧
      (∀ k, C'[k]? = if o + i ≤ k ∧ k < o + i + vs.length then vs[k - (o + i)]? else C[k]?) ∧ w'.heap.size = w.heap.size ∧ (∀ b', b' ≠ b → w'.heap[b']? = w.heap[b']?) ∧ w'.os = w.os ∧ w'.tape = w.tape ∧ w'.output = w.output := by
  intro vs
  induction vs with
  | nil =>
    intro i C w hb hfr hl h1
    exact ⟨C, w, rfl, hb, rfl, fun k => by rw [if_neg (by simp)], rfl, fun _ _ => rfl, rfl, rfl, rfl⟩
  | cons v vs ih =>
    intro i C w hb hfr hl h1
    simp only [List.length_cons] at hl
    have hv := h1 v (by simp)
    have hlt : o + i < C.size := by omega
    have hc : w.cell? ⟨b, o + i, none⟩ = some C[o + i] := by rw [cell_row hb]; simp [hlt]
    have hz : w.frozen? ⟨b, o + i, none⟩ = false := by
      rw [frozen_row hb]
      have := hfr (o + i) hlt
      cases h2 : decide (fr.1 ≤ o + i) <;> simp
      simp at h2; omega
    have hs : (store ((⟨b, o, none⟩ : Addr).add i) v).run P w = .ok () (w.setCell ⟨b, o + i, none⟩ v) := by
      rw [add_at, run_store P w _ v _ hv, hc]
      simp [hz]
    have hb' : (w.setCell ⟨b, o + i, none⟩ v).heap[b]? = some (.cells (C.setIfInBounds (o + i) v) t fr) := by
      simp [World.setCell, Array.getElem?_modify, hb]
    obtain ⟨C', w', e1, e2, e3, e4, e5, e6, e7, e8, e9⟩ := ih (i + 1) (C.setIfInBounds (o + i) v) (w.setCell ⟨b, o + i, none⟩ v) hb' (by intro k hk; exact hfr k (by simpa using hk)) (by simp; omega) (fun u hu => h1 u (by simp [hu]))
    refine ⟨C', w', ?_, e2, by simpa using e3, fun k => ?_, by rw [e5]; simp [World.setCell], fun b' hne => ?_, e7, e8, e9⟩
    · simp only [storeCells, Sem.run_bind, hs, Result.andThen_ok]; exact e1
    · rw [e4]
      by_cases hk : k = o + i
      · subst hk
        rw [if_neg (by omega), if_pos (by simp)]
        simp [hlt]
      · by_cases hk2 : o + (i + 1) ≤ k ∧ k < o + (i + 1) + vs.length
        · rw [if_pos hk2, if_pos (by simp; omega)]
          rw [show k - (o + i) = (k - (o + (i + 1))) + 1 by omega]
          simp
        · rw [if_neg hk2, if_neg (by simp; omega), Array.getElem?_setIfInBounds_ne (by omega)]
    · rw [e6 b' hne]
      simp only [World.setCell, Array.getElem?_modify]
      rw [if_neg (by omega)]

/-! ### what is told of cells -/
def TRL (w : World) (F : Nat → Prop) (ts : List Td) (l : List Value) : Prop := ts.length = l.length ∧ ∀ (i : Nat) t y, ts[i]? = some t → l[i]? = some y → TR w F t y
theorem TRL.kept {w w' : World} {F F' : Nat → Prop} (hF : ∀ b, F b → F' b) (hw : ∀ b, F b → w'.heap[b]? = w.heap[b]?) {ts : List Td} {l : List Value} (h : TRL w F ts l) : TRL w' F' ts l := ⟨h.1, fun i t y a b => (h.2 i t y a b).kept hF hw⟩
theorem TRL.nil (w : World) (F : Nat → Prop) : TRL w F [] [] := ⟨rfl, fun i t y h => by simp at h⟩
theorem TRL.cons {w : World} {F : Nat → Prop} {t : Td} {y : Value} {ts : List Td} {l : List Value} (h : TR w F t y) (hl : TRL w F ts l) : TRL w F (t :: ts) (y :: l) := by
  refine ⟨by simp [hl.1], fun i a b ha hb => ?_⟩
  cases i with
  | zero => simp at ha hb; subst ha hb; exact h
  | succ i => exact hl.2 i a b (by simpa using ha) (by simpa using hb)
theorem TRL.uncons {w : World} {F : Nat → Prop} {t : Td} {ts : List Td} {l : List Value} (h : TRL w F (t :: ts) l) : ∃ y m, l = y :: m ∧ TR w F t y ∧ TRL w F ts m := by
  cases l with
  | nil => have := h.1; simp at this
  | cons y m => exact ⟨y, m, rfl, h.2 0 t y (by simp) (by simp), ⟨by have := h.1; simpa using this, fun i a b ha hb => h.2 (i + 1) a b (by simpa using ha) (by simpa using hb)⟩⟩
theorem TRL.get {w : World} {F : Nat → Prop} {ts : List Td} {l : List Value} (h : TRL w F ts l) {i : Nat} {t : Td} (hx : ts[i]? = some t) : ∃ y, l[i]? = some y ∧ TR w F t y := by
  have hi : i < l.length := by rw [← h.1]; exact (List.getElem?_eq_some_iff.1 hx).1
  exact ⟨l[i], by simp [hi], h.2 i t _ hx (by simp [hi])⟩
theorem cellsT_get (e : Nat → Td) : ∀ (n off : Nat), (cellsT e off n).length = n ∧ ∀ j, j < n → (cellsT e off n)[j]? = some (e (off + j)) := by
  intro n
  induction n with
  | zero => intro off; exact ⟨rfl, fun j hj => by omega⟩
  | succ n ih =>
    intro off
    obtain ⟨h1, h2⟩ := ih (off + 1)
    refine ⟨by simp [cellsT, h1], fun j hj => ?_⟩
    cases j with
    | zero => rfl
    | succ j => simp only [cellsT, List.getElem?_cons_succ]; rw [h2 j (by omega)]; congr 2; omega
theorem rowsT_get (es : Nat) (elem : Nat → Nat → Td) : ∀ (c i : Nat), (rowsT es elem i c).length = c * es ∧ ∀ j k, j < c → k < es → (rowsT es elem i c)[j * es + k]? = some (elem (i + j) k) := by
  intro c
  induction c with
  | zero => intro i; exact ⟨by simp [rowsT], fun j k hj => by omega⟩
  | succ c ih =>
    intro i
    obtain ⟨h1, h2⟩ := ih (i + 1)
    obtain ⟨g1, g2⟩ := cellsT_get (elem i) es 0
    refine ⟨by simp [rowsT, h1, g1, Nat.succ_mul]; omega, fun j k hj hk => ?_⟩
    cases j with
    | zero => simp only [rowsT]; rw [List.getElem?_append_left (by omega)]; simpa using g2 k hk
    | succ j =>
      simp only [rowsT]
      rw [List.getElem?_append_right (by rw [g1, Nat.succ_mul]; omega), g1, show (j + 1) * es + k - es = j * es + k by rw [Nat.succ_mul]; omega, h2 j k (by omega) hk]
      congr 2; omega
theorem nthT_eq : ∀ (l : List Td) (j : Nat) (t : Td), l[j]? = some t → nthT l j = t := by
  intro l
  induction l with
  | nil => intro j t h; simp at h
  | cons a l ih =>
    intro j t h
    cases j with
    | zero => simp at h; exact h
    | succ j => exact ih j t (by simpa using h)
theorem dropT_eq : ∀ (n : Nat) (l : List Td), dropT n l = l.drop n := by
  intro n
  induction n with
  | zero => intro l; rfl
  | succ n ih => intro l; cases l with
    | nil => simp [dropT]
    | cons a l => simp only [dropT, List.drop_succ_cons]; exact ih l
/-- cells of the world, gathered -/
theorem gather {w : World} {F : Nat → Prop} {b o : Nat} {ts : List Td} (h : ∀ j t, ts[j]? = some t → ∃ y, w.cell? ⟨b, o + j, none⟩ = some y ∧ y.oneCell' = true ∧ TR w F t y) :
    ∃ l', TRL w F ts l' ∧ (∀ v ∈ l', v.oneCell' = true) ∧ ∀ j v, l'[j]? = some v → w.cell? ⟨b, o + j, none⟩ = some v := by
  induction ts generalizing o with
  | nil => exact ⟨[], TRL.nil _ _, fun v hv => by simp at hv, fun j v hv => by simp at hv⟩
  | cons t ts ih =>
    obtain ⟨y, y1, y2, y3⟩ := h 0 t (by simp)
    obtain ⟨l', h1, h2, h3⟩ := ih (o := o + 1) (fun j u hu => by
      have := h (j + 1) u (by simpa using hu)
      rw [show o + (j + 1) = o + 1 + j by omega] at this
      exact this)
    refine ⟨y :: l', TRL.cons y3 h1, fun v hv => ?_, fun j v hv => ?_⟩
    · rcases List.mem_cons.1 hv with rfl | hv
      · exact y2
      · exact h2 v hv
    · cases j with
      | zero => simp at hv; subst hv; exact y1
      | succ j => rw [show o + (j + 1) = o + 1 + j by omega]; exact h3 j v (by simpa using hv)
theorem readC_rel {st : ASt} {a : Addr} {n : Nat} {l : List Value} {ρ : Rho} {w : World} {s : Spot} (h : st.readC a n = .ok l) (hw : WR ρ st.h.get w) (hs : ρ a.block = some s) :
    ∃ l', VRL ρ l l' ∧ l'.length = n ∧ ∀ j v, l'[j]? = some v → w.cell? ((⟨s.blk, locOf s a, none⟩ : Addr).add j) = some v := by
  have key : ∀ (cs : List Value) (C : Array Value) (t : TypeId) (fr : Nat × Nat), a.spot = none → Rs.of "read" (takeL n (dropL a.off cs)) = .ok l → w.heap[s.blk]? = some (.cells C t fr) → s.base + cs.length ≤ C.size → (∀ (i : Nat) (x : Value), cs[i]? = some x → ∃ y, C[s.base + i]? = some y ∧ VR ρ x y) →
      ∃ l', VRL ρ l l' ∧ l'.length = n ∧ ∀ j v, l'[j]? = some v → w.cell? ((⟨s.blk, locOf s a, none⟩ : Addr).add j) = some v := by
    intro cs C t fr hsp h e3 e6 e7
    have hloc : locOf s a = s.base + a.off := by unfold locOf; rw [hsp]
    rw [hloc]
    have h1 := of_ok h
    obtain ⟨h2, h3⟩ := takeL_some h1
    rw [dropL_eq] at h2 h3
    simp only [List.length_drop] at h2
    have hlen : ((C.toList.drop (s.base + a.off)).take n).length = n := by simp; omega
    refine ⟨(C.toList.drop (s.base + a.off)).take n, ⟨by rw [hlen, h3]; simp; omega, fun i x y hx hy => ?_⟩, hlen, fun j v hv => ?_⟩
    · rw [h3] at hx
      rw [List.getElem?_take] at hx hy
      split at hx
      · rename_i hi
        rw [if_pos hi] at hy
        simp only [List.getElem?_drop] at hx hy
        obtain ⟨y', e8, e9⟩ := e7 _ x hx
        have : y = y' := by
          rw [Array.getElem?_toList, show s.base + a.off + i = s.base + (a.off + i) by omega, e8] at hy
          cases hy; rfl
        subst this; exact e9
      · cases hx
    · rw [List.getElem?_take] at hv
      split at hv
      · simp only [List.getElem?_drop, Array.getElem?_toList] at hv
        rw [add_at, cell_row e3]; exact hv
      · cases hv
  unfold ASt.readC at h
  split at h
  · rename_i cs ex es hg
    split at h
    · rename_i hsp
      obtain ⟨s', e1, e2⟩ := hw.obj _ _ hg
      rw [hs] at e1; cases e1
      obtain ⟨_, _, _, C, t, fr, e3, e4, e5, e6, e7⟩ := e2
      exact key cs C t fr hsp h e3 (by omega) e7
    · cases h
  · rename_i cs ex es hg
    split at h
    · rename_i hsp
      obtain ⟨s', e1, e2⟩ := hw.obj _ _ hg
      rw [hs] at e1; cases e1
      obtain ⟨_, _, _, _, C, t, fr, e3, e6, e7⟩ := e2
      exact key cs C t fr hsp h e3 e6 e7
    · cases h
  · cases h
theorem readT_rel {st : ASt} {a : Addr} {n : Nat} {ts : List Td} {ρ : Rho} {w : World} {s : Spot} (h : st.readT a n = .ok ts) (hw : WR ρ st.h.get w) (hs : ρ a.block = some s) :
    ts.length = n ∧ ∃ l', TRL w (Frz ρ) ts l' ∧ (∀ v ∈ l', v.oneCell' = true) ∧ ∀ j v, l'[j]? = some v → w.cell? ((⟨s.blk, locOf s a, none⟩ : Addr).add j) = some v := by
  unfold ASt.readT at h
  split at h
  · rename_i own es lo m elem hg
    split at h
    · rename_i i hsp
      have hloc : locOf s a = s.base + i * s.es + a.off := by unfold locOf; rw [hsp]
      rw [hloc]
      obtain ⟨s', e1, f1, f2, f3, fz, f4⟩ := hw.obj _ _ hg
      rw [hs] at e1; cases e1
      simp only [add_at]
      cases hmul : (Nat.beq a.off 0 && Nat.blt es n) with
      | true =>
        rw [hmul] at h
        simp only [cond_true] at h
        obtain ⟨hc, h⟩ := cond_ok h
        cases h
        simp only [Bool.and_eq_true] at hc hmul
        have hoff : a.off = 0 := Nat.eq_of_beq_eq_true hmul.1
        have k1 := Nat.le_of_ble_eq_true hc.1.1
        have k2 := Nat.le_of_ble_eq_true hc.1.2
        have k3 := Nat.eq_of_beq_eq_true hc.2
        obtain ⟨r1, r2⟩ := rowsT_get es elem (n / es) i
        refine ⟨by rw [r1, k3], gather fun j t ht => ?_⟩
        have hlt := (List.getElem?_eq_some_iff.1 ht).1
        rw [r1] at hlt
        have hes : 0 < es := by
          rcases Nat.eq_zero_or_pos es with h | h
          · rw [h] at hlt; omega
          · exact h
        have hjn : j / es < n / es := Nat.div_lt_of_lt_mul (by rw [Nat.mul_comm]; exact hlt)
        have hdm := Nat.div_add_mod j es
        have hml := Nat.mod_lt j hes
        rw [Nat.mul_comm] at hdm
        generalize j / es = dd at hjn hdm
        generalize j % es = rr at hml hdm
        have := r2 dd rr hjn hml
        rw [hdm, ht] at this
        cases this
        obtain ⟨y, y1, y2, y3⟩ := f4 (i + dd) (by omega) (by omega) rr hml
        refine ⟨y, ?_, y2, y3⟩
        rw [← y1, hoff, f1]; congr 2; rw [Nat.add_mul]; omega
      | false =>
        rw [hmul] at h
        simp only [cond_false] at h
        obtain ⟨hc0, h⟩ := cond_ok h
        obtain ⟨hc, h⟩ := cond_ok h
        cases h
        simp only [Bool.and_eq_true] at hc
        have k0 := Nat.le_of_ble_eq_true hc0
        have k1 := Nat.le_of_ble_eq_true hc.1
        have k2 : i < m := by simpa using hc.2
        obtain ⟨r1, r2⟩ := cellsT_get (elem i) n a.off
        refine ⟨r1, gather fun j t ht => ?_⟩
        have hlt := (List.getElem?_eq_some_iff.1 ht).1
        rw [r1] at hlt
        have := r2 j hlt
        rw [ht] at this
        cases this
        obtain ⟨y, y1, y2, y3⟩ := f4 i k1 k2 (a.off + j) (by omega)
        exact ⟨y, by rw [← y1]; congr 2; omega, y2, y3⟩
    · cases h
  · cases h
theorem LoS.skip (st : ASt) (lo : Nat) (h : lo ≤ st.lo) : LoS st ⟨st.next + 1, st.h, lo⟩ := ⟨by simp, h, fun x _ _ => rfl, fun x o e => .inl ⟨o, e⟩⟩
theorem seeT_lo : ∀ (ts : List Td) (st : ASt), LoS st (seeT ts st).2 := by
  intro ts
  induction ts with
  | nil => intro st; exact LoS.refl st
  | cons t ts ih =>
    intro st
    cases t with
    | sc x => exact ih st
    | fr es n c e => exact (LoS.new st _).trans (ih _)
theorem look_rel {ρ : Rho} {g : Mem} {w : World} {k es n c : Nat} {e : Nat → Nat → Td} {y : Value} (h : TR w (Frz ρ) (.fr es n c e) y) (hw : WR ρ g w) (hf : ρ k = none) :
    ∃ ρ', Mv ρ ρ' g (upd g k (some (.row .still es 0 n e))) k (k + 1) w w ∧ VR ρ' (.slice (some ⟨k, 0, some 0⟩) n c) y := by
  have hno : ∀ {q : Prop}, true = false → q := by intro q h; cases h
  rcases h with ⟨rfl, rfl, rfl⟩ | ⟨rfl, rfl, a, c', rfl⟩ | ⟨h0, b, o, c', rfl, h2, h3, h4⟩
  · exact ⟨_, Mv.void hw hf _ ⟨0, 0, true, es, 0, true, nofz⟩ (fun _ h => h) (.inl rfl) rfl ⟨rfl, fun _ => Nat.le_refl _, (fun h => by cases h), fun _ h => hno h, fun i _ hi => by omega⟩ rfl rfl rfl, .sliceN _ _⟩
  · exact ⟨_, Mv.void hw hf _ ⟨0, 0, true, es, 0, true, nofz⟩ (fun _ h => h) (.inl rfl) rfl ⟨rfl, fun _ => Nat.le_refl _, (fun h => by cases h), fun _ h => hno h, fun i _ hi => by omega⟩ rfl rfl rfl, .sliceE _ _ _ _ _ (upd_same _ _ _) rfl⟩
  · have hsub : Sub ρ (upd ρ k (some ⟨b, o, true, es, 0, false, nofz⟩)) := Sub.upd _ hf
    refine ⟨_, Mv.void hw hf _ ⟨b, o, true, es, 0, false, nofz⟩ (fun _ h => h) (.inr ⟨rfl, h3⟩) rfl ⟨rfl, (fun h => by cases h), (fun h => by cases h), fun _ _ => h3.mono hsub, fun i _ hi j hj => ?_⟩ rfl rfl rfl, .sliceI k 0 ⟨b, o, true, es, 0, false, nofz⟩ _ _ c' o (upd_same _ _ _) h2 (fun _ => h0) (fun h => by cases h) rfl (.inl (by simp))⟩
    obtain ⟨z, z1, z2, z3⟩ := h4 i hi j hj
    exact ⟨z, z1, z2, z3.kept (fun b => Frz.mono hsub) (fun _ _ => rfl)⟩
theorem seeT_rel : ∀ (ts : List Td) (st : ASt) (ρ : Rho) (w : World) (l' : List Value), TRL w (Frz ρ) ts l' → WR ρ st.h.get w → Fresh ρ st.next (seeT ts st).2.next →
    ∃ ρ', Mv ρ ρ' st.h.get (seeT ts st).2.h.get st.next (seeT ts st).2.next w w ∧ VRL ρ' (seeT ts st).1 l' := by
  intro ts
  induction ts with
  | nil =>
    intro st ρ w l' h hw hf
    have : l' = [] := List.eq_nil_of_length_eq_zero h.1.symm
    subst this
    exact ⟨ρ, Mv.refl hw _, VRL.nil _⟩
  | cons t ts ih =>
    intro st ρ w l' h hw hf
    obtain ⟨y, m, rfl, hy, hm⟩ := h.uncons
    cases t with
    | sc x =>
      obtain ⟨ρ', h1, h2⟩ := ih st ρ w m hm hw hf
      exact ⟨ρ', h1, VRL.cons (VR.mono (noRho_sub _) hy) h2⟩
    | fr es n c e =>
      have hl := (seeT_lo ts (st.new (.row .still es 0 n e))).1
      have hl' : st.next + 1 ≤ (seeT (.fr es n c e :: ts) st).2.next := hl
      obtain ⟨ρ1, m1, v1⟩ := look_rel (k := st.next) hy hw (hf _ (Nat.le_refl _) (by omega))
      have hg : (st.new (.row .still es 0 n e)).h.get = upd st.h.get st.next (some (.row .still es 0 n e)) := by simp [ASt.new, set_get]
      rw [← hg] at m1
      obtain ⟨ρ', h1, h2⟩ := ih (st.new (.row .still es 0 n e)) ρ1 w m (hm.kept (fun b => Frz.mono m1.ext) (fun _ _ => rfl)) m1.wr (m1.fresh hf)
      exact ⟨ρ', m1.trans h1, VRL.cons (v1.mono h1.ext) h2⟩
theorem readC_none {st : ASt} {a : Addr} {n : Nat} (h : isRow (st.h.get a.block) = true) : ∀ l, st.readC a n ≠ .ok l := by
  intro l e
  unfold ASt.readC at e
  split at e
  · rename_i hg; rw [hg] at h; cases h
  · rename_i hg; rw [hg] at h; cases h
  · cases e
/-- what is read -/
theorem read_rel {st st' : ASt} {a : Addr} {n : Nat} {l : List Value} (h : st.read a n = .ok (l, st')) : LoS st st' ∧ ∀ {ρ : Rho} {w : World} {s : Spot}, WR ρ st.h.get w → ρ a.block = some s → Fresh ρ st.next st'.next →
    ∃ ρ' l', Mv ρ ρ' st.h.get st'.h.get st.next st'.next w w ∧ VRL ρ' l l' ∧ l'.length = n ∧ ∀ j v, l'[j]? = some v → w.cell? ((⟨s.blk, locOf s a, none⟩ : Addr).add j) = some v := by
  unfold ASt.read at h
  cases hr : isRow (st.h.get a.block) with
  | true =>
    rw [hr] at h
    simp only [cond_true] at h
    obtain ⟨ts, h1, h2⟩ := bnd_ok h
    have h3 : seeT ts st = (l, st') := Rs.ok.inj h2
    have e1 : (seeT ts st).1 = l := by rw [h3]
    have e2 : (seeT ts st).2 = st' := by rw [h3]
    refine ⟨by rw [← e2]; exact seeT_lo ts st, fun {ρ w s} hw hs hf => ?_⟩
    obtain ⟨k1, l', k2, k3, k4⟩ := readT_rel h1 hw hs
    obtain ⟨ρ', m1, m2⟩ := seeT_rel ts st ρ w l' k2 hw (by rw [e2]; exact hf)
    rw [e2] at m1
    rw [e1] at m2
    exact ⟨ρ', l', m1, m2, by rw [← k2.1]; exact k1, k4⟩
  | false =>
    rw [hr] at h
    simp only [cond_false] at h
    obtain ⟨l0, h1, h2⟩ := bnd_ok h
    cases h2
    refine ⟨LoS.refl _, fun {ρ w s} hw hs hf => ?_⟩
    obtain ⟨l', k1, k2, k3⟩ := readC_rel h1 hw hs
    exact ⟨ρ, l', Mv.refl hw _, k1, k2, k3⟩
/-- one of two that a truth tells -/
theorem sameKd_eq {k k' : IntKind} (h : sameKd k k' = true) : k = k' := by cases k <;> cases k' <;> first | rfl | cases h
theorem sameFk_eq {k k' : FloatKind} (h : sameFk k k' = true) : k = k' := by cases k <;> cases k' <;> first | rfl | cases h
theorem mrgV_true {ρ : Rho} {v w y : Value} (h : VR ρ v y) : VR ρ (mrgV true v w) y := by
  unfold mrgV
  split
  · rename_i k n k' m
    cases hk : sameKd k k' with
    | true => exact h
    | false => exact .any _
  · exact h
  · rename_i k x k' y'
    cases hk : sameFk k k' with
    | true => exact h
    | false => exact .any _
  · exact h
  · exact h
theorem mrgV_false {ρ : Rho} {v w y : Value} (h : VR ρ w y) : VR ρ (mrgV false v w) y := by
  unfold mrgV
  split
  · rename_i k n k' m
    cases hk : sameKd k k' with
    | true => have := sameKd_eq hk; subst this; exact h
    | false => exact .any _
  · exact h
  · rename_i k x k' y'
    cases hk : sameFk k k' with
    | true => have := sameFk_eq hk; subst this; exact h
    | false => exact .any _
  · exact h
  · exact h
theorem mrgL_true : ∀ {l m : List Value}, (mrgL true l m).length = l.length ∧ ∀ (j : Nat) (x : Value), (mrgL true l m)[j]? = some x → ∃ v, l[j]? = some v ∧ ∀ ρ y, VR ρ v y → VR ρ x y := by
  intro l
  induction l with
  | nil => intro m; cases m <;> exact ⟨rfl, fun j x h => by simp [mrgL] at h⟩
  | cons v l ih =>
    intro m
    cases m with
    | nil => exact ⟨rfl, fun j x h => ⟨x, h, fun _ _ h => h⟩⟩
    | cons w m =>
      refine ⟨by simp [mrgL, (ih (m := m)).1], fun j x h => ?_⟩
      cases j with
      | zero => simp [mrgL] at h; subst h; exact ⟨v, rfl, fun ρ y h => mrgV_true h⟩
      | succ j => simp only [mrgL, List.getElem?_cons_succ] at h ⊢; exact (ih (m := m)).2 j x h
theorem mrgL_false : ∀ {l m : List Value}, (mrgL false l m).length = m.length ∧ ∀ (j : Nat) (x : Value), (mrgL false l m)[j]? = some x → ∃ v, m[j]? = some v ∧ ∀ ρ y, VR ρ v y → VR ρ x y := by
  intro l
  induction l with
  | nil => intro m; cases m <;> exact ⟨rfl, fun j x h => ⟨x, h, fun _ _ h => h⟩⟩
  | cons v l ih =>
    intro m
    cases m with
    | nil => exact ⟨rfl, fun j x h => by simp [mrgL] at h⟩
    | cons w m =>
      refine ⟨by simp [mrgL, (ih (m := m)).1], fun j x h => ?_⟩
      cases j with
      | zero => simp [mrgL] at h; subst h; exact ⟨w, rfl, fun ρ y h => mrgV_false h⟩
      | succ j => simp only [mrgL, List.getElem?_cons_succ] at h ⊢; exact (ih (m := m)).2 j x h
theorem mrgT_true {w : World} {F : Nat → Prop} : ∀ {t u : Td} {y : Value}, TR w F t y → TR w F (mrgT true t u) y := by
  intro t
  induction t with
  | sc x =>
    intro u y h
    cases u with
    | sc z => exact mrgV_true h
    | fr => exact h
  | fr es n c e ih =>
    intro u y h
    cases u with
    | sc z => exact h
    | fr es' n' c' e' =>
      simp only [mrgT]
      cases hs : sameEs es n es' n' with
      | false => exact h
      | true =>
        simp only [cond_true]
        rcases h with h | h | ⟨h0, b, o, c2, h1, h2, h3, h4⟩
        · exact .inl h
        · exact .inr (.inl h)
        · refine .inr (.inr ⟨h0, b, o, c2, h1, h2, h3, ?_⟩)
          have he : cond (Nat.beq es 0) es' es = es ∨ es = 0 := by
            cases hb : Nat.beq es 0 with
            | false => exact .inl rfl
            | true => exact .inr (Nat.eq_of_beq_eq_true hb)
          rcases he with he | he
          · rw [he]
            intro i hi j hj
            obtain ⟨z, z1, z2, z3⟩ := h4 i hi j hj
            exact ⟨z, z1, z2, ih i j z3⟩
          · subst he
            have hb0 : Nat.beq 0 0 = true := rfl
            rw [hb0]
            simp only [sameEs, hb0, Bool.true_and, Bool.or_eq_true, Bool.and_eq_true] at hs
            have hes : es' = 0 := by
              rcases hs with (hs | hs) | hs
              · exact (Nat.eq_of_beq_eq_true hs).symm
              · have := Nat.eq_of_beq_eq_true hs; omega
              · exact Nat.eq_of_beq_eq_true hs.1
            subst hes
            intro i hi j hj
            simp only [cond_true] at hj
            omega
theorem mrgT_false {w : World} {F : Nat → Prop} : ∀ {t u : Td} {y : Value}, TR w F u y → TR w F (mrgT false t u) y := by
  intro t
  induction t with
  | sc x =>
    intro u y h
    cases u with
    | sc z => exact mrgV_false h
    | fr => exact h
  | fr es n c e ih =>
    intro u y h
    cases u with
    | sc z => exact h
    | fr es' n' c' e' =>
      simp only [mrgT]
      cases hs : sameEs es n es' n' with
      | false => exact h
      | true =>
        simp only [cond_true, cond_false]
        rcases h with h | h | ⟨h0, b, o, c2, h1, h2, h3, h4⟩
        · exact .inl h
        · exact .inr (.inl h)
        · refine .inr (.inr ⟨h0, b, o, c2, h1, h2, h3, ?_⟩)
          have he : cond (Nat.beq es 0) es' es = es' ∨ es' = 0 := by
            cases hb : Nat.beq es 0 with
            | true => exact .inl rfl
            | false =>
              simp only [cond_false]
              simp only [sameEs, hb, Bool.false_and, Bool.or_false, Bool.or_eq_true, Bool.and_eq_true] at hs
              rcases hs with hs | hs
              · exact .inl (Nat.eq_of_beq_eq_true hs)
              · exact .inr (Nat.eq_of_beq_eq_true hs.1)
          rcases he with he | he
          · rw [he]
            intro i hi j hj
            obtain ⟨z, z1, z2, z3⟩ := h4 i hi j hj
            exact ⟨z, z1, z2, ih i j z3⟩
          · subst he
            have : cond (Nat.beq es 0) 0 es = 0 := by
              cases hb : Nat.beq es 0 with
              | true => rfl
              | false =>
                simp only [sameEs, hb, Bool.false_and, Bool.or_false, Bool.or_eq_true, Bool.and_eq_true] at hs
                rcases hs with hs | hs
                · cases hs
                · have := Nat.eq_of_beq_eq_true hs.2; omega
            rw [this]
            intro i hi j hj
            omega
theorem mrgT_rel {w : World} {F : Nat → Prop} {b : Bool} {t u : Td} {y : Value} (h1 : b = true → TR w F t y) (h2 : b = false → TR w F u y) : TR w F (mrgT b t u) y := by
  cases b with
  | true => exact mrgT_true (h1 rfl)
  | false => exact mrgT_false (h2 rfl)
theorem beq_false {a b : Nat} (h : a ≠ b) : Nat.beq a b = false := by
  cases hb : Nat.beq a b with
  | true => exact absurd (Nat.eq_of_beq_eq_true hb) h
  | false => rfl
theorem blt_false {a b : Nat} (h : ¬ a < b) : Nat.blt a b = false := by
  cases hb : Nat.blt a b with
  | true => exact absurd (by simpa using hb) h
  | false => rfl
/-- the i-th of cells laid so many at a time -/
theorem selT_rel {w : World} {F : Nat → Prop} {es : Nat} : ∀ (n : Nat) (ts : List Td) (i j : Nat) (t : Td) (y : Value), i < n → j < es → ts[i * es + j]? = some t → TR w F t y → TR w F (selT es n ts i j) y := by
  intro n
  induction n with
  | zero => intro ts i j t y hi; omega
  | succ n ih =>
    intro ts i j t y hi hj ht h
    cases n with
    | zero =>
      have : i = 0 := by omega
      subst this
      simp only [Nat.zero_mul, Nat.zero_add] at ht
      show TR w F (nthT ts j) y
      rw [nthT_eq ts j t ht]; exact h
    | succ n =>
      show TR w F (mrgT (Nat.beq i 0) (nthT ts j) (selT es (n + 1) (dropT es ts) (i - 1) j)) y
      cases i with
      | zero =>
        refine mrgT_true ?_
        simp only [Nat.zero_mul, Nat.zero_add] at ht
        rw [nthT_eq ts j t ht]; exact h
      | succ i =>
        have hb : Nat.beq (i + 1) 0 = false := rfl
        rw [hb]
        refine mrgT_false (ih _ _ j t y (by omega) hj ?_ h)
        rw [dropT_eq, List.getElem?_drop, ← ht]
        congr 1; rw [Nat.succ_mul]; simp; omega

/-! ### what is written no more -/
theorem froze_rel {st st' : ASt} {b : Nat} (h : froze st b = .ok st') : LoS st st' ∧ ∀ {ρ : Rho} {w : World} {s : Spot}, WR ρ st.h.get w → ρ b = some s → Fresh ρ st.next st'.next → ∃ ρ', Mv ρ ρ' st.h.get st'.h.get st.next st'.next w w ∧ (s.void = false → Frz ρ' s.blk) := by
  have los : ∀ (o : AObj), (∃ o', st.h.get b = some o') → LoS st ⟨st.next + 1, st.h.set b (some o), minN st.lo b⟩ := fun o ho => by
    have h1 : LoS st (st.set b (some o)) := LoS.set st b (some o) (.inr ho)
    have h2 := LoS.skip (st.set b (some o)) (minN st.lo b) (Nat.le_refl _)
    exact h1.trans h2
  unfold froze at h
  split at h
  · rename_i es lo n e hg
    cases h
    refine ⟨los _ ⟨_, hg⟩, fun {ρ w s} hw hs hf => ?_⟩
    have hfn := hf st.next (Nat.le_refl _) (Nat.lt_succ_self _)
    obtain ⟨s', e1, f1, f2, f3, fz, f4⟩ := hw.obj _ _ hg
    rw [hs] at e1; cases e1
    have hsub : Sub ρ (upd ρ st.next (some ⟨0, 0, true, 0, 0, true, fun b' => s.void = false ∧ b' = s.blk⟩)) := Sub.upd _ hfn
    have hmark : s.void = false → Frz (upd ρ st.next (some ⟨0, 0, true, 0, 0, true, fun b' => s.void = false ∧ b' = s.blk⟩)) s.blk := fun hv => ⟨st.next, _, upd_same _ _ _, hv, rfl⟩
    refine ⟨_, ?_, hmark⟩
    simp only [set_get]
    refine Mv.froze hw hfn hg rfl hs rfl rfl (fun b' => Iff.rfl) ⟨f1, f2, (fun h => by cases h), fun _ hv => hmark hv, fun i k1 k2 j hj => ?_⟩
    obtain ⟨y, y1, y2, y3⟩ := f4 i k1 k2 j hj
    exact ⟨y, y1, y2, y3.kept (fun b => Frz.mono hsub) (fun _ _ => rfl)⟩
  · rename_i es lo n e hg
    cases h
    refine ⟨LoS.refl _, fun {ρ w s} hw hs hf => ⟨ρ, Mv.refl hw _, fun hv => ?_⟩⟩
    obtain ⟨s', e1, f1, f2, f3, fz, f4⟩ := hw.obj _ _ hg
    rw [hs] at e1; cases e1
    exact fz rfl hv
  · rename_i cs ex es hg
    cases h
    refine ⟨los _ ⟨_, hg⟩, fun {ρ w s} hw hs hf => ?_⟩
    have hfn := hf st.next (Nat.le_refl _) (Nat.lt_succ_self _)
    obtain ⟨s', e1, f0, f1, f2, C, t, fr, f3, f4, f5, f6, f7⟩ := hw.obj _ _ hg
    rw [hs] at e1; cases e1
    have hsub : Sub ρ (upd ρ st.next (some ⟨0, 0, true, 0, 0, true, fun b' => s.void = false ∧ b' = s.blk⟩)) := Sub.upd _ hfn
    have hmark : Frz (upd ρ st.next (some ⟨0, 0, true, 0, 0, true, fun b' => s.void = false ∧ b' = s.blk⟩)) s.blk := ⟨st.next, _, upd_same _ _ _, f0, rfl⟩
    refine ⟨_, ?_, fun _ => hmark⟩
    simp only [set_get]
    refine Mv.froze hw hfn hg rfl hs rfl rfl (fun b' => Iff.rfl) ⟨f0, f1, f2, hmark, C, t, fr, f3, by omega, fun i x hx => ?_⟩
    obtain ⟨y, y1, y2⟩ := f7 i x hx
    exact ⟨y, y1, y2.mono hsub⟩
  · rename_i cs ex es hg
    cases h
    refine ⟨LoS.refl _, fun {ρ w s} hw hs hf => ⟨ρ, Mv.refl hw _, fun hv => ?_⟩⟩
    obtain ⟨s', e1, f0, f1, f2, fz, _⟩ := hw.obj _ _ hg
    rw [hs] at e1; cases e1
    exact fz
  · cases h
theorem scalT_rel {ρ : Rho} {x y : Value} (hs : scalT x = true) (h : VR ρ x y) : VR noRho x y ∧ y.oneCell' = true := by
  have main : (ground 3 x && oneC x) = true → VR noRho x y ∧ y.oneCell' = true := fun hs => by
    simp only [Bool.and_eq_true] at hs
    have := VR.ground 3 hs.1 h
    subst this
    refine ⟨VR.refl 3 hs.1, ?_⟩
    cases y <;> first | rfl | simp [oneC] at hs
  cases x with
  | float k b =>
    cases h with
    | float k b => exact ⟨.float k b, rfl⟩
    | nan k b b' h h' => exact ⟨.nan k b _ h h', rfl⟩
  | _ => exact main hs
def ToR (v : Value) (st st' : ASt) (t : Td) : Prop := LoS st st' ∧ ∀ {ρ : Rho} {w : World} {y : Value}, VR ρ v y → WR ρ st.h.get w → Fresh ρ st.next st'.next → ∃ ρ', Mv ρ ρ' st.h.get st'.h.get st.next st'.next w w ∧ TR w (Frz ρ') t y ∧ y.oneCell' = true
theorem toTs_rel {g : Value → ASt → Rs (Td × ASt)} (hg : ∀ v st t st', g v st = .ok (t, st') → ToR v st st' t) : ∀ (l : List Value) (st st' : ASt) (ts : List Td), toTs g l st = .ok (ts, st') →
    LoS st st' ∧ ∀ {ρ : Rho} {w : World} {l' : List Value}, VRL ρ l l' → WR ρ st.h.get w → Fresh ρ st.next st'.next → ∃ ρ', Mv ρ ρ' st.h.get st'.h.get st.next st'.next w w ∧ TRL w (Frz ρ') ts l' ∧ ∀ v ∈ l', v.oneCell' = true := by
  intro l
  induction l with
  | nil =>
    intro st st' ts h
    cases h
    refine ⟨LoS.refl _, fun {ρ w l'} hv hw hf => ?_⟩
    have := hv.nil_inv
    subst this
    exact ⟨ρ, Mv.refl hw _, TRL.nil _ _, fun v hv => by simp at hv⟩
  | cons v l ih =>
    intro st st' ts h
    unfold toTs at h
    obtain ⟨⟨t, st1⟩, h1, h⟩ := bnd_ok h
    obtain ⟨⟨ts', st2⟩, h2, h⟩ := bnd_ok h
    cases h
    obtain ⟨a1, a2⟩ := hg _ _ _ _ h1
    obtain ⟨b1, b2⟩ := ih _ _ _ h2
    refine ⟨a1.trans b1, fun {ρ w l'} hv hw hf => ?_⟩
    obtain ⟨y, m, rfl, hy, hm⟩ := hv.uncons
    obtain ⟨ρ1, m1, t1, o1⟩ := a2 hy hw (hf.left b1.1)
    obtain ⟨ρ2, m2, t2, o2⟩ := b2 (hm.mono m1.ext) m1.wr (m1.fresh hf)
    refine ⟨ρ2, m1.trans m2, TRL.cons (t1.kept (fun b => Frz.mono m2.ext) (fun _ _ => rfl)) t2, fun u hu => ?_⟩
    rcases List.mem_cons.1 hu with rfl | hu
    · exact o1
    · exact o2 u hu
theorem cellsO_ok {ρ : Rho} {g : Mem} {w : World} {b es : Nat} {cs : List Value} {s : Spot} (h : cellsO (g b) = some (cs, es)) (hw : WR ρ g w) (hs : ρ b = some s) :
    s.void = false ∧ ∃ C t fr, w.heap[s.blk]? = some (.cells C t fr) ∧ s.base + cs.length ≤ C.size ∧ ∀ (i : Nat) (x : Value), cs[i]? = some x → ∃ y, C[s.base + i]? = some y ∧ VR ρ x y := by
  unfold cellsO at h
  split at h
  · rename_i cs' ex es' hg
    cases h
    obtain ⟨s', e1, f0, f1, f2, C, t, fr, f3, f4, f5, f6, f7⟩ := hw.obj _ _ hg
    rw [hs] at e1; cases e1
    exact ⟨f0, C, t, fr, f3, by omega, f7⟩
  · rename_i cs' ex es' hg
    cases h
    obtain ⟨s', e1, f0, f1, f2, fz, C, t, fr, f3, f6, f7⟩ := hw.obj _ _ hg
    rw [hs] at e1; cases e1
    exact ⟨f0, C, t, fr, f3, f6, f7⟩
  · cases h
theorem toT_rel : ∀ (f : Nat) (v : Value) (st : ASt) (t : Td) (st' : ASt), toT f v st = .ok (t, st') → ToR v st st' t := by
  intro f
  induction f with
  | zero => intro v st t st' h; cases h
  | succ f ih =>
    intro v st t st' h
    unfold toT at h
    split at h
    · cases h
      refine ⟨LoS.refl _, fun {ρ w y} hv hw hf => ?_⟩
      cases hv
      exact ⟨ρ, Mv.refl hw _, .inl ⟨rfl, rfl, rfl⟩, rfl⟩
    · rename_i b i0 n c
      split at h
      · rename_i k es lo m g hg
        obtain ⟨hc, h⟩ := cond_ok h
        obtain ⟨st1, h1, h⟩ := bnd_ok h
        cases h
        simp only [Bool.and_eq_true] at hc
        have k1 := Nat.le_of_ble_eq_true hc.1
        have k2 := Nat.le_of_ble_eq_true hc.2
        obtain ⟨a1, a2⟩ := froze_rel h1
        refine ⟨a1, fun {ρ w y} hv hw hf => ?_⟩
        obtain ⟨s, e1, _⟩ := hw.obj _ _ hg
        obtain ⟨ρ', m1, m2⟩ := a2 hw e1 hf
        refine ⟨ρ', m1, ?_⟩
        cases hv with
        | sliceI _ _ s' _ _ c' o' hsp hnc hcc hro hvd ho =>
          rw [hsp] at e1; cases e1
          refine ⟨?_, rfl⟩
          rcases Nat.eq_zero_or_pos n with h0 | h0
          · subst h0
            have hc0 : c = 0 := by
              rcases Nat.eq_zero_or_pos c with h | h
              · exact h
              · have := hcc (by omega); omega
            exact .inr (.inl ⟨rfl, hc0, _, _, rfl⟩)
          · obtain ⟨s'', e2, f1, f2, f3, fz, f4⟩ := hw.obj _ _ hg
            rw [hsp] at e2; cases e2
            have ho' : o' = s.base + i0 * s.es := by rcases ho with ho | ho; exact ho; omega
            refine .inr (.inr ⟨h0, s.blk, o', c', rfl, hnc, m2 hvd, fun i hi j hj => ?_⟩)
            obtain ⟨z, z1, z2, z3⟩ := f4 (i0 + i) (by omega) (by omega) j hj
            refine ⟨z, ?_, z2, z3.kept (fun b => Frz.mono m1.ext) (fun _ _ => rfl)⟩
            rw [← z1, ho', f1]; congr 2; rw [Nat.add_mul]; omega
        | sliceE _ _ c' x s' hsx hex => exact ⟨.inr (.inl ⟨rfl, rfl, _, _, rfl⟩), rfl⟩
        | sliceN => exact ⟨.inl ⟨rfl, rfl, rfl⟩, rfl⟩
        | sliceZ => exact ⟨.inr (.inl ⟨rfl, rfl, _, _, rfl⟩), rfl⟩
      · cases h
    · rename_i b o n c
      split at h
      · rename_i cs es hg
        obtain ⟨hc, h⟩ := cond_ok h
        obtain ⟨l, h1, h⟩ := bnd_ok h
        obtain ⟨⟨ts, st1⟩, h2, h⟩ := bnd_ok h
        obtain ⟨st2, h3, h⟩ := bnd_ok h
        cases h
        simp only [Bool.and_eq_true] at hc
        have k2 := Nat.le_of_ble_eq_true hc.2
        have h1 := of_ok h1
        obtain ⟨p1, p2⟩ := takeL_some h1
        rw [dropL_eq] at p1 p2
        obtain ⟨b1, b2⟩ := toTs_rel (ih) _ _ _ _ h2
        obtain ⟨a1, a2⟩ := froze_rel h3
        refine ⟨b1.trans a1, fun {ρ w y} hv hw hf => ?_⟩
        cases hv with
        | slice _ _ s _ _ c' o' hsp hn hcc hxx hro hoo =>
          obtain ⟨f0, C, tt, fr, f3, f6, f7⟩ := cellsO_ok hg hw hsp
          have hlen : l.length = n * es := by rw [p2]; simp at p1 ⊢; omega
          let l' := (C.toList.drop (s.base + o)).take (n * es)
          have hl' : ∀ j z, l'[j]? = some z → j < n * es ∧ C[s.base + o + j]? = some z := by
            intro j z hz
            simp only [l', List.getElem?_take] at hz
            split at hz
            · rename_i hj
              simp only [List.getElem?_drop, Array.getElem?_toList] at hz
              exact ⟨hj, hz⟩
            · cases hz
          have hll : l'.length = n * es := by simp [l']; omega
          have hvl : VRL ρ l l' := by
            refine ⟨by rw [hlen, hll], fun j x z hx hz => ?_⟩
            rw [p2, List.getElem?_take] at hx
            split at hx
            · rw [List.getElem?_drop] at hx
              obtain ⟨z', z1, z2⟩ := f7 _ x hx
              have := (hl' j z hz).2
              rw [show s.base + o + j = s.base + (o + j) by omega, z1] at this
              cases this; exact z2
            · cases hx
          obtain ⟨ρ1, m1, t1, o1⟩ := b2 hvl hw (hf.left a1.1)
          obtain ⟨ρ2, m2, t2⟩ := a2 m1.wr (m1.ext _ _ hsp) (m1.fresh hf)
          refine ⟨ρ2, m1.trans m2, ?_, rfl⟩
          rcases Nat.eq_zero_or_pos n with h0 | h0
          · subst h0
            exact .inr (.inl ⟨rfl, rfl, _, _, rfl⟩)
          · have ho' : o' = s.base + o := by rcases hoo with h | h; exact h; omega
            refine .inr (.inr ⟨h0, s.blk, o', c', rfl, by omega, t2 f0, fun i hi j hj => ?_⟩)
            have hij : i * es + j < n * es := by
              have := Nat.mul_le_mul_right es (Nat.succ_le_of_lt hi)
              rw [Nat.succ_mul] at this; omega
            have hz : l'[i * es + j]? = some l'[i * es + j] := List.getElem?_eq_getElem (by omega)
            obtain ⟨_, q2⟩ := hl' _ _ hz
            have htl : i * es + j < ts.length := by rw [t1.1, hll]; exact hij
            have ht : ts[i * es + j]? = some ts[i * es + j] := List.getElem?_eq_getElem htl
            refine ⟨_, ?_, o1 _ (List.mem_of_getElem? hz), selT_rel n ts i j _ _ hi hj ht ((t1.2 _ _ _ ht hz).kept (fun b => Frz.mono m2.ext) (fun _ _ => rfl))⟩
            rw [cell_row f3, ho', ← q2]; congr 1; omega
      · cases h
    · obtain ⟨hs, h⟩ := cond_ok h
      cases h
      refine ⟨LoS.refl _, fun {ρ w y} hv hw hf => ?_⟩
      obtain ⟨q1, q2⟩ := scalT_rel hs hv
      exact ⟨ρ, Mv.refl hw _, q1, q2⟩
/-- what is written -/
theorem writeC_rel {P : Program} {st st' : ASt} {a : Addr} {vs vs' : List Value} {ρ : Rho} {w : World} {s : Spot} (h : st.writeC a vs = .ok st') (hw : WR ρ st.h.get w) (hs : ρ a.block = some s) (hv : VRL ρ vs vs') (h1 : ∀ v ∈ vs', v.oneCell' = true) :
    ∃ w', (storeCells ⟨s.blk, locOf s a, none⟩ vs' 0).run P w = .ok () w' ∧ Mv ρ ρ st.h.get st'.h.get st.next st'.next w w' := by
  unfold ASt.writeC at h
  split at h
  · rename_i cs ex es hg
    split at h
    · rename_i cs' hsp hlay
      have hloc : locOf s a = s.base + a.off := by unfold locOf; rw [hsp]
      rw [hloc]
      obtain ⟨_, h2⟩ := cond_ok h
      cases h2
      obtain ⟨l1, l2, l3⟩ := layL_some hlay
      obtain ⟨s', e1, e2⟩ := hw.obj _ _ hg
      rw [hs] at e1; cases e1
      obtain ⟨x0, x1, x2, C, t, fr, e3, e4, e5, e6, e7⟩ := e2
      have hb : s.base + a.off + 0 + vs'.length ≤ C.size ∨ vs' = [] := by
        cases vs' with
        | nil => exact .inr rfl
        | cons v l =>
          left
          have := l2 (by intro e; have := hv.1; simp [e] at this)
          have := hv.1
          omega
      rcases hb with hb | hb
      · obtain ⟨C', w', k1, k2, k3, k4, k5, k6, k7, k8, k9⟩ := run_storeCells_row P s.blk (s.base + a.off) t fr vs' 0 C w e3 e5.free hb h1
        refine ⟨w', k1, ?_⟩
        have : (st.set a.block (some (.cells cs' ex es))).h.get = upd st.h.get a.block (some (.cells cs' ex es)) := by simp [ASt.set, set_get]
        rw [this]
        refine Mv.write _ hw hg rfl hs x0 _ rfl ⟨x0, x1, x2, C', t, fr, k2, k3.trans e4, by rw [k3]; exact e5, by rw [l1]; exact e6, fun i x hx => ?_⟩ k5 k6 k7 k8 k9
        rw [l3] at hx
        rw [k4]
        simp only [Nat.add_zero]
        have := hv.1
        by_cases hi : a.off ≤ i ∧ i < a.off + vs.length
        · rw [if_pos hi] at hx
          obtain ⟨y, hy, hxy⟩ := hv.get hx
          rw [if_pos (by omega), show s.base + i - (s.base + a.off) = i - a.off by omega]
          exact ⟨y, hy, hxy⟩
        · rw [if_neg hi] at hx
          rw [if_neg (by omega)]
          exact e7 i x hx
      · subst hb
        have hvs : vs = [] := List.eq_nil_of_length_eq_zero (by have := hv.1; simpa using this)
        refine ⟨w, rfl, ?_⟩
        have hcs : cs' = cs := by
          apply List.ext_getElem?
          intro i; rw [l3, if_neg (by rw [hvs]; simp)]
        have : (st.set a.block (some (.cells cs' ex es))).h.get = st.h.get := by
          funext x
          simp only [ASt.set, set_get]
          by_cases hx : x = a.block
          · subst hx; rw [upd_same, hcs, hg]
          · rw [upd_ne _ _ hx]
        rw [this]
        exact Mv.refl hw _
    · cases h
  · cases h
theorem writeR_rel {P : Program} {st st' : ASt} {a : Addr} {ts : List Td} {vs' : List Value} {ρ : Rho} {w : World} {s : Spot} (h : st.writeR a ts = .ok st') (hw : WR ρ st.h.get w) (hs : ρ a.block = some s) (hv : TRL w (Frz ρ) ts vs') (h1 : ∀ v ∈ vs', v.oneCell' = true) :
    ∃ w', (storeCells ⟨s.blk, locOf s a, none⟩ vs' 0).run P w = .ok () w' ∧ Mv ρ ρ st.h.get st'.h.get st.next st'.next w w' := by
  unfold ASt.writeR at h
  split at h
  · rename_i es lo n elem hg
    split at h
    · rename_i i hsp
      have hloc : locOf s a = s.base + i * s.es + a.off := by unfold locOf; rw [hsp]
      rw [hloc]
      obtain ⟨hoff, h⟩ := cond_ok h
      obtain ⟨hin, h⟩ := cond_ok h
      cases h
      have hoff := Nat.le_of_ble_eq_true hoff
      have hin : i < n := by simpa using hin
      obtain ⟨s', e1, x1, x2, x3, xz, x4⟩ := hw.obj _ _ hg
      rw [hs] at e1; cases e1
      obtain ⟨y1, y2, y3⟩ := x3 rfl
      have hvoid : s.void = false := by
        cases hq : s.void with
        | false => rfl
        | true => have := x2 hq; omega
      obtain ⟨C, t, fr, e3, e4, e5, e6⟩ := y3 hvoid
      have hlv := hv.1
      have hmul : ∀ p q : Nat, p < q → p * es + es ≤ q * es := fun p q hpq => by
        have := Nat.mul_le_mul_right es (Nat.succ_le_of_lt hpq)
        rw [Nat.succ_mul] at this; exact this
      have hi1 := hmul i n hin
      rw [x1]
      obtain ⟨C', w', k1, k2, k3, k4, k5, k6, k7, k8, k9⟩ := run_storeCells_row P s.blk (s.base + i * es + a.off) t fr vs' 0 C w e3 e5.free (by omega) h1
      refine ⟨w', k1, ?_⟩
      have : (st.set a.block (some (.row .mine es lo n (putT i a.off ts elem)))).h.get = upd st.h.get a.block (some (.row .mine es lo n (putT i a.off ts elem))) := by simp [ASt.set, set_get]
      rw [this]
      have hfzk : ∀ b, Frz ρ b → w'.heap[b]? = w.heap[b]? := fun b hb => k6 b fun e => (hw.fz b hb).2 ⟨a.block, _, s, hg, rfl, hs, hvoid, e.symm⟩
      refine Mv.write _ hw hg rfl hs hvoid _ rfl ⟨x1, x2, fun _ => ⟨y1, y2, fun _ => ⟨C', t, fr, k2, k3.trans e4, by rw [k3]; exact e5, e6⟩⟩, (fun h => by cases h), fun k hk1 hk2 j hj => ?_⟩ k5 k6 k7 k8 k9
      have hk3 := hmul k n hk2
      rw [x1, cell_row k2, k4]
      obtain ⟨yo, hyo, h1o, hto⟩ := x4 k hk1 hk2 j hj
      rw [x1, cell_row e3] at hyo
      have hto := hto.kept (fun _ h => h) hfzk
      unfold putT
      by_cases hjj : a.off ≤ j ∧ j < a.off + ts.length
      · have hb : (Nat.ble a.off j && Nat.blt j (a.off + ts.length)) = true := by simpa using hjj
        rw [hb]
        by_cases hki : k = i
        · subst hki
          have ht : ts[j - a.off]? = some ts[j - a.off] := List.getElem?_eq_getElem (by omega)
          obtain ⟨y, hy, hty⟩ := hv.get ht
          refine ⟨y, ?_, h1 y (List.mem_of_getElem? hy), ?_⟩
          · rw [if_pos (by omega), ← hy]; congr 1; omega
          · simp only [cond_true, Nat.beq_refl]
            rw [nthT_eq ts _ _ ht]
            exact mrgT_true (hty.kept (fun _ h => h) hfzk)
        · have hne : ¬ (s.base + i * es + a.off + 0 ≤ s.base + k * es + j ∧ s.base + k * es + j < s.base + i * es + a.off + 0 + vs'.length) := by
            rcases Nat.lt_or_gt_of_ne hki with h | h
            · have := hmul k i h; omega
            · have := hmul i k h; omega
          rw [if_neg hne]
          refine ⟨yo, hyo, h1o, ?_⟩
          simp only [cond_true, beq_false hki]
          exact mrgT_false hto
      · have hb : (Nat.ble a.off j && Nat.blt j (a.off + ts.length)) = false := by
          cases hq : (Nat.ble a.off j && Nat.blt j (a.off + ts.length)) with
          | true => exact absurd (by simpa using hq) hjj
          | false => rfl
        rw [hb]
        have hne : ¬ (s.base + i * es + a.off + 0 ≤ s.base + k * es + j ∧ s.base + k * es + j < s.base + i * es + a.off + 0 + vs'.length) := by
          rcases Nat.lt_trichotomy k i with h | h | h
          · have := hmul k i h; omega
          · subst h; omega
          · have := hmul i k h; omega
        rw [if_neg hne]
        exact ⟨yo, hyo, h1o, hto⟩
    · cases h
  · cases h
theorem write_rel {P : Program} {st st' : ASt} {a : Addr} {vs vs' : List Value} {ρ : Rho} {w : World} {s : Spot} (h : st.write a vs = .ok st') (hw : WR ρ st.h.get w) (hs : ρ a.block = some s) (hv : VRL ρ vs vs') (h1 : ∀ v ∈ vs', v.oneCell' = true) (hf : Fresh ρ st.next st'.next) :
    ∃ ρ' w', (storeCells ⟨s.blk, locOf s a, none⟩ vs' 0).run P w = .ok () w' ∧ Mv ρ ρ' st.h.get st'.h.get st.next st'.next w w' := by
  unfold ASt.write at h
  cases hr : isRow (st.h.get a.block) with
  | true =>
    rw [hr] at h
    simp only [cond_true] at h
    obtain ⟨⟨ts, st1⟩, h2, h3⟩ := bnd_ok h
    obtain ⟨b1, b2⟩ := toTs_rel (toT_rel 4) _ _ _ _ h2
    have hn : st'.next = st1.next := by
      unfold ASt.writeR at h3
      split at h3
      · split at h3
        · obtain ⟨_, h3⟩ := cond_ok h3
          obtain ⟨_, h3⟩ := cond_ok h3
          cases h3; rfl
        · cases h3
      · cases h3
    obtain ⟨ρ1, m1, t1, o1⟩ := b2 hv hw (by rw [← hn]; exact hf)
    obtain ⟨w', k1, k2⟩ := writeR_rel (P := P) h3 m1.wr (m1.ext _ _ hs) t1 h1
    exact ⟨ρ1, w', k1, m1.trans k2⟩
  | false =>
    rw [hr] at h
    simp only [cond_false] at h
    obtain ⟨w', k1, k2⟩ := writeC_rel (P := P) h hw hs hv h1
    exact ⟨ρ, w', k1, k2⟩
theorem writeC_lo {st st' : ASt} {a : Addr} {vs : List Value} (h : st.writeC a vs = .ok st') : LoS st st' := by
  unfold ASt.writeC at h
  split at h
  · rename_i cs ex es hg
    split at h
    · obtain ⟨_, h2⟩ := cond_ok h
      cases h2
      exact LoS.set _ _ _ (.inr ⟨_, hg⟩)
    · cases h
  · cases h
theorem write_lo {st st' : ASt} {a : Addr} {vs : List Value} (h : st.write a vs = .ok st') : LoS st st' := by
  unfold ASt.write at h
  cases hr : isRow (st.h.get a.block) with
  | true =>
    rw [hr] at h
    simp only [cond_true] at h
    obtain ⟨⟨ts, st1⟩, h2, h3⟩ := bnd_ok h
    obtain ⟨b1, _⟩ := toTs_rel (toT_rel 4) _ _ _ _ h2
    refine b1.trans ?_
    unfold ASt.writeR at h3
    split at h3
    · rename_i es lo n elem hg
      split at h3
      · obtain ⟨_, h3⟩ := cond_ok h3
        obtain ⟨_, h3⟩ := cond_ok h3
        cases h3
        exact LoS.set _ _ _ (.inr ⟨_, hg⟩)
      · cases h3
    · cases h3
  | false =>
    rw [hr] at h
    exact writeC_lo h
theorem scalT_oneC {v : Value} (h : scalT v = true) : oneC v = true := by
  unfold scalT at h
  split at h
  · rfl
  · simp only [Bool.and_eq_true] at h; exact h.2
theorem toT_oneC {f : Nat} {v : Value} {st st' : ASt} {t : Td} (h : toT f v st = .ok (t, st')) : oneC v = true := by
  cases f with
  | zero => cases h
  | succ f =>
    unfold toT at h
    split at h
    · rfl
    · rfl
    · rfl
    · exact scalT_oneC (cond_ok h).1
theorem toTs_oneC {f : Nat} : ∀ {l : List Value} {st st' : ASt} {ts : List Td}, toTs (toT f) l st = .ok (ts, st') → l.all oneC = true := by
  intro l
  induction l with
  | nil => intro st st' ts h; rfl
  | cons v l ih =>
    intro st st' ts h
    unfold toTs at h
    obtain ⟨⟨t, st1⟩, h1, h⟩ := bnd_ok h
    obtain ⟨⟨ts', st2⟩, h2, h⟩ := bnd_ok h
    simp only [List.all_cons, Bool.and_eq_true]
    exact ⟨toT_oneC h1, ih h2⟩
theorem writeC_oneC {st st' : ASt} {a : Addr} {vs : List Value} (h : st.writeC a vs = .ok st') : vs.all oneC = true := by
  unfold ASt.writeC at h
  split at h
  · split at h
    · exact (cond_ok h).1
    · cases h
  · cases h
theorem write_oneC {st st' : ASt} {a : Addr} {vs : List Value} (h : st.write a vs = .ok st') : vs.all oneC = true := by
  unfold ASt.write at h
  cases hr : isRow (st.h.get a.block) with
  | true =>
    rw [hr] at h
    simp only [cond_true] at h
    obtain ⟨⟨ts, st1⟩, h2, h3⟩ := bnd_ok h
    exact toTs_oneC h2
  | false =>
    rw [hr] at h
    exact writeC_oneC h

theorem op_load {P : Program} {o : Oper} {f : AFr} {st st' : ASt} {t : TypeId} {x : Operand} {a0 : Addr} {n : Nat} {l : List Value} {v : Value} (h : o.op = .load t x) (hx : f.ev x = .pointer (some a0)) (h1 : sizeL P t = .ok n) (h2 : st.read a0 n = .ok (l, st'))
    (h3 : shutL P t l = .ok v) : OpR P o f st (.val v st') := by
  obtain ⟨q1, q2⟩ := read_rel h2
  refine ⟨q1, fun ρ w a hf hw hfr => ?_⟩
  have hc := hf.ev x
  rw [hx] at hc
  obtain ⟨s, e2, e3⟩ := hc.ptr_loc
  obtain ⟨ρ', l', m1, r1, r2, r3⟩ := q2 hw e2 hfr
  rcases shutL_run h3 with ⟨h8, rfl⟩ | ⟨h8, rfl⟩
  · refine ⟨ρ', .agg l'.toArray, w, .inl ?_, VR.agg' r1, m1⟩
    have := run_loadCells_list (P := P) (w := w) ⟨s.blk, locOf s a0, none⟩ l' r3
    rw [r2] at this
    simp [execOp, h, e3, Instr.loadAt, Instr.sureAddr, loadVar, run_aggL h8, run_sizeL h1, this]
  · obtain ⟨y, m, rfl, hy, hm⟩ := r1.uncons
    refine ⟨ρ', y, w, .inl ?_, hy, m1⟩
    have := r3 0 y (by simp)
    simp only [add_at, Nat.add_zero] at this
    simp [execOp, h, e3, Instr.loadAt, Instr.sureAddr, loadVar, run_aggL h8, this]
theorem op_store {P : Program} {o : Oper} {f : AFr} {st st' : ASt} {t : TypeId} {x y : Operand} {a0 : Addr} {n : Nat} (h : o.op = .store t x y) (hx : f.ev x = .pointer (some a0)) (h1 : sizeL P t = .ok n) (h2 : (cellsL (f.ev y)).length = n)
    (h3 : st.write a0 (cellsL (f.ev y)) = .ok st') : OpR P o f st (.val undef st') := by
  refine ⟨write_lo h3, fun ρ w a hf hw hfr => ?_⟩
  have hc := hf.ev x
  rw [hx] at hc
  obtain ⟨s, e2, e3⟩ := hc.ptr_loc
  obtain ⟨r1, r2⟩ := cellsL_rel (hf.ev y) (write_oneC h3)
  obtain ⟨ρ', w', k1, k2⟩ := write_rel (P := P) h3 hw e2 r1 r2 hfr
  refine ⟨ρ', undef, w', .inr ⟨?_, rfl⟩, .tuple _ _ rfl (fun i x y hx => by simp at hx), k2⟩
  have hsz : (a.eval y).cells.size = n := by have := r1.1; simp at this; omega
  simp [execOp, h, e3, Instr.storeAt, Instr.sureAddr, storeVar, run_sizeL h1, hsz, k1]

/-! ### new memory -/
/-- a new row -/
theorem Mv.row {ρ : Rho} {st : ASt} {w w' : World} {cs : List Value} {C : Array Value} {t : TypeId} (ex : Bool) (es : Nat) (fr : Nat × Nat) (hw : WR ρ st.h.get w) (hf : Fresh ρ st.next (st.next + 1)) (hc : VRL ρ cs (C.toList.take cs.length))
    (hfr : FrOk C.size fr) (hh : w'.heap = w.heap.push (.cells C t fr)) (h1 : w'.os = w.os) (h2 : w'.tape = w.tape) (h3 : w'.output = w.output) :
    Mv ρ (upd ρ st.next (some ⟨w.heap.size, 0, ex, es, C.size, false, nofz⟩)) st.h.get (st.new (.cells cs ex es)).h.get st.next (st.new (.cells cs ex es)).next w w' := by
  have hn : ρ st.next = none := hf _ (Nat.le_refl _) (Nat.lt_succ_self _)
  have : (st.new (.cells cs ex es)).h.get = upd st.h.get st.next (some (.cells cs ex es)) := by simp [ASt.new, set_get]
  rw [this]
  refine Mv.alloc hw hn _ rfl _ (fun _ h => h) rfl (by rw [hh]; simp) (fun b hb => by rw [hh, Array.getElem?_push, if_neg (by omega)]) ⟨rfl, rfl, rfl, C, t, fr, by rw [hh]; simp, rfl, hfr, ?_, fun i x hx => ?_⟩ h1 h2 h3
  · have := hc.1; simp at this ⊢; omega
  · obtain ⟨y, hy, hv⟩ := hc.get hx
    rw [List.getElem?_take] at hy
    split at hy
    · refine ⟨y, ?_, hv.mono (Sub.upd _ hn)⟩
      rw [Nat.zero_add]; simpa using hy
    · cases hy
theorem VRL.whole {ρ : Rho} {l : List Value} {C : Array Value} (h : VRL ρ l C.toList) : VRL ρ l (C.toList.take l.length) := by
  have : C.toList.take l.length = C.toList := by rw [h.1]; exact List.take_length
  rw [this]; exact h
theorem ptr_new {ρ : Rho} {n : Nat} {s : Spot} (h0 : s.base = 0) : VR (upd ρ n (some s)) (.pointer (some ⟨n, 0, none⟩)) (.pointer (some ⟨s.blk, 0, none⟩)) := by
  have := VR.ptr (ρ := upd ρ n (some s)) n 0 s (upd_same _ _ _)
  rw [h0] at this
  exact this
theorem no_frozen (n : Nat) : ∀ k, k < n → ¬ ((0, 0) : Nat × Nat).1 ≤ k ∨ ¬ k < ((0, 0) : Nat × Nat).2 := fun k _ => .inr (by simp)
theorem op_alloc {P : Program} {o : Oper} {f : AFr} {st : ASt} {t : TypeId} {z : List Value} (h : o.op = .alloc t) (hz : zeroL P t = .ok z) : OpR P o f st (.val (.pointer (some ⟨st.next, 0, none⟩)) (st.new (.cells z true 0))) := by
  refine ⟨LoS.new _ _, fun ρ w a hf hw hfr => ?_⟩
  obtain ⟨zv, h1, h2, h3⟩ := run_zeroL hz
  refine ⟨_, .pointer (some ⟨w.heap.size, 0, none⟩), w.alloc (.cells zv.cells t), .inl (by simp [execOp, h, Instr.alloc, h3, newVar, newRow]), ptr_new rfl, Mv.row (C := zv.cells) true 0 (0, 0) hw hfr (VRL.whole (by rw [h1]; exact ground_list h2)) (.inl rfl) rfl rfl rfl rfl⟩
theorem op_box {P : Program} {o : Oper} {f : AFr} {st : ASt} {t : TypeId} {x : Operand} (h : o.op = .box t x) (h1 : (cellsL (f.ev x)).all oneC = true) : OpR P o f st (.val (.pointer (some ⟨st.next, 0, none⟩)) (st.new (.cells (cellsL (f.ev x)) true 0))) := by
  refine ⟨LoS.new _ _, fun ρ w a hf hw hfr => ?_⟩
  obtain ⟨r1, r2⟩ := cellsL_rel (hf.ev x) h1
  refine ⟨_, .pointer (some ⟨w.heap.size, 0, none⟩), w.alloc (.cells (a.eval x).cells t), .inl (by simp [execOp, h, Instr.box, newVar, newRow]), ptr_new rfl, Mv.row (C := (a.eval x).cells) true 0 (0, 0) hw hfr (VRL.whole r1) (.inl rfl) rfl rfl rfl rfl⟩
end Go.Proofs.YtpogcoolgnjejaaGreatDoor.Ev
/-
  What the evaluator says of single operations holds of their runs: values that are built, slices.
-/
set_option linter.unusedVariables false
set_option linter.unusedSimpArgs false
namespace Go.Proofs.YtpogcoolgnjejaaGreatDoor.Ev
open Go

theorem fold_lay (off : Nat) : ∀ (l : List Value) (j0 : Nat) (C : Array Value), off + j0 + l.length ≤ C.size →
    ((l.zipIdx j0).foldl (fun cs (p : Value × Nat) => cs.setIfInBounds (off + p.2) p.1) C).size = C.size ∧
    ∀ k, ((l.zipIdx j0).foldl (fun cs (p : Value × Nat) => cs.setIfInBounds (off + p.2) p.1) C)[k]? = if off + j0 ≤ k ∧ k < off + j0 + l.length then l[k - (off + j0)]? else C[k]? := by
  intro l
  induction l with
  | nil => intro j0 C h; exact ⟨rfl, fun k => by rw [if_neg (by simp)]; rfl⟩
  | cons v l ih =>
    intro j0 C h
    simp only [List.length_cons] at h
    obtain ⟨h1, h2⟩ := ih (j0 + 1) (C.setIfInBounds (off + j0) v) (by simp; omega)
    simp only [List.zipIdx_cons, List.foldl_cons]
    refine ⟨by rw [h1]; simp, fun k => ?_⟩
    rw [h2]
    by_cases hk : k = off + j0
    · subst hk
      rw [if_neg (by omega), if_pos (by simp)]
      have : off + j0 < C.size := by omega
      simp [this]
    · by_cases hk2 : off + (j0 + 1) ≤ k ∧ k < off + (j0 + 1) + l.length
      · rw [if_pos hk2, if_pos (by simp; omega), show k - (off + j0) = (k - (off + (j0 + 1))) + 1 by omega]
        simp
      · rw [if_neg hk2, if_neg (by simp; omega), Array.getElem?_setIfInBounds_ne (by omega)]
theorem lay_rel {ρ : Rho} {off : Nat} {vs vs' cells cells' : List Value} {C C' : Array Value} (h : layL off vs cells = some cells') (hv : VRL ρ vs vs') (hc : VRL ρ cells C.toList) (hs : C'.size = C.size)
    (hk : ∀ k, C'[k]? = if off ≤ k ∧ k < off + vs'.length then vs'[k - off]? else C[k]?) : VRL ρ cells' C'.toList := by
  obtain ⟨l1, l2, l3⟩ := layL_some h
  have e := hv.1
  refine ⟨by rw [l1]; have := hc.1; simp at this ⊢; omega, fun i x y hx hy => ?_⟩
  rw [Array.getElem?_toList, hk] at hy
  rw [l3] at hx
  by_cases hi : off ≤ i ∧ i < off + vs.length
  · rw [if_pos hi] at hx; rw [if_pos (by omega)] at hy
    exact hv.2 _ x y hx hy
  · rw [if_neg hi] at hx; rw [if_neg (by omega)] at hy
    exact hc.2 i x y hx (by simpa using hy)
def PartR (ρ : Rho) : List (Nat × Value) → List (Nat × Value) → Prop
  | [], [] => True
  | p :: l, q :: m => p.1 = q.1 ∧ VR ρ p.2 q.2 ∧ PartR ρ l m
  | _, _ => False
theorem fill_rel {ρ : Rho} {place : Nat → Option (Nat × Nat)} : ∀ {parts parts' : List (Nat × Value)} {cells cs : List Value} {C : Array Value}, fillL place cells parts = .ok cs → VRL ρ cells C.toList → PartR ρ parts parts' →
    ∃ C', Instr.fill place C parts' = some C' ∧ VRL ρ cs C'.toList := by
  intro parts
  induction parts with
  | nil =>
    intro parts' cells cs C h hc hp
    cases parts' with
    | nil => simp only [fillL, Rs.ok.injEq] at h; subst h; exact ⟨C, rfl, hc⟩
    | cons q m => exact hp.elim
  | cons p l ih =>
    intro parts' cells cs C h hc hp
    cases parts' with
    | nil => exact hp.elim
    | cons q m =>
      obtain ⟨i, v⟩ := p
      obtain ⟨i', v'⟩ := q
      obtain ⟨e1, e2, e3⟩ := hp
      simp only at e1 e2
      subst e1
      simp only [fillL] at h
      split at h
      · rename_i off size hpl
        obtain ⟨h1, h2⟩ := cond_ok h
        simp only [Bool.and_eq_true] at h1
        have hsz : (cellsL v).length = size := Nat.eq_of_beq_eq_true h1.1.1
        obtain ⟨cs1, h3, h4⟩ := bnd_ok h2
        have h5 := of_ok h3
        obtain ⟨r1, r2⟩ := cellsL_rel e2 h1.1.2
        obtain ⟨l1, l2, l3⟩ := layL_some h5
        have e5 := r1.1
        have e6 := hc.1
        simp only [Array.length_toList] at e5 e6
        have hb : off + size ≤ cells.length := Nat.le_of_ble_eq_true h1.2
        obtain ⟨f1, f2⟩ := fold_lay off v'.cells.toList 0 C (by simp; omega)
        have hC : v'.cells.zipIdx.foldl (fun cs (x : Value × Nat) => cs.setIfInBounds (off + x.2) x.1) C = (v'.cells.toList.zipIdx 0).foldl (fun cs (p : Value × Nat) => cs.setIfInBounds (off + p.2) p.1) C := by
          rw [← Array.foldl_toList, Array.toList_zipIdx]
        have hr := lay_rel (C' := (v'.cells.toList.zipIdx 0).foldl (fun cs (p : Value × Nat) => cs.setIfInBounds (off + p.2) p.1) C) h5 r1 hc f1 (fun k => by rw [f2]; simp)
        obtain ⟨C', k1, k2⟩ := ih h4 hr e3
        refine ⟨C', ?_, k2⟩
        simp only [Instr.fill, hpl]
        rw [if_neg (by simp; omega)]
        rw [← k1, ← hC]
      · cases h
theorem parts_rel {ρ : Rho} {f : AFr} {a : Act} (hf : FrR ρ f a) (ps : Array (Nat × Operand)) : PartR ρ (partsL f ps) (ps.map fun (i, x) => (i, a.eval x)).toList := by
  unfold partsL
  rw [Array.toList_map]
  induction ps.toList with
  | nil => trivial
  | cons p l ih => exact ⟨rfl, hf.ev p.2, ih⟩
theorem places_run {P : Program} : ∀ {fs : List Field} {pl : List (Nat × Nat)}, placesL P fs = .ok pl → ∀ w, (fs.mapM fun f => (do pure (f.offset, ← sizeOf f.type) : Sem (Nat × Nat))).run P w = .ok pl w := by
  intro fs
  induction fs with
  | nil => intro pl h w; simp only [placesL, Rs.ok.injEq] at h; subst h; rfl
  | cons f l ih =>
    intro pl h w
    simp only [placesL] at h
    obtain ⟨n, h1, h2⟩ := bnd_ok h
    obtain ⟨r, h3, h4⟩ := bnd_ok h2
    cases h4
    have h5 := ih h3 w
    simp only [List.mapM_cons, Sem.run_bind, run_sizeL h1, Result.andThen_ok, Sem.run_pure, h5]
theorem op_build_struct {P : Program} {o : Oper} {f : AFr} {st : ASt} {t : TypeId} {ps : Array (Nat × Operand)} {z cs : List Value} {fs : Array Field} {pl : List (Nat × Nat)} (h : o.op = .build t ps) (hz : zeroL P t = .ok z) (hd : undL P t = .ok (.struct fs))
    (hp : placesL P fs.toList = .ok pl) (hfi : fillL (fun i => pl[i]?) z (partsL f ps) = .ok cs) : OpR P o f st (.val (.agg cs.toArray) st) :=
  OpR.quiet fun ρ w a hf hw => by
    obtain ⟨zv, h1, h2, h3⟩ := run_zeroL hz
    obtain ⟨C', k1, k2⟩ := fill_rel (C := zv.cells) hfi (by rw [h1]; exact ground_list h2) (parts_rel hf ps)
    refine ⟨.agg C', ?_, ?_⟩
    · have hpl := places_run hp w
      obtain ⟨fl⟩ := fs
      have e : (fun (x : Nat) => pl.toArray[x]?) = (fun (i : Nat) => pl[i]?) := by funext i; simp
      simp only [execOp, h, Instr.build, Sem.run_bind, h3, Result.andThen_ok, run_und hd]
      simp only [List.mapM_toArray, Sem.run_map, hpl, Result.andThen_ok]
      rw [e, k1]
      rfl
    · have := VR.agg' k2; simpa using this
theorem op_build_array {P : Program} {o : Oper} {f : AFr} {st : ASt} {t e : TypeId} {ps : Array (Nat × Operand)} {z cs : List Value} {m n : Nat} (h : o.op = .build t ps) (hz : zeroL P t = .ok z) (hd : undL P t = .ok (.array m e))
    (hn : sizeL P e = .ok n) (hfi : fillL (fun i => some (i * n, n)) z (partsL f ps) = .ok cs) : OpR P o f st (.val (.agg cs.toArray) st) :=
  OpR.quiet fun ρ w a hf hw => by
    obtain ⟨zv, h1, h2, h3⟩ := run_zeroL hz
    obtain ⟨C', k1, k2⟩ := fill_rel (C := zv.cells) hfi (by rw [h1]; exact ground_list h2) (parts_rel hf ps)
    refine ⟨.agg C', ?_, ?_⟩
    · simp only [execOp, h, Instr.build, Sem.run_bind, h3, Result.andThen_ok, run_und hd, run_sizeL hn]
      rw [k1]
      rfl
    · have := VR.agg' k2; simpa using this
end Go.Proofs.YtpogcoolgnjejaaGreatDoor.Ev
/-
  What the evaluator says of single operations holds of their runs: slices that are made, append.
-/
set_option linter.unusedVariables false
set_option linter.unusedSimpArgs false
namespace Go.Proofs.YtpogcoolgnjejaaGreatDoor.Ev
open Go

theorem repL_get (z : List Value) : ∀ (n i : Nat), (repL z n)[i]? = if i < n * z.length then z[i % z.length]? else none := by
  intro n
  induction n with
  | zero => intro i; simp [repL]
  | succ n ih =>
    intro i
    simp only [repL]
    rw [Nat.succ_mul]
    rcases Nat.lt_or_ge i z.length with h | h
    · rw [List.getElem?_append_left h, if_pos (by omega), Nat.mod_eq_of_lt h]
    · rw [List.getElem?_append_right h, ih]
      by_cases h2 : i - z.length < n * z.length
      · rw [if_pos h2, if_pos (by omega)]
        congr 1
        rw [Nat.mod_eq_sub_mod h]
      · rw [if_neg h2, if_neg (by omega)]
theorem repL_len (z : List Value) (n : Nat) : (repL z n).length = n * z.length := by
  induction n with
  | zero => simp [repL]
  | succ n ih => simp only [repL, List.length_append, ih, Nat.succ_mul]; omega
theorem repL_all {p : Value → Bool} {z : List Value} (h : z.all p = true) : ∀ n, (repL z n).all p = true := by
  intro n
  induction n with
  | zero => rfl
  | succ n ih => simp only [repL, List.all_append, h, ih, Bool.and_self]
theorem rep_rel {ρ : Rho} {z : List Value} {zc : Array Value} {n N : Nat} (hz : VRL ρ z z) (he : N ≠ 0 → zc.toList = z) (hN : N = n * z.length) : VRL ρ (repL z n) ((Array.range N).map fun i => zc[i % zc.size]!).toList := by
  refine ⟨by rw [repL_len]; simp [hN], fun i x y hx hy => ?_⟩
  rw [repL_get] at hx
  split at hx
  · rename_i hi
    have hN0 : N ≠ 0 := by omega
    have e := he hN0
    have hsz : zc.size = z.length := by rw [← e]; simp
    have hzl : 0 < z.length := by
      rcases Nat.eq_zero_or_pos z.length with h0 | h0
      · rw [h0] at hi; simp at hi
      · exact h0
    have hlt : i % z.length < z.length := Nat.mod_lt _ hzl
    simp only [Array.toList_map, Array.toList_range, List.getElem?_map] at hy
    rw [List.getElem?_range (by omega)] at hy
    simp only [Option.map_some, Option.some.injEq, hsz] at hy
    have h3 : zc[i % z.length]! = x := by
      have h4 : zc[i % z.length]? = some x := by rw [← Array.getElem?_toList, e]; exact hx
      simp [getElem!_def, h4]
    rw [h3] at hy
    subst hy
    exact hz.2 _ x x hx hx
  · cases hx
theorem slice_new {ρ : Rho} {n k c c' : Nat} {s : Spot} (h0 : s.base = 0) (hk : k ≤ c) (hc : c ≤ c') (hx : s.ex = true → c' = c) (hr : s.ex = false → c' * s.es ≤ s.room) : VR (upd ρ n (some s)) (.slice (some ⟨n, 0, none⟩) k c) (.slice (some ⟨s.blk, 0, none⟩) k c') :=
  .slice n 0 s k c c' 0 (upd_same _ _ _) hk hc hx (fun h => by rw [Nat.zero_add]; exact hr h) (.inl (by omega))
theorem op_buildSlice {P : Program} {o : Oper} {f : AFr} {st : ASt} {t e : TypeId} {len n : Nat} {ps : Array (Nat × Operand)} {z cs : List Value} (h : o.op = .buildSlice t len ps) (hd : undL P t = .ok (.slice e)) (hn : sizeL P e = .ok n) (hz : zeroL P e = .ok z)
    (h1 : z.length = n) (h2 : len * n ≤ 16777216) (hfi : fillL (fun i => some (i * n, n)) (repL z len) (partsL f ps) = .ok cs) :
    OpR P o f st (.val (.slice (some ⟨st.next, 0, none⟩) len len) (st.new (.cells cs true n))) := by
  refine ⟨LoS.new _ _, fun ρ w a hf hw hfr => ?_⟩
  obtain ⟨zv, e1, e2, e3⟩ := run_zeroL hz
  have hz0 : (Sem.run P (if len * n = 0 then (pure #[] : Sem (Array Value)) else (do pure (← zeroValue e).cells)) w) = .ok (if len * n = 0 then #[] else zv.cells) w := by
    split <;> simp [e3]
  obtain ⟨C', k1, k2⟩ := fill_rel (C := (Array.range (len * n)).map fun i => (if len * n = 0 then #[] else zv.cells)[i % (if len * n = 0 then #[] else zv.cells).size]!) hfi
    (rep_rel (ground_list e2) (fun h0 => by rw [if_neg h0]; exact e1) (by rw [h1])) (parts_rel hf ps)
  refine ⟨_, .slice (some ⟨w.heap.size, 0, none⟩) len len, w.alloc (.cells C' e), .inl ?_, slice_new rfl (Nat.le_refl _) (Nat.le_refl _) (fun _ => rfl) (fun h => by cases h), Mv.row (C := C') true n (0, 0) hw hfr (VRL.whole k2) (.inl rfl) rfl rfl rfl rfl⟩
  simp only [execOp, h, Instr.buildSlice, Sem.run_bind, run_und hd, Result.andThen_ok, run_sizeL hn]
  rw [if_neg (by omega)]
  by_cases h0 : len * n = 0
  · have k3 : Instr.fill (fun i => some (i * n, n)) (Array.map (fun i => (#[] : Array Value)[i % (#[] : Array Value).size]!) (Array.range 0)) (Array.map (fun x => (x.fst, a.eval x.snd)) ps).toList = some C' := by
      simp only [h0, ↓reduceIte] at k1; exact k1
    simp only [h0, ↓reduceIte, Sem.run_bind, Sem.run_pure, Result.andThen_ok]
    rw [k3]
    simp [newRow]
  · have k3 : Instr.fill (fun i => some (i * n, n)) (Array.map (fun i => zv.cells[i % zv.cells.size]!) (Array.range (len * n))) (Array.map (fun x => (x.fst, a.eval x.snd)) ps).toList = some C' := by
      simp only [h0, ↓reduceIte] at k1; exact k1
    simp only [h0, ↓reduceIte, Sem.run_bind, e3, Sem.run_pure, Result.andThen_ok]
    rw [k3]
    simp [newRow]
theorem bytesL_ok {P : Program} {t : TypeId} {n : Nat} (h : bytesL P t = .ok n) (w : World) : ∃ i, (typeInfo t).run P w = .ok i w ∧ i.bytes = n := by
  unfold bytesL at h
  split at h
  · rename_i i e; cases h; exact ⟨i, by simp [typeInfo, e], rfl⟩
  · cases h
theorem wrap_small (n : Nat) (h : n ≤ 1000000) : IntKind.i64.wrap (Int.ofNat n) = n := by
  have e : IntKind.i64.bits = 64 := rfl
  rw [show (Int.ofNat n) = ((n : Nat) : Int) from rfl]
  unfold IntKind.wrap
  simp only [e, IntKind.signed]
  have h1 : ((n : Nat) : Int) % (2 ^ 64 : Int) = n := Int.emod_eq_of_lt (by omega) (by omega)
  simp only [h1]
  rw [if_neg (by simp; omega)]
theorem op_makeSlice {P : Program} {o : Oper} {f : AFr} {st : ASt} {t e : TypeId} {x y : Operand} {k1 k2 : IntKind} {l c n b : Nat} {z : List Value} (h : o.op = .makeSlice t x y) (hx : f.ev x = .int k1 (.ofNat l)) (hy : f.ev y = .int k2 (.ofNat c)) (hd : undL P t = .ok (.slice e))
    (hz : zeroL P e = .ok z) (hn : sizeL P e = .ok n) (hb : bytesL P e = .ok b) (h1 : l ≤ c) (h2 : c ≤ 1000000) (h3 : b ≤ 1000000) (h4 : z.length = n) :
    OpR P o f st (.val (.slice (some ⟨st.next, 0, none⟩) l c) (st.new (.cells (repL z c) true n))) := by
  refine ⟨LoS.new _ _, fun ρ w a hf hw hfr => ?_⟩
  obtain ⟨zv, e1, e2, e3⟩ := run_zeroL hz
  have ex := hf.ev x
  have ey := hf.ev y
  rw [hx] at ex; rw [hy] at ey
  generalize hX : a.eval x = X at ex
  generalize hY : a.eval y = Y at ey
  cases ex; cases ey
  have hz0 : ∀ w, (Sem.run P (if c * n = 0 then (pure #[] : Sem (Array Value)) else (do pure (← zeroValue e).cells)) w) = .ok (if c * n = 0 then #[] else zv.cells) w := by
    intro w; split <;> simp [e3]
  obtain ⟨ii, i1, i2⟩ := bytesL_ok hb w
  refine ⟨_, .slice (some ⟨w.heap.size, 0, none⟩) l c, w.alloc (.cells ((Array.range (c * n)).map fun i => (if c * n = 0 then #[] else zv.cells)[i % (if c * n = 0 then #[] else zv.cells).size]!) e), .inl ?_, slice_new rfl h1 (Nat.le_refl _) (fun _ => rfl) (fun h => by cases h),
    Mv.row (C := (Array.range (c * n)).map fun i => (if c * n = 0 then #[] else zv.cells)[i % (if c * n = 0 then #[] else zv.cells).size]!) true n (0, 0) hw hfr (VRL.whole (rep_rel (ground_list e2) (fun h0 => by rw [if_neg h0]; exact e1) (by rw [h4]))) (.inl rfl) rfl rfl rfl rfl⟩
  have hbn : b * c ≤ 1000000 * 1000000 := Nat.mul_le_mul h3 h2
  have w1 := wrap_small l (by omega)
  have w2 := wrap_small c h2
  simp only [execOp, h, hX, hY, Instr.makeSlice, Sem.run_bind, run_und hd, Result.andThen_ok, asInt, asIntOf, Sem.run_pure, i1, i2, w1, w2]
  have c1 : ¬ ((c : Int) < 0) := by omega
  have c2 : ¬ ((b : Int) * (c : Int) > 2 ^ 48) := by
    have : ((b : Int) * (c : Int)) = ((b * c : Nat) : Int) := by simp
    rw [this]; omega
  have c3 : ¬ ((l : Int) < 0) := by omega
  have c4 : ¬ ((l : Int) > c) := by omega
  simp only [c1, c2, c3, c4, decide_false, Bool.or_self, Bool.false_eq_true, if_false, run_askRoom, Result.andThen_ok, Int.toNat_natCast, Sem.run_bind, run_sizeL hn]
  by_cases h0 : c * n = 0
  · simp only [h0, ↓reduceIte, Sem.run_bind, Sem.run_pure, Result.andThen_ok]
    simp [newRow]
  · simp only [h0, ↓reduceIte, Sem.run_bind, e3, Sem.run_pure, Result.andThen_ok]
    simp [newRow]
theorem op_makeMap {P : Program} {o : Oper} {f : AFr} {st : ASt} {t : TypeId} {r : Option Operand} (h : o.op = .makeMap t r) (hr : ∀ x, r = some x → (∃ k n, f.ev x = .int k n) ∧ ∃ k e, undL P t = .ok (.map k e)) : OpR P o f st (.val (.map (some st.next)) (st.new (.map [] 0))) := by
  refine ⟨LoS.new _ _, fun ρ w a hf hw hfr => ?_⟩
  have hn : ρ st.next = none := hfr _ (Nat.le_refl _) (Nat.lt_succ_self _)
  refine ⟨upd ρ st.next (some ⟨w.heap.size, 0, false, 0, 0, false, nofz⟩), .map (some w.heap.size), w.alloc (.map #[] 0), .inl ?_, .map st.next ⟨w.heap.size, 0, false, 0, 0, false, nofz⟩ (upd_same _ _ _), ?_⟩
  · cases r with
    | none => simp [execOp, h, Instr.makeMap]
    | some x =>
      obtain ⟨⟨k, n, e1⟩, k2, e2, e3⟩ := hr x rfl
      have ex := hf.ev x
      rw [e1] at ex
      generalize hX : a.eval x = X at ex
      cases ex
      simp [execOp, h, Instr.makeMap, hX, run_und e3, asInt, asIntOf]
  · have : (st.new (.map [] 0)).h.get = upd st.h.get st.next (some (.map [] 0)) := by simp [ASt.new, set_get]
    rw [this]
    exact Mv.alloc hw hn _ rfl _ (fun _ h => h) rfl (by simp) (fun b hb => RowKit.Below.heap_alloc _ _ _ hb) ⟨rfl, #[], by show (w.heap.push _)[w.heap.size]? = _; simp, rfl, fun i e he => by simp at he⟩ rfl rfl rfl
end Go.Proofs.YtpogcoolgnjejaaGreatDoor.Ev
/-
  What the evaluator says of single operations holds of their runs: parts of slices, lengths, kinds of interface values.
-/
set_option linter.unusedVariables false
set_option linter.unusedSimpArgs false
namespace Go.Proofs.YtpogcoolgnjejaaGreatDoor.Ev
open Go

/-- an operand that may be there -/
def OptR (ρ : Rho) : Option Value → Option Value → Prop
  | none, none => True
  | some v, some v' => VR ρ v v'
  | _, _ => False
theorem FrR.opt {ρ : Rho} {f : AFr} {a : Act} (h : FrR ρ f a) (x : Option Operand) : OptR ρ (x.map f.ev) (x.map a.eval) := by
  cases x with
  | none => trivial
  | some x => exact h.ev x
theorem boundL_run {P : Program} {x x' : Option Value} {d m r : Nat} {ρ : Rho} (h : boundL x d m = .ok r) (hx : OptR ρ x x') :
    (x' = none ∧ r = d) ∨ ∃ v', x' = some v' ∧ r ≤ m ∧ ∀ (m' : Nat) (c : BoundsCode) (w : World), m ≤ m' → (Instr.sliceBound v' m' c).run P w = .ok r w := by
  unfold boundL at h
  split at h
  · cases x' with
    | none => cases h; exact .inl ⟨rfl, rfl⟩
    | some v => exact hx.elim
  · rename_i k i
    obtain ⟨h1, h2⟩ := cond_ok h
    cases h2
    have h3 : r ≤ m := Nat.le_of_ble_eq_true h1
    cases x' with
    | none => exact hx.elim
    | some v =>
      cases hx
      refine .inr ⟨_, rfl, h3, fun m' c w hm => ?_⟩
      have h4 : (0 : Int) ≤ (Int.ofNat r) ∧ (Int.ofNat r) ≤ m' := ⟨Int.natCast_nonneg r, by simp; omega⟩
      simp only [Instr.sliceBound, asIntOf, Sem.run_bind, Sem.run_pure, Result.andThen_ok, h4, and_self, if_true]
      rfl
  · cases h
/-- the bounds of a slice expression of two -/
theorem bounds2 {P : Program} {lo hi lo' hi' : Option Value} {len cap cap' h l : Nat} {ρ : Rho} (h1 : boundL hi len cap = .ok h) (h2 : boundL lo 0 h = .ok l) (hh : OptR ρ hi hi') (hl : OptR ρ lo lo') (hc : cap ≤ cap') (isS : Bool) (w : World) :
    (Instr.sliceBounds isS len cap' lo' hi' none).run P w = .ok (l, h, cap') w ∧ l ≤ h ∧ (h ≤ cap ∨ h = len) := by
  have hlh : l ≤ h := by
    rcases boundL_run (P := P) h2 hl with ⟨_, rfl⟩ | ⟨v, _, e, _⟩
    · omega
    · exact e
  rcases boundL_run (P := P) h1 hh with ⟨rfl, rfl⟩ | ⟨v, rfl, e1, e2⟩
  · refine ⟨?_, hlh, .inr rfl⟩
    rcases boundL_run (P := P) h2 hl with ⟨rfl, rfl⟩ | ⟨u, rfl, e3, e4⟩
    · simp only [Instr.sliceBounds, Sem.run_bind, Sem.run_pure, Result.andThen_ok]
    · simp only [Instr.sliceBounds, Sem.run_bind, Sem.run_pure, Result.andThen_ok, e4 h _ w (Nat.le_refl _)]
  · refine ⟨?_, hlh, .inl e1⟩
    rcases boundL_run (P := P) h2 hl with ⟨rfl, rfl⟩ | ⟨u, rfl, e3, e4⟩
    · simp only [Instr.sliceBounds, Sem.run_bind, Sem.run_pure, Result.andThen_ok, e2 cap' _ w hc]
    · simp only [Instr.sliceBounds, Sem.run_bind, Sem.run_pure, Result.andThen_ok, e2 cap' _ w hc, e4 h _ w (Nat.le_refl _)]
theorem op_slice_str {P : Program} {o : Oper} {f : AFr} {st : ASt} {t : TypeId} {x : Operand} {lo hi : Option Operand} {s : ByteArray} {h l : Nat} (ho : o.op = .slice t x lo hi none) (hx : f.ev x = .string s) (hd : undL P t = .ok .string)
    (h1 : boundL (hi.map f.ev) s.size s.size = .ok h) (h2 : boundL (lo.map f.ev) 0 h = .ok l) : OpR P o f st (.val (.string ⟨((s.data.toList.take h).drop l).toArray⟩) st) :=
  OpR.quiet fun ρ w a hf hw => by
    have hc := hf.ev x
    rw [hx] at hc
    have hX := hc.string_inv
    obtain ⟨r1, r2, r3⟩ := bounds2 (P := P) (cap' := s.size) h1 h2 (hf.opt hi) (hf.opt lo) (Nat.le_refl _) false w
    refine ⟨.string (s.extract l h), ?_, ?_⟩
    · simp [execOp, ho, hX, Instr.sliceAt, run_und hd, Instr.slice, r1]
    · have : s.extract l h = ⟨((s.data.toList.take h).drop l).toArray⟩ := by
        apply ByteArray.ext
        rw [ByteArray.data_extract]
        apply Array.toList_inj.1
        simp [Array.toList_extract, List.extract_eq_take_drop, List.drop_take]
      rw [this]
      exact .string _
theorem op_slice_nil {P : Program} {o : Oper} {f : AFr} {st : ASt} {t e : TypeId} {x : Operand} {lo hi : Option Operand} {h l n : Nat} (ho : o.op = .slice t x lo hi none) (hx : f.ev x = .slice none 0 0) (hd : undL P t = .ok (.slice e)) (hn : sizeL P e = .ok n)
    (h1 : boundL (hi.map f.ev) 0 0 = .ok h) (h2 : boundL (lo.map f.ev) 0 0 = .ok l) : OpR P o f st (.val (.slice none 0 0) st) :=
  OpR.quiet fun ρ w a hf hw => by
    have hc := hf.ev x
    rw [hx] at hc
    generalize hX : a.eval x = X at hc
    cases hc
    have hh0 : h = 0 := by
      rcases boundL_run (P := P) h1 (hf.opt hi) with ⟨_, e⟩ | ⟨v, _, e, _⟩ <;> omega
    subst hh0
    obtain ⟨r1, r2, r3⟩ := bounds2 (P := P) (cap' := 0) h1 h2 (hf.opt hi) (hf.opt lo) (Nat.le_refl _) true w
    have hl0 : l = 0 := by omega
    subst hl0
    exact ⟨.slice none 0 0, by simp [execOp, ho, hX, Instr.sliceAt, run_und hd, Instr.slice, r1, run_sizeL hn], .sliceNil⟩
theorem op_slice_ex {P : Program} {o : Oper} {f : AFr} {st : ASt} {t e : TypeId} {x : Operand} {lo hi : Option Operand} {h l n len cap es : Nat} {b0 o0 : Nat} {cs : List Value} (ho : o.op = .slice t x lo hi none) (hx : f.ev x = .slice (some ⟨b0, o0, none⟩) len cap) (hd : undL P t = .ok (.slice e)) (hn : sizeL P e = .ok n)
    (hg : st.h.get b0 = some (.cells cs true es)) (h1 : boundL (hi.map f.ev) len cap = .ok h) (h2 : boundL (lo.map f.ev) 0 h = .ok l) : OpR P o f st (.val (.slice (some (cond (Nat.beq cap l) ⟨b0, o0, none⟩ ((⟨b0, o0, none⟩ : Addr).add (l * n)))) (h - l) (cap - l)) st) :=
  OpR.quiet fun ρ w a hf hw => by
    have hc := hf.ev x
    rw [hx] at hc
    generalize hX : a.eval x = X at hc
    cases hc with
    | slice _ _ s _ _ c' o' hs hnc hcc hxx hr hoo =>
      obtain ⟨s', e1, e2⟩ := hw.obj _ _ hg
      rw [hs] at e1; cases e1
      have hex : s.ex = true := e2.2.1
      have hcap := hxx hex
      subst hcap
      obtain ⟨r1, r2, r3⟩ := bounds2 (P := P) (cap' := c') h1 h2 (hf.opt hi) (hf.opt lo) (Nat.le_refl _) true w
      have hhc : h ≤ c' := by omega
      refine ⟨.slice (some (if c' = l then ⟨s.blk, o', none⟩ else (⟨s.blk, o', none⟩ : Addr).add (l * n))) (h - l) (c' - l), ?_, ?_⟩
      · simp only [execOp, ho, hX, Instr.sliceAt, Sem.run_bind, run_und hd, Result.andThen_ok, Instr.slice, Option.map_none, r1, run_sizeL hn, Sem.run_pure, Option.map_some]
        congr 3
        split <;> rfl
      · by_cases hcl : c' = l
        · have hb : Nat.beq c' l = true := by rw [hcl]; exact Nat.beq_refl l
          rw [hb, if_pos hcl]
          exact .slice b0 o0 s _ _ _ o' hs (by omega) (Nat.le_refl _) (fun _ => rfl) (fun h => by rw [hex] at h; cases h) (.inr (by omega))
        · have hb : Nat.beq c' l = false := by
            cases hb : Nat.beq c' l with
            | true => exact absurd (Nat.eq_of_beq_eq_true hb) hcl
            | false => rfl
          rw [hb, if_neg hcl]
          simp only [cond_false, add_at]
          exact .slice b0 (o0 + l * n) s _ _ _ (o' + l * n) hs (by omega) (Nat.le_refl _) (fun _ => rfl) (fun h => by rw [hex] at h; cases h) (by rcases hoo with hoo | hoo <;> omega)
theorem op_slice_own {P : Program} {o : Oper} {f : AFr} {st : ASt} {t e : TypeId} {x : Operand} {lo hi : Option Operand} {h l n len cap : Nat} {b0 o0 : Nat} {cs : List Value} (ho : o.op = .slice t x lo hi none) (hx : f.ev x = .slice (some ⟨b0, o0, none⟩) len cap) (hd : undL P t = .ok (.slice e)) (hn : sizeL P e = .ok n)
    (hg : st.h.get b0 = some (.cells cs false n)) (h1 : boundL (hi.map f.ev) len cap = .ok h) (h2 : boundL (lo.map f.ev) 0 h = .ok l) : OpR P o f st (.val (.slice (some ((⟨b0, o0, none⟩ : Addr).add (l * n))) (h - l) (cap - l)) st) :=
  OpR.quiet fun ρ w a hf hw => by
    have hc := hf.ev x
    rw [hx] at hc
    generalize hX : a.eval x = X at hc
    cases hc with
    | slice _ _ s _ _ c' o' hs hnc hcc hxx hr hoo =>
      obtain ⟨s', e1, e2⟩ := hw.obj _ _ hg
      rw [hs] at e1; cases e1
      have hex : s.ex = false := e2.2.1
      have hes : s.es = n := e2.2.2.1
      obtain ⟨r1, r2, r3⟩ := bounds2 (P := P) (cap' := c') h1 h2 (hf.opt hi) (hf.opt lo) hcc true w
      have hhc : h ≤ cap := by omega
      have hro := hr hex
      rw [hes] at hro
      refine ⟨.slice (some (if c' = l then ⟨s.blk, o', none⟩ else (⟨s.blk, o', none⟩ : Addr).add (l * n))) (h - l) (c' - l), ?_, ?_⟩
      · simp only [execOp, ho, hX, Instr.sliceAt, Sem.run_bind, run_und hd, Result.andThen_ok, Instr.slice, Option.map_none, r1, run_sizeL hn, Sem.run_pure, Option.map_some]
        congr 3
        split <;> rfl
      · simp only [add_at]
        by_cases hcl : c' = l
        · rw [if_pos hcl]
          have hz : o' + (c' - l) * s.es ≤ s.room := by
            rw [show c' - l = 0 by omega]
            have := Nat.zero_le (c' * n)
            omega
          exact .slice b0 (o0 + l * n) s _ _ _ o' hs (by omega) (by omega) (fun h => by rw [hex] at h; cases h) (fun _ => hz) (.inr (by omega))
        · rw [if_neg hcl]
          have hm : (c' - l) * n + l * n = c' * n := by rw [← Nat.add_mul]; congr 1; omega
          exact .slice b0 (o0 + l * n) s _ _ _ (o' + l * n) hs (by omega) (by omega) (fun h => by rw [hex] at h; cases h) (fun _ => by rw [hes]; omega) (by rcases hoo with hoo | hoo <;> omega)
theorem maxN_ge (a b : Nat) : a ≤ maxN a b ∧ b ≤ maxN a b ∧ (maxN a b = a ∨ maxN a b = b) := by
  unfold maxN
  cases h : Nat.ble a b with
  | true => have : a ≤ b := Nat.le_of_ble_eq_true h; exact ⟨this, Nat.le_refl _, .inr rfl⟩
  | false => have : ¬ a ≤ b := fun h2 => by rw [Nat.ble_eq_true_of_le h2] at h; cases h
             exact ⟨Nat.le_refl _, by simp; omega, .inl rfl⟩
theorem op_slice_row {P : Program} {o : Oper} {f : AFr} {st : ASt} {t e : TypeId} {x : Operand} {lo hi : Option Operand} {h l n len cap : Nat} {b0 i0 lo' hi' : Nat} {own : Rk} {elem : Nat → Nat → Td} (ho : o.op = .slice t x lo hi none) (hx : f.ev x = .slice (some ⟨b0, 0, some i0⟩) len cap) (hd : undL P t = .ok (.slice e)) (hn : sizeL P e = .ok n)
    (hg : st.h.get b0 = some (.row own n lo' hi' elem)) (h1 : boundL (hi.map f.ev) len len = .ok h) (h2 : boundL (lo.map f.ev) 0 h = .ok l) : OpR P o f st (.val (.slice (some ⟨b0, 0, some (i0 + l)⟩) (h - l) (cond (Nat.beq len 0) cap 0)) st) :=
  OpR.quiet fun ρ w a hf hw => by
    have hc := hf.ev x
    rw [hx] at hc
    generalize hX : a.eval x = X at hc
    cases hc with
    | sliceI _ _ s _ _ c' o' hs hnc hcc hr hv hoo =>
      obtain ⟨s', e1, e2, _⟩ := hw.obj _ _ hg
      rw [hs] at e1; cases e1
      obtain ⟨r1, r2, r3⟩ := bounds2 (P := P) (cap' := c') h1 h2 (hf.opt hi) (hf.opt lo) (by omega) true w
      have hhc : h ≤ c' := by omega
      have hfl : (cond (Nat.beq len 0) cap 0) ≠ 0 → 0 < h - l := by
        intro hne
        cases len with
        | zero => exact absurd (hcc (by simpa using hne)) (by simp)
        | succ len => exact absurd rfl hne
      refine ⟨.slice (some (if c' = l then ⟨s.blk, o', none⟩ else (⟨s.blk, o', none⟩ : Addr).add (l * n))) (h - l) (c' - l), ?_, ?_⟩
      · simp only [execOp, ho, hX, Instr.sliceAt, Sem.run_bind, run_und hd, Result.andThen_ok, Instr.slice, Option.map_none, r1, run_sizeL hn, Sem.run_pure, Option.map_some]
        congr 3
        split <;> rfl
      · simp only [add_at]
        by_cases hcl : c' = l
        · rw [if_pos hcl]
          exact .sliceI b0 _ s _ _ _ o' hs (by omega) hfl (fun hex => by have := hr hex; rw [show c' - l = 0 by omega]; omega) hv (.inr (by omega))
        · rw [if_neg hcl]
          have hm : (c' - l) * n + l * n = c' * n := by rw [← Nat.add_mul]; congr 1; omega
          exact .sliceI b0 _ s _ _ _ (o' + l * n) hs (by omega) hfl (fun hex => by have := hr hex; rw [e2] at this ⊢; omega) hv (by
            rcases hoo with hoo | hoo
            · left; rw [hoo, e2, Nat.add_mul]; omega
            · omega)
    | sliceE _ _ c' x s hs hex =>
      obtain ⟨r1, r2, r3⟩ := bounds2 (P := P) (cap' := c') h1 h2 (hf.opt hi) (hf.opt lo) (by omega) true w
      have hh : h = 0 := by omega
      have hl : l = 0 := by omega
      subst hh; subst hl
      refine ⟨.slice (some (if c' = 0 then x else x.add (0 * n))) (0 - 0) (c' - 0), ?_, .sliceE b0 _ _ _ s hs hex⟩
      simp only [execOp, ho, hX, Instr.sliceAt, Sem.run_bind, run_und hd, Result.andThen_ok, Instr.slice, Option.map_none, r1, run_sizeL hn, Sem.run_pure, Option.map_some]
      congr 3
      split <;> rfl
    | sliceN =>
      obtain ⟨r1, r2, r3⟩ := bounds2 (P := P) (cap' := 0) h1 h2 (hf.opt hi) (hf.opt lo) (by omega) true w
      have hh : h = 0 := by omega
      have hl : l = 0 := by omega
      subst hh; subst hl
      refine ⟨.slice none (0 - 0) (0 - 0), ?_, .sliceN b0 _⟩
      simp only [execOp, ho, hX, Instr.sliceAt, Sem.run_bind, run_und hd, Result.andThen_ok, Instr.slice, Option.map_none, r1, run_sizeL hn, Sem.run_pure, if_true]
    | sliceZ _ _ x =>
      obtain ⟨r1, r2, r3⟩ := bounds2 (P := P) (cap' := 0) h1 h2 (hf.opt hi) (hf.opt lo) (by omega) true w
      have hh : h = 0 := by omega
      have hl : l = 0 := by omega
      subst hh; subst hl
      refine ⟨.slice (some x) (0 - 0) (0 - 0), ?_, .sliceZ b0 _ x⟩
      simp only [execOp, ho, hX, Instr.sliceAt, Sem.run_bind, run_und hd, Result.andThen_ok, Instr.slice, Option.map_none, r1, run_sizeL hn, Sem.run_pure, Option.map_some, if_true]
/-- s[:0:0] -/
theorem op_slice_none {P : Program} {o : Oper} {f : AFr} {st : ASt} {t e : TypeId} {x m h : Operand} {k k' : IntKind} {n : Nat} {v : Value} (ho : o.op = .slice t x none (some h) (some m)) (hm : f.ev m = .int k (.ofNat 0)) (hh : f.ev h = .int k' (.ofNat 0)) (hd : undL P t = .ok (.slice e)) (hn : sizeL P e = .ok n)
    (hv : (∃ b0 i0 a c, f.ev x = .slice (some ⟨b0, 0, some i0⟩) a c ∧ v = .slice (some ⟨b0, 1, some i0⟩) 0 0) ∨ (f.ev x = .slice none 0 0 ∧ v = .slice none 0 0) ∨ ∃ b0 o0 a c, f.ev x = .slice (some ⟨b0, o0, none⟩) a c ∧ v = .slice (some ⟨b0, 1, some 0⟩) 0 0) : OpR P o f st (.val v st) :=
  OpR.quiet fun ρ w a hf hw => by
    have hM := hf.ev m
    rw [hm] at hM
    have hH := hf.ev h
    rw [hh] at hH
    have hX := hf.ev x
    have main : ∀ (b : Option Addr) (l c : Nat), a.eval x = .slice b l c → VR ρ v (.slice b 0 0) → ∃ v', (execOp a.eval o).run P w = .ok (.value v') w ∧ VR ρ v v' := by
      intro b l c hA hv
      refine ⟨.slice b 0 0, ?_, hv⟩
      generalize hMM : a.eval m = M at hM
      generalize hHH : a.eval h = H at hH
      cases hM; cases hH
      have hb : ∀ (k : IntKind) (m' : Nat) (cc : BoundsCode) (w : World), (Instr.sliceBound (.int k (Int.ofNat 0)) m' cc).run P w = .ok 0 w := by
        intro k m' cc w
        have h4 : (0 : Int) ≤ (Int.ofNat 0) ∧ (Int.ofNat 0) ≤ m' := ⟨Int.natCast_nonneg 0, by simp⟩
        simp only [Instr.sliceBound, asIntOf, Sem.run_bind, Sem.run_pure, Result.andThen_ok, h4, and_self, if_true]
        rfl
      simp only [execOp, ho, hA, hMM, hHH, Instr.sliceAt, Sem.run_bind, run_und hd, Result.andThen_ok, Instr.slice, Instr.sliceBounds, Option.map_none, Option.map_some, hb, run_sizeL hn, Sem.run_pure, if_true, Nat.sub_self]
    rcases hv with ⟨b0, i0, l, c, hx, rfl⟩ | ⟨hx, rfl⟩ | ⟨b0, o0, l, c, hx, rfl⟩
    · rw [hx] at hX
      generalize hA : a.eval x = A at hX
      cases hX with
      | sliceI => exact main _ _ _ hA (.sliceX _ _ _)
      | sliceE => exact main _ _ _ hA (.sliceX _ _ _)
      | sliceN => exact main _ _ _ hA (.sliceX _ _ _)
      | sliceZ => exact main _ _ _ hA (.sliceX _ _ _)
    · rw [hx] at hX
      generalize hA : a.eval x = A at hX
      cases hX
      exact main _ _ _ hA .sliceNil
    · rw [hx] at hX
      generalize hA : a.eval x = A at hX
      cases hX with
      | slice => exact main _ _ _ hA (.sliceX _ _ _)

/-! ### lengths -/
theorem len_rel {P : Program} {ρ : Rho} {st : ASt} {w : World} {t : TypeId} {ts : List TypeId} {ty : TypeId} {x x' v : Value} (h : aLen P st t x = .ok v) (hx : VR ρ x x') (hw : WR ρ st.h.get w) :
    (Builtin.len_ (t :: ts).toArray ty #[x']).run P w = .ok v w ∧ VR ρ v v := by
  unfold aLen at h
  obtain ⟨d, hd, h⟩ := bnd_ok h
  split at h
  · cases h
    have := hx.string_inv
    subst this
    exact ⟨by simp [Builtin.len_, run_und hd, goInt], .int _ _⟩
  · cases h
    cases hx <;> exact ⟨by simp [Builtin.len_, run_und hd, goInt], .int _ _⟩
  · cases h
    cases hx
    exact ⟨by simp [Builtin.len_, run_und hd, goInt], .int _ _⟩
  · rename_i r
    split at h
    · rename_i es clock hg
      cases h
      cases hx with
      | map a s hs =>
        obtain ⟨s', e1, _, E, e2, e3, e4⟩ := hw.obj _ _ hg
        rw [hs] at e1; cases e1
        have hgo : (getObj s.blk).run P w = .ok (.map E clock) w := by simp [getObj, Sem.run, e2]
        exact ⟨by simp [Builtin.len_, run_und hd, goInt, hgo, e3], .int _ _⟩
    · cases h
  · cases h
    exact ⟨by simp [Builtin.len_, run_und hd, goInt], .int _ _⟩
  · cases h
theorem cap_rel {P : Program} {ρ : Rho} {st : ASt} {w : World} {t : TypeId} {ts : List TypeId} {ty : TypeId} {x x' v : Value} {e : TypeId} (h : aCap st x = .ok v) (hd : undL P t = .ok (.slice e)) (hx : VR ρ x x') (hw : WR ρ st.h.get w) :
    (Builtin.cap_ (t :: ts).toArray ty #[x']).run P w = .ok v w ∧ VR ρ v v := by
  unfold aCap at h
  split at h
  · cases h
    cases hx
    exact ⟨by simp [Builtin.cap_, run_und hd, goInt], .int _ _⟩
  · split at h
    · rename_i hg
      cases h
      cases hx with
      | slice a o s _ _ c' o' hs hn hc hxx hr ho =>
        obtain ⟨s', e1, e2⟩ := hw.obj _ _ hg
        rw [hs] at e1; cases e1
        have := hxx e2.2.1
        subst this
        exact ⟨by simp [Builtin.cap_, run_und hd, goInt], .int _ _⟩
    · cases h
  · cases h

/-! ### what kind an interface value is of -/
theorem zeroV_run {P : Program} {ρ : Rho} {t : TypeId} {z : Value} (h : zeroV P t = .ok z) : (∀ w, (zeroValue t).run P w = .ok z w) ∧ VR ρ z z := by
  unfold zeroV at h
  split at h
  · rename_i i e
    split at h
    · rename_i z' ez
      obtain ⟨h1, h2⟩ := cond_ok h
      cases h2
      exact ⟨fun w => by simp [zeroValue, typeInfo, e, ez], VR.refl 3 h1⟩
    · cases h
  · cases h
theorem VR.pair {ρ : Rho} {v v' : Value} (h : VR ρ v v') (b : Bool) : VR ρ (.tuple #[v, .bool b]) (.tuple #[v', .bool b]) := VR.tuple' (VRL.cons h (VRL.cons (.bool b) (VRL.nil ρ)))
theorem op_typeAssert {P : Program} {o : Oper} {f : AFr} {st : ASt} {x : Operand} {xt t : TypeId} {ok : Bool} {d : TypeDesc} {r : AN} (h : o.op = .typeAssert x xt t ok) (hd : undL P t = .ok d) (hni : ∀ m, d ≠ .interface m)
    (hr : (match f.ev x with
      | .nilIface => cond ok ((zeroV P t).bnd fun z => .ok (.val (.tuple #[z, .bool false]) st)) (.er "typeAssert: nil")
      | .iface t' v => cond (Nat.beq t' t) (.ok (.val (cond ok (.tuple #[v, .bool true]) v) st)) (cond ok ((zeroV P t).bnd fun z => .ok (.val (.tuple #[z, .bool false]) st)) (.er "typeAssert: fails"))
      | _ => .er "typeAssert") = Rs.ok r) : OpR P o f st r := by
  have hc : ∀ ρ a, FrR ρ f a → VR ρ (f.ev x) (a.eval x) := fun ρ a hf => hf.ev x
  split at hr
  · rename_i hx
    obtain ⟨h1, h2⟩ := cond_ok hr
    obtain ⟨z, h3, h4⟩ := bnd_ok h2
    cases h4
    subst h1
    refine OpR.quiet fun ρ w a hf hw => ?_
    have hX := hc ρ a hf
    rw [hx] at hX
    generalize hA : a.eval x = A at hX
    cases hX
    obtain ⟨z1, z2⟩ := zeroV_run (ρ := ρ) h3
    refine ⟨.tuple #[z, .bool false], ?_, VR.pair z2 false⟩
    simp only [execOp, h, hA, Instr.typeAssert, Sem.run_bind, run_und hd, Result.andThen_ok]
    cases d <;> first | exact absurd rfl (hni _) | simp [z1]
  · rename_i t' v hx
    cases ht : Nat.beq t' t with
    | true =>
      rw [ht] at hr
      cases hr
      have e : t' = t := Nat.eq_of_beq_eq_true ht
      subst e
      refine OpR.quiet fun ρ w a hf hw => ?_
      have hX := hc ρ a hf
      rw [hx] at hX
      generalize hA : a.eval x = A at hX
      cases hX with
      | iface _ _ v' hv =>
        cases ok with
        | true =>
          refine ⟨.tuple #[v', .bool true], ?_, VR.pair hv true⟩
          simp only [execOp, h, hA, Instr.typeAssert, Sem.run_bind, run_und hd, Result.andThen_ok]
          cases d <;> first | exact absurd rfl (hni _) | simp
        | false =>
          refine ⟨v', ?_, hv⟩
          simp only [execOp, h, hA, Instr.typeAssert, Sem.run_bind, run_und hd, Result.andThen_ok]
          cases d <;> first | exact absurd rfl (hni _) | simp
    | false =>
      rw [ht] at hr
      simp only [cond_false] at hr
      obtain ⟨h1, h2⟩ := cond_ok hr
      obtain ⟨z, h3, h4⟩ := bnd_ok h2
      cases h4
      subst h1
      have e : t' ≠ t := Nat.ne_of_beq_eq_false ht
      refine OpR.quiet fun ρ w a hf hw => ?_
      have hX := hc ρ a hf
      rw [hx] at hX
      generalize hA : a.eval x = A at hX
      cases hX with
      | iface _ _ v' hv =>
        obtain ⟨z1, z2⟩ := zeroV_run (ρ := ρ) h3
        refine ⟨.tuple #[z, .bool false], ?_, VR.pair z2 false⟩
        simp only [execOp, h, hA, Instr.typeAssert, Sem.run_bind, run_und hd, Result.andThen_ok]
        cases d <;> first | exact absurd rfl (hni _) | simp [z1, e]
  · cases hr
end Go.Proofs.YtpogcoolgnjejaaGreatDoor.Ev
/-
  What the evaluator says of single operations holds of their runs: conversions, append, copy.
-/
set_option linter.unusedVariables false
set_option linter.unusedSimpArgs false
namespace Go.Proofs.YtpogcoolgnjejaaGreatDoor.Ev
open Go

/-! ### append -/
theorem oneC_rel {ρ : Rho} {x y : Value} (hxy : VR ρ x y) (hx : oneC x = true) : y.oneCell' = true := by
  cases hxy <;> first | rfl | simp [oneC, bad] at hx
theorem oneC_list {ρ : Rho} {l l' : List Value} (hl : VRL ρ l l') (ha : l.all oneC = true) : ∀ v ∈ l', v.oneCell' = true := by
  intro v hv
  obtain ⟨i, hi⟩ := List.getElem?_of_mem hv
  have h2 : i < l.length := by
    have := (List.getElem?_eq_some_iff.1 hi).1
    have := hl.1
    omega
  have h3 := hl.2 i _ v (List.getElem?_eq_getElem h2) hi
  rw [List.all_eq_true] at ha
  exact oneC_rel h3 (ha _ (List.getElem_mem h2))
/-- the cells of what is appended or copied -/
theorem firstL_run {P : Program} {ρ : Rho} {st : ASt} {w : World} {size n : Nat} {x x' : Value} {l : List Value} (h : firstL st size x = .ok (n, l)) (hx : VR ρ x x') (hw : WR ρ st.h.get w) :
    (∀ w0, (Builtin.lenOf x').run P w0 = .ok n w0) ∧ ∃ l', VRL ρ l l' ∧ l'.length = n * size ∧ (∀ w1 : World, w1.heap = w.heap → (Builtin.firstCells size n x').run P w1 = .ok l'.toArray w1) ∧ (l.all oneC = true → ∀ v ∈ l', v.oneCell' = true) := by
  have nothing : ∀ {a : Addr} (l0 : List Value), st.readC a (0 * size) = .ok l0 → ∀ (x : Option Addr) (c' : Nat), (∀ w0, (Builtin.lenOf (.slice x 0 c')).run P w0 = .ok 0 w0) ∧ ∃ l', VRL ρ l0 l' ∧ l'.length = 0 * size ∧ (∀ w1 : World, w1.heap = w.heap → (Builtin.firstCells size 0 (.slice x 0 c')).run P w1 = .ok l'.toArray w1) ∧ (l0.all oneC = true → ∀ v ∈ l', v.oneCell' = true) := by
    intro a l0 h1 x c'
    have hl0 : l0 = [] := by
      have : 0 * size = 0 := Nat.zero_mul _
      unfold ASt.readC at h1
      rw [this] at h1
      split at h1
      · split at h1 <;> first | (cases h1; done) | (have := of_ok h1; simp only [takeL, Option.some.injEq] at this; exact this.symm)
      · split at h1 <;> first | (cases h1; done) | (have := of_ok h1; simp only [takeL, Option.some.injEq] at this; exact this.symm)
      · cases h1
    subst hl0
    refine ⟨fun w0 => rfl, [], VRL.nil ρ, by simp, fun w1 _ => ?_, fun _ v hv => by simp at hv⟩
    have h0 : 0 * size = 0 := Nat.zero_mul _
    cases x <;> simp only [Builtin.firstCells, loadCells, h0] <;> rfl
  unfold firstL at h
  split at h
  · cases h
    cases hx
    exact ⟨fun w0 => rfl, [], VRL.nil ρ, by simp, fun w1 _ => by simp [Builtin.firstCells], fun _ v hv => by simp at hv⟩
  · rename_i a m c
    obtain ⟨l0, h1, h2⟩ := bnd_ok h
    cases h2
    cases hx with
    | slice b o s _ _ c' o' hs hn hc hxx hr ho =>
      obtain ⟨l', r1, r2, r3⟩ := readC_rel h1 hw hs
      refine ⟨fun w0 => rfl, l', r1, r2, fun w1 hw1 => ?_, oneC_list r1⟩
      simp only [locOf] at r3
      by_cases h0 : n * size = 0
      · have : l' = [] := List.eq_nil_of_length_eq_zero (by rw [r2, h0])
        subst this
        simp only [Builtin.firstCells, loadCells, h0]
        rfl
      · have ho' : o' = s.base + o := by
          rcases ho with ho | ho
          · exact ho
          · exfalso
            have : n = 0 := by omega
            rw [this] at h0; simp at h0
        subst ho'
        have := run_loadCells_list (P := P) (w := w1) ⟨s.blk, s.base + o, none⟩ l' (fun j v hv => by
          have := r3 j v hv
          unfold World.cell? at this ⊢
          rw [hw1]; exact this)
        rw [r2] at this
        simp only [Builtin.firstCells, this]
    | sliceI b i s _ _ c' o' hs hn hc hr hv ho =>
      exfalso
      unfold ASt.readC at h1
      split at h1 <;> cases h1
    | sliceE b i c' x s hs hex => exact nothing _ h1 _ _
    | sliceN b i => exact nothing _ h1 _ _
    | sliceZ b i x => exact nothing _ h1 _ _
    | sliceX b i x => exact nothing _ h1 _ _
  · rename_i s
    obtain ⟨hs1, h⟩ := cond_ok h
    have hs1 : size = 1 := Nat.eq_of_beq_eq_true hs1
    subst hs1
    cases h
    have := hx.string_inv
    subst this
    have he : s.extract 0 s.size = s := by
      apply ByteArray.ext
      rw [ByteArray.data_extract]
      apply Array.toList_inj.1
      simp only [Array.toList_extract, List.extract_eq_take_drop, Nat.sub_zero, List.drop_zero]
      exact List.take_of_length_le (by simp)
    refine ⟨fun w0 => rfl, s.data.toList.map fun b => .int .u8 b.toNat, ⟨rfl, fun i x y hx hy => by rw [hx] at hy; cases hy; simp only [List.getElem?_map] at hx; cases hd : s.data.toList[i]? with | none => rw [hd] at hx; cases hx | some b => rw [hd] at hx; cases hx; exact .int _ _⟩, by simp, fun w1 _ => ?_, fun _ v hv => ?_⟩
    · simp only [Builtin.firstCells, he, Sem.run_pure]
      congr 1
      apply Array.toList_inj.1
      simp
    · simp only [List.mem_map] at hv
      obtain ⟨b, _, rfl⟩ := hv
      rfl
  · cases h
end Go.Proofs.YtpogcoolgnjejaaGreatDoor.Ev
