/-
  The evaluator where values are left open: it branches, and says what has to hold; what it says, the evaluator says.
-/
import Derived.Test.YtbkbimmelmoohaaEvY
set_option linter.unusedVariables false
set_option linter.unusedSimpArgs false
namespace Go.Proofs.Ytbkbimmelmoohaa.Ev
open Go
def br (b : Bool) (K1 K2 : Prop) : Prop := match b with
 | true => K1
 | false => K2
theorem br_of {b : Bool} {K1 K2 : Prop} (h1 : b = true → K1) (h2 : b = false → K2) : br b K1 K2 := by cases b; exact h2 rfl; exact h1 rfl
theorem br_elim {b : Bool} {K1 K2 : Prop} (h : br b K1 K2) : (b = true ∧ K1) ∨ (b = false ∧ K2) := by cases b; exact .inr ⟨rfl, h⟩; exact .inl ⟨rfl, h⟩
def need (b : Bool) (K : Prop) : Prop := match b with
 | true => K
 | false => False
theorem need_of {b : Bool} {K : Prop} (h : b = true) (k : K) : need b K := by subst h; exact k
theorem need_elim {b : Bool} {K : Prop} (h : need b K) : b = true ∧ K := by cases b; exact h.elim; exact ⟨rfl, h⟩
def rsK {α : Type} (x : Rs α) (K : α → Prop) : Prop := match x with
 | .ok a => K a
 | .er _ _ => False
theorem rsK_elim {α : Type} {x : Rs α} {K : α → Prop} (h : rsK x K) : ∃ a, x = .ok a ∧ K a := by cases x with | ok a => exact ⟨a, rfl, h⟩ | er => exact h.elim
def optK {α : Type} (x : Option α) (K : α → Prop) : Prop := match x with
 | some a => K a
 | none => False
theorem optK_elim {α : Type} {x : Option α} {K : α → Prop} (h : optK x K) : ∃ a, x = some a ∧ K a := by cases x with | some a => exact ⟨a, rfl, h⟩ | none => exact h.elim
def natK (n : Int) (K : Nat → Prop) : Prop := match n with
 | .ofNat i => K i
 | .negSucc _ => False
theorem natK_elim {n : Int} {K : Nat → Prop} (h : natK n K) : ∃ i, n = .ofNat i ∧ K i := by cases n with | ofNat i => exact ⟨i, rfl, h⟩ | negSucc => exact h.elim
def idxK (n : Int) (K : Nat → Prop) : Prop := need (decide (0 ≤ n)) (K n.toNat)
theorem idxK_elim {n : Int} {K : Nat → Prop} (h : idxK n K) : ∃ i, n = .ofNat i ∧ K i := by
 obtain ⟨h1, h2⟩ := need_elim h
 exact ⟨n.toNat, (Int.toNat_of_nonneg (of_decide_eq_true h1)).symm, h2⟩
def forceV (v : Value) (C : Value → Prop) : Prop := match v with
 | .int k n => C (.int k n)
 | .bool b => C (.bool b)
 | .float k b => C (.float k b)
 | .pointer (some ⟨a, o, none⟩) => C (.pointer (some ⟨a, o, none⟩))
 | .pointer (some ⟨a, o, some i⟩) => C (.pointer (some ⟨a, o, some i⟩))
 | .slice (some ⟨a, o, none⟩) n c => C (.slice (some ⟨a, o, none⟩) n c)
 | .slice (some ⟨a, o, some i⟩) n c => C (.slice (some ⟨a, o, some i⟩) n c)
 | v => C v
theorem forceV_ok {v : Value} {C : Value → Prop} (h : forceV v C) : C v := by
 unfold forceV at h
 split at h <;> exact h
def forceL : List Value → (List Value → Prop) → Prop
 | [], C => C []
 | v :: l, C => forceV v fun v => forceL l fun l => C (v :: l)
theorem forceL_ok : ∀ {l : List Value} {C : List Value → Prop}, forceL l C → C l := by
 intro l
 induction l with
 | nil => intro C h; exact h
 | cons v l ih => intro C h; exact ih (forceV_ok h)
def forceA (v : Value) (C : Value → Prop) : Prop := match v with
 | .agg vs => forceL vs.toList fun l => C (.agg ⟨l⟩)
 | v => forceV v C
theorem forceA_ok {v : Value} {C : Value → Prop} (h : forceA v C) : C v := by
 unfold forceA at h
 split at h
 ·exact forceL_ok h
 ·exact forceV_ok h
def forceAL : List Value → (List Value → Prop) → Prop
 | [], C => C []
 | v :: l, C => forceA v fun v => forceAL l fun l => C (v :: l)
theorem forceAL_ok : ∀ {l : List Value} {C : List Value → Prop}, forceAL l C → C l := by
 intro l
 induction l with
 | nil => intro C h; exact h
 | cons v l ih => intro C h; exact ih (forceA_ok h)
def forceT (v : Value) (C : Value → Prop) : Prop := match v with
 | .tuple vs => forceAL vs.toList fun l => C (.tuple ⟨l⟩)
 | v => forceA v C
theorem forceT_ok {v : Value} {C : Value → Prop} (h : forceT v C) : C v := by
 unfold forceT at h
 split at h
 ·exact forceAL_ok h
 ·exact forceA_ok h
def cmpF (op : BinOp) (k : FloatKind) (a b : Nat) : Option Bool := match op with
 | .eql => some (k.format.order a b == some .eq)
 | .neq => some (k.format.order a b != some .eq)
 | .lss => some (k.format.order a b == some .lt)
 | .leq => some (k.format.order a b == some .lt || k.format.order a b == some .eq)
 | .gtr => some (k.format.order a b == some .gt)
 | .geq => some (k.format.order a b == some .gt || k.format.order a b == some .eq)
 | _ => none
def arithOp (op : BinOp) : Bool := match op with
 | .add | .sub | .mul | .quo => true
 | _ => false
def ariR (k : FloatKind) (op : BinOp) (a b : Nat) : Nat := match op with
 | .add => (k.format.add a b).getD (qnan k)
 | .sub => (k.format.sub a b).getD (qnan k)
 | .mul => (k.format.mul a b).getD (qnan k)
 | .quo => (k.format.div a b).getD (qnan k)
 | _ => 0
def negR (a : Nat) : Nat := cond (nanB .f64 a) (qnan .f64) (Op.negFloat .f64 a)
def fltN (op : BinOp) (k : FloatKind) (a b : Nat) (K : Value → Prop) : Prop :=
 match cmpF op k a b with
 | some q => K (.bool q)
 | none => cond (arithOp op) (K (.float k (ariR k op a b))) False
def divN (op : BinOp) (k : IntKind) (a b : Int) : Option Value := match op with
 | .quo => some (.int k (k.wrap (a.tdiv b)))
 | .rem => some (.int k (a.tmod b))
 | _ => none
def shN (op : BinOp) (k : IntKind) (a b : Int) : Option Value := match op with
 | .shl => some (.int k (k.wrap (a * 2 ^ (min b.toNat k.bits))))
 | .shr => some (.int k (a.fdiv (2 ^ (min b.toNat k.bits))))
 | _ => none
def floatsK : List Value → Prop → Prop
 | [], K => K
 | .float k b :: l, K => need (!nanB k b) (floatsK l K)
 | v :: l, K => need (ground 1 v) (floatsK l K)
def boundN (x : Option Value) (dflt most : Nat) (K : Nat → Prop) : Prop := match x with
 | none => K dflt
 | some (.int _ n) => idxK n fun i => need (Nat.ble i most) (K i)
 | _ => False
def boundN2 (x : Option Value) (len cap : Nat) (K : Nat → Prop) : Prop := match x with
 | none => K len
 | some (.int _ n) => idxK n fun i => need (Nat.ble i len) (K i)
 | _ => False
def toTsN (g : Value → ASt → (Td → ASt → Prop) → Prop) : List Value → ASt → (List Td → ASt → Prop) → Prop
 | [], st, K => K [] st
 | v :: l, st, K => g v st fun t st1 => toTsN g l st1 fun ts st2 => K (t :: ts) st2
def toTN : Nat → Value → ASt → (Td → ASt → Prop) → Prop
 | 0, _, _, _ => False
 | f + 1, v, st, K => match v with
  | .slice none 0 0 => K (.fr 0 0 1 noT) st
  | .slice (some ⟨b, 0, some i0⟩) n c => match st.h.get b with
   | some (.row _ es lo m g) => need (Nat.ble lo i0 && Nat.ble (i0 + n) m) (rsK (froze st b) fun st' => K (.fr es n c fun i => g (i0 + i)) st')
   | _ => False
  | .slice (some ⟨b, o, none⟩) n _ => match cellsO (st.h.get b) with
   | some (cs, es) => cond ((Nat.blt 0 es || Nat.beq n 0) && Nat.ble (o + n * es) cs.length) (optK (takeL (n * es) (dropL o cs)) fun l => toTsN (toTN f) l st fun ts st1 => rsK (froze st1 b) fun st' => K (.fr es n 0 (selT es n ts)) st') False
   | none => False
  | v => cond (scalT v) (K (.sc v) st) False
def writeRN (st : ASt) (a : Addr) (ts : List Td) (K : ASt → Prop) : Prop := match st.h.get a.block with
 | some (.row .mine es lo n elem) => match a.spot with
  | some i => cond (Nat.ble (a.off + ts.length) es) (need (Nat.blt i n) (K (st.set a.block (some (.row .mine es lo n (putT i a.off ts elem)))))) False
  | none => False
 | _ => False
def writeN (st : ASt) (a : Addr) (vs : List Value) (K : ASt → Prop) : Prop := cond (isRow (st.h.get a.block)) (toTsN (toTN 4) vs st fun ts st1 => writeRN st1 a ts K) (rsK (st.writeC a vs) K)
def srcN (P : Program) (st : ASt) (d2 : TypeDesc) (elem : TypeId) (size : Nat) (x : Value) (K : Nat → (Nat → Nat → Td) → ASt → Prop) : Prop := match x with
 | .int _ n => match d2 with
  | .int _ => idxK n fun n => need (Nat.ble n 1000000) (rsK (zeroL P elem) fun z => cond (z.all zOk) (K n (fun _ j => nthT (z.map zT) j) st) False)
  | _ => False
 | .slice (some ⟨b0, 0, some i0⟩) n _ => match d2, st.h.get b0 with
  | .slice _, some (.row _ es lo m g) => cond (Nat.beq es size) (need (Nat.ble lo i0 && Nat.ble (i0 + n) m) (K n (fun j => g (i0 + j)) st)) False
  | _, _ => False
 | x => rsK (newsL P st d2 elem size x) fun r => match r with
  | (n, l) => toTsN (toTN 4) l st fun ts st1 => K n (selT size n ts) st1
def appRN (st : ASt) (size : Nat) (s : Value) (n : Nat) (f : Nat → Nat → Td) (K : AN → Prop) : Prop := match s with
 | .slice (some ⟨b0, 0, some i0⟩) len c => match st.h.get b0 with
  | some (.row .mine es lo m g) => cond (Nat.beq es size) (need (Nat.ble lo i0 && Nat.ble (i0 + len) m) (K (.val (.slice (some ⟨st.next, 0, some 0⟩) (len + n) c)
    ((st.set b0 none).new (.row .mine size 0 (len + n) fun j k => mrgT (Nat.blt j len) (g (i0 + j) k) (f (j - len) k)))))) False
  | _ => False
 | s => rsK (aAppendR st size s n f) K
def appN (P : Program) (st : ASt) (ts : List TypeId) (args : List Value) (K : AN → Prop) : Prop := match ts, args with
 | t :: t2 :: ts', [s, x] => cond (isRowA s x)
  (rsK (undL P t) fun d => rsK (undL P t2) fun d2 => match d with
   | .slice elem => rsK (sizeL P elem) fun size => rsK (bytesL P elem) fun by_ => rsK (zeroL P elem) fun z => srcN P st d2 elem size x fun n f st1 => match s with
    | .slice _ len _ => cond (Nat.ble by_ 1000000 && Nat.beq z.length size) (need (Nat.ble (len + n) 1000000) (appRN st1 size s n f K)) False
    | _ => False
   | _ => False)
  (rsK (aAppendC P st (t :: t2 :: ts') [s, x]) K)
 | _, _ => False
def extN (P : Program) (f : FuncId) (args : List Value) (st : ASt) (K : AN → Prop) : Prop := match P.funcs.toList[f]? with
 | some fn => match fn.body with
  | some _ => rsK (aCall P f args st) K
  | none => cond (isTrunc fn) (match args with
    | [.float .f64 x] => K (.val (.float .f64 (truncR x)) st)
    | _ => False)
   (floatsK args (match pureRun P (callFunc f args.toArray) with | .ok (.value v) => cond (refl1 v) (K (.val v st)) False | _ => False))
 | none => False
def seeK : List Td → ASt → (List Value → ASt → Prop) → Prop
 | [], st, K => K [] st
 | t :: l, st, K => match t with
  | .sc x => forceV x fun x => seeK l st fun vs st' => K (x :: vs) st'
  | .fr es n c e => seeK l (st.new (.row .still es 0 n e)) fun vs st' => K (.slice (some ⟨st.next, 0, some 0⟩) n c :: vs) st'
def readN (st : ASt) (a : Addr) (n : Nat) (K : List Value → ASt → Prop) : Prop := match st.h.get a.block with
 | some (.row _ es lo m elem) => match a.spot with
  | some i => cond (Nat.beq a.off 0 && Nat.blt es n) (need (Nat.ble lo i && Nat.ble (i + n / es) m && Nat.beq (n / es * es) n) (seeK (rowsT es elem i (n / es)) st K))
   (cond (Nat.ble (a.off + n) es) (need (Nat.ble lo i && Nat.blt i m) (seeK (cellsT (elem i) a.off n) st K)) False)
  | none => False
 | _ => rsK (st.read a n) fun r => K r.1 r.2
def intIn (kd : IntKind) (x : Option Int) : Bool := match x with
 | some n => decide (kd.min ≤ n ∧ n ≤ kd.max)
 | none => false
def opN (P : Program) (f : AFr) (st : ASt) (o : Oper) (K : AN → Prop) : Prop := match o.op with
 | .pick c a b => match f.ev c with
  | .bool b' => br b' (K (.val (f.ev a) st)) (K (.val (f.ev b) st))
  | _ => False
 | .binOp op t x y _ => match f.ev x, f.ev y with
  | .float k a, .float k' b => cond (sameF k k') (fltN op k a b fun v => K (.val v st)) False
  | .int k a, .int k' b => match divN op k a b with
   | some v => need (decide (k = k') && !(decide (b = 0))) (K (.val v st))
   | none => match shN op k a b with
    | some v => need (decide (0 ≤ b)) (K (.val v st))
    | none => rsK (aOp P f st o) K
  | _, _ => rsK (aOp P f st o) K
 | .unOp op _ x => match f.ev x with
  | .float .f64 a => match op with
   | .neg => K (.val (.float .f64 (negR a)) st)
   | _ => False
  | _ => rsK (aOp P f st o) K
 | .convert s d x => match f.ev x with
  | .float k b => (match P.underlying s, P.underlying d with
   | some _, some (.int kd) => need (!nanB k b) (need (intIn kd ((k.decode b).toInt .zero)) (K (.val (.int kd (((k.decode b).toInt .zero).getD 0)) st)))
   | _, _ => False)
  | .slice (some ⟨b0, 0, some i0⟩) n c => rsK (undL P s) fun ds => rsK (undL P d) fun dd => match ds, dd with
   | .slice e, .string => rsK (undL P e) fun u => match u, st.h.get b0 with
    | .int .u8, some (.row _ es lo m g) => cond (Nat.beq es 1) (need (Nat.ble lo i0 && Nat.ble (i0 + n) m) (need (allB n fun j => g (i0 + j)) (K (.val (.string (strOf n fun j => g (i0 + j))) st)))) False
    | _, _ => False
   | _, _ => False
  | _ => rsK (aOp P f st o) K
 | .store t a x => match f.ev a with
  | .pointer (some a) => rsK (sizeL P t) fun n => cond (Nat.beq (cellsL (f.ev x)).length n) (writeN st a (cellsL (f.ev x)) fun st' => K (.val undef st')) False
  | _ => False
 | .indexAddr t x i => match f.ev i with
  | .int _ n => idxK n fun i => rsK (undL P t) fun d => match d, f.ev x with
   | .slice e, .slice (some ⟨b0, o0, none⟩) n _ => rsK (sizeL P e) fun s => need (Nat.blt i n) (K (.val (.pointer (some ((⟨b0, o0, none⟩ : Addr).add (i * s)))) st))
   | .slice e, .slice (some ⟨b0, 0, some i0⟩) n _ => rsK (sizeL P e) fun s => match st.h.get b0 with
    | some (.row _ es _ _ _) => cond (Nat.beq es s) (need (Nat.blt i n) (K (.val (.pointer (some ⟨b0, 0, some (i0 + i)⟩)) st))) False
    | _ => False
   | .array n e, .pointer (some ⟨b0, o0, none⟩) => rsK (sizeL P e) fun s => need (Nat.blt i n) (K (.val (.pointer (some ((⟨b0, o0, none⟩ : Addr).add (i * s)))) st))
   | .array n e, .pointer (some ⟨b0, o0, some i0⟩) => rsK (sizeL P e) fun s => need (Nat.blt i n) (K (.val (.pointer (some ⟨b0, o0 + i * s, some i0⟩)) st))
   | _, _ => False
  | _ => False
 | .makeSlice t l c => cond (rowMk c) (match f.ev l, f.ev c with
  | .int _ x, .int _ y => idxK x fun l' => idxK y fun c' => rsK (undL P t) fun d => match d with
   | .slice e => rsK (zeroL P e) fun z => rsK (sizeL P e) fun n => rsK (bytesL P e) fun b => cond (Nat.ble b 1000000 && Nat.beq z.length n && z.all zOk) (need (Nat.beq l' c' && Nat.ble c' 1000000) (K (.val (.slice (some ⟨st.next, 0, some 0⟩) l' 0) (st.new (.row .mine n 0 l' fun _ j => nthT (z.map zT) j))))) False
   | _ => False
  | _, _ => False) (rsK (aOp P f st o) K)
 | .load t a => match f.ev a with
  | .pointer (some a) => rsK (sizeL P t) fun n => readN st a n fun l st' => rsK (shutL P t l) fun v => K (.val v st')
  | _ => False
 | .slice t x lo hi mx => match mx, f.ev x with
  | none, .slice (some ⟨b0, 0, some i0⟩) len cap => rsK (undL P t) fun d => match d with
   | .slice e => boundN2 (hi.map f.ev) len cap fun h => boundN (lo.map f.ev) 0 h fun l => rsK (sizeL P e) fun s => match st.h.get b0 with
    | some (.row _ es _ _ _) => cond (Nat.beq es s) (K (.val (.slice (some ⟨b0, 0, some (i0 + l)⟩) (h - l) (cond (Nat.beq len 0) cap 0)) st)) False
    | _ => False
   | _ => False
  | _, _ => rsK (aOp P f st o) K
 | .call c => match c.callee with
  | .value g => match f.ev g with
   | .func (.func fid) a b => extN P fid ((a.toList ++ c.args.toList.map f.ev) ++ b.toList) st K
   | _ => False
  | .builtin .append => appN P st c.argTypes.toList (c.args.toList.map f.ev) K
  | _ => rsK (aOp P f st o) K
 | _ => rsK (aOp P f st o) K
theorem boundN_ok {x : Option Value} {dflt most : Nat} {K : Nat → Prop} (h : boundN x dflt most K) : ∃ r, boundL x dflt most = .ok r ∧ K r := by
 unfold boundN at h
 split at h
 ·exact ⟨dflt, rfl, h⟩
 ·obtain ⟨i, rfl, h2⟩ := idxK_elim h
  obtain ⟨h3, h4⟩ := need_elim h2
  exact ⟨i, by simp only [boundL, h3, cond_true], h4⟩
 ·exact h.elim
theorem boundN2_ok {x : Option Value} {len cap : Nat} {K : Nat → Prop} (h : boundN2 x len cap K) : ∃ r, boundL x len len = .ok r ∧ K r := by
 unfold boundN2 at h
 split at h
 ·exact ⟨len, rfl, h⟩
 ·obtain ⟨i, rfl, h2⟩ := idxK_elim h
  obtain ⟨h3, h4⟩ := need_elim h2
  exact ⟨i, by simp only [boundL, h3, cond_true], h4⟩
 ·exact h.elim
theorem toTsN_ok {g : Value → ASt → (Td → ASt → Prop) → Prop} {g' : Value → ASt → Rs (Td × ASt)} (hg : ∀ v st K, g v st K → ∃ t st', g' v st = .ok (t, st') ∧ K t st') : ∀ {l : List Value} {st : ASt} {K : List Td → ASt → Prop}, toTsN g l st K → ∃ ts st', toTs g' l st = .ok (ts, st') ∧ K ts st' := by
 intro l
 induction l with
 | nil => intro st K h; exact ⟨[], st, rfl, h⟩
 | cons v l ih =>
  intro st K h
  obtain ⟨t, st1, h1, h2⟩ := hg v st _ h
  obtain ⟨ts, st2, h3, h4⟩ := ih h2
  exact ⟨t :: ts, st2, by simp only [toTs, h1, h3, Rs.bnd], h4⟩
theorem toTN_ok : ∀ (f : Nat) (v : Value) (st : ASt) (K : Td → ASt → Prop), toTN f v st K → ∃ t st', toT f v st = .ok (t, st') ∧ K t st' := by
 intro f
 induction f with
 | zero => intro v st K h; exact h.elim
 | succ f ih =>
  intro v st K h
  unfold toTN at h
  unfold toT
  split at h
  ·exact ⟨_, _, rfl, h⟩
  ·rename_i b i0 n c
   split at h
   ·rename_i k es lo m g hg
    obtain ⟨h1, h⟩ := need_elim h
    obtain ⟨st', h2, h3⟩ := rsK_elim h
    exact ⟨_, _, by simp only [hg, h1, cond_true, h2, Rs.bnd], h3⟩
   ·exact h.elim
  ·rename_i b o n c
   split at h
   ·rename_i cs es hg
    cases hb : ((Nat.blt 0 es || Nat.beq n 0) && Nat.ble (o + n * es) cs.length) with
    | false => rw [hb] at h; exact h.elim
    | true =>
     rw [hb] at h
     obtain ⟨l, h1, h⟩ := optK_elim h
     obtain ⟨ts, st1, h2, h⟩ := toTsN_ok ih h
     obtain ⟨st', h3, h4⟩ := rsK_elim h
     exact ⟨_, _, by simp only [hg, hb, cond_true, h1, h2, h3, Rs.of, Rs.bnd], h4⟩
   ·exact h.elim
  ·rename_i h1 h2 h3
   cases hs : scalT v with
   | false => rw [hs] at h; exact h.elim
   | true =>
    rw [hs] at h
    refine ⟨.sc v, st, ?_, h⟩
    split
    ·exact (h1 rfl).elim
    ·exact (h2 _ _ _ _ rfl).elim
    ·exact (h3 _ _ _ _ rfl).elim
    ·simp only [hs, cond_true]
theorem writeN_ok {st : ASt} {a : Addr} {vs : List Value} {K : ASt → Prop} (h : writeN st a vs K) : ∃ st', st.write a vs = .ok st' ∧ K st' := by
 unfold writeN at h
 unfold ASt.write
 cases hr : isRow (st.h.get a.block) with
 | false =>
  rw [hr] at h
  exact rsK_elim h
 | true =>
  rw [hr] at h
  simp only [cond_true] at h ⊢
  obtain ⟨ts, st1, h1, h2⟩ := toTsN_ok (toTN_ok 4) h
  simp only [h1, Rs.bnd]
  unfold writeRN at h2
  unfold ASt.writeR
  split at h2
  ·rename_i es lo n elem hg
   rw [hg]
   split at h2
   ·rename_i i hi
    rw [hi]
    cases hb : Nat.ble (a.off + ts.length) es with
    | false => rw [hb] at h2; exact h2.elim
    | true =>
     rw [hb] at h2
     obtain ⟨h3, h4⟩ := need_elim h2
     exact ⟨_, by simp only [hb, h3, cond_true], h4⟩
   ·exact h2.elim
  ·exact h2.elim
theorem srcN_ok {P : Program} {st : ASt} {d2 : TypeDesc} {elem : TypeId} {size : Nat} {x : Value} {K : Nat → (Nat → Nat → Td) → ASt → Prop} (h : srcN P st d2 elem size x K) : ∃ n f st1, srcF P st d2 elem size x = .ok (n, f, st1) ∧ K n f st1 := by
 unfold srcN at h
 split at h
 ·rename_i k n
  split at h
  ·rename_i k2
   obtain ⟨n', hn, h9⟩ := idxK_elim h
   clear h
   subst hn
   obtain ⟨h1, h8⟩ := need_elim h9
   obtain ⟨z, hz, h7⟩ := rsK_elim h8
   cases hc : z.all zOk with
   | false => rw [hc] at h7; exact h7.elim
   | true =>
    rw [hc] at h7
    exact ⟨n', _, st, by simp only [srcF, h1, hz, Rs.bnd, hc, cond_true], h7⟩
  ·exact h.elim
 ·rename_i b0 i0 n c
  split at h
  ·rename_i e2 own es lo m g hg
   cases he : Nat.beq es size with
   | false => rw [he] at h; exact h.elim
   | true =>
    rw [he] at h
    obtain ⟨h1, h2⟩ := need_elim h
    exact ⟨_, _, _, by simp only [srcF, hg, he, h1, cond_true], h2⟩
  ·exact h.elim
 ·rename_i hni hne
  obtain ⟨⟨n, l⟩, h1, h2⟩ := rsK_elim h
  obtain ⟨ts, st1, h3, h4⟩ := toTsN_ok (toTN_ok 4) h2
  refine ⟨n, _, st1, ?_, h4⟩
  unfold srcF
  split
  ·exact (hni _ _ rfl).elim
  ·exact (hne _ _ _ _ rfl).elim
  ·simp only [h1, h3, Rs.bnd]
theorem appRN_ok {st : ASt} {size : Nat} {s : Value} {n : Nat} {f : Nat → Nat → Td} {K : AN → Prop} (h : appRN st size s n f K) : ∃ r, aAppendR st size s n f = .ok r ∧ K r := by
 unfold appRN at h
 split at h
 ·rename_i b0 i0 len c
  split at h
  ·rename_i es lo m g hg
   cases he : Nat.beq es size with
   | false => rw [he] at h; exact h.elim
   | true =>
    rw [he] at h
    obtain ⟨h1, h2⟩ := need_elim h
    exact ⟨_, by simp only [aAppendR, hg, he, h1, cond_true], h2⟩
  ·exact h.elim
 ·exact rsK_elim h
theorem appN_ok {P : Program} {st : ASt} {ts : List TypeId} {args : List Value} {K : AN → Prop} (h : appN P st ts args K) : ∃ r, aAppend P st ts args = .ok r ∧ K r := by
 unfold appN at h
 split at h
 ·rename_i t t2 ts' s x
  cases hb : isRowA s x with
  | false =>
   rw [hb] at h
   obtain ⟨r, h1, h2⟩ := rsK_elim h
   exact ⟨r, by simp only [aAppend, hb, cond_false, h1], h2⟩
  | true =>
   rw [hb] at h
   obtain ⟨d, h1, h⟩ := rsK_elim h
   obtain ⟨d2, h2, h⟩ := rsK_elim h
   split at h
   ·rename_i elem
    obtain ⟨size, h3, h⟩ := rsK_elim h
    obtain ⟨by_, h4, h⟩ := rsK_elim h
    obtain ⟨z, h5, h⟩ := rsK_elim h
    obtain ⟨n, f, st1, h6, h⟩ := srcN_ok h
    split at h
    ·rename_i base len c
     cases hc : (Nat.ble by_ 1000000 && Nat.beq z.length size) with
     | false => rw [hc] at h; exact h.elim
     | true =>
      rw [hc] at h
      obtain ⟨h7, h⟩ := need_elim h
      obtain ⟨r, h8, h9⟩ := appRN_ok h
      exact ⟨r, by simp only [aAppend, hb, cond_true, h1, h2, h3, h4, h5, h6, Rs.bnd, hc, h7, h8], h9⟩
    ·exact h.elim
   ·exact h.elim
 ·exact h.elim
theorem seeK_ok : ∀ {ts : List Td} {st : ASt} {K : List Value → ASt → Prop}, seeK ts st K → K (seeT ts st).1 (seeT ts st).2 := by
 intro ts
 induction ts with
 | nil => intro st K h; exact h
 | cons t ts ih =>
  intro st K h
  cases t with
  | sc x => exact ih (forceV_ok (C := fun x => seeK ts st fun vs st' => K (x :: vs) st') h)
  | fr es n c e => exact ih h
theorem readN_ok {st : ASt} {a : Addr} {n : Nat} {K : List Value → ASt → Prop} (h : readN st a n K) : ∃ l st', st.read a n = .ok (l, st') ∧ K l st' := by
 unfold readN at h
 split at h
 ·rename_i own es lo m elem hg
  have hrow : isRow (st.h.get a.block) = true := by rw [hg]; rfl
  split at h
  ·rename_i i hi
   cases hmul : (Nat.beq a.off 0 && Nat.blt es n) with
   | true =>
    rw [hmul] at h
    obtain ⟨h1, h2⟩ := need_elim h
    exact ⟨_, _, by simp only [ASt.read, ASt.readT, hg, isRow, hi, hmul, h1, Rs.bnd, cond_true], seeK_ok h2⟩
   | false =>
    rw [hmul] at h
    simp only [cond_false] at h
    cases hb : Nat.ble (a.off + n) es with
    | false => rw [hb] at h; exact h.elim
    | true =>
     rw [hb] at h
     obtain ⟨h1, h2⟩ := need_elim h
     exact ⟨_, _, by simp only [ASt.read, ASt.readT, hg, isRow, hi, hmul, hb, h1, cond_true, cond_false, Rs.bnd], seeK_ok h2⟩
  ·exact h.elim
 ·obtain ⟨r, h1, h2⟩ := rsK_elim h
  exact ⟨r.1, r.2, h1, h2⟩
theorem floatsK_ok {K : Prop} : ∀ {l : List Value}, floatsK l K → l.all (ground 1) = true ∧ K := by
 intro l
 induction l with
 | nil => intro h; exact ⟨rfl, h⟩
 | cons v l ih =>
  intro h
  unfold floatsK at h
  split at h
  ·rename_i heq; cases heq
  ·rename_i k b l' heq
   cases heq
   obtain ⟨h1, h2⟩ := need_elim h
   obtain ⟨h3, h4⟩ := ih h2
   exact ⟨by simp [List.all_cons, ground, h3]; simpa using h1, h4⟩
  ·rename_i v' l' _ heq
   cases heq
   obtain ⟨h1, h2⟩ := need_elim h
   obtain ⟨h3, h4⟩ := ih h2
   exact ⟨by simp [List.all_cons, h1]; simpa using h3, h4⟩
theorem extN_ok {P : Program} {f : FuncId} {args : List Value} {st : ASt} {K : AN → Prop} (h : extN P f args st K) : ∃ r, aCall P f args st = .ok r ∧ K r := by
 unfold extN at h
 split at h
 ·rename_i fn hf
  split at h
  ·exact rsK_elim h
  ·rename_i hb
   cases ht : isTrunc fn with
   | true =>
    rw [ht] at h
    simp only [cond_true] at h
    split at h
    ·exact ⟨_, by simp only [aCall, hf, hb, ht, cond_true], h⟩
    ·exact h.elim
   | false =>
    rw [ht] at h
    obtain ⟨h1, h2⟩ := floatsK_ok h
    split at h2
    ·rename_i v hv
     cases hr : refl1 v with
     | false => rw [hr] at h2; exact h2.elim
     | true =>
      rw [hr] at h2
      exact ⟨_, by simp only [aCall, hf, hb, ht, h1, hv, hr, cond_true, cond_false], h2⟩
    ·exact h2.elim
 ·exact h.elim
theorem pureRun_int {P : Program} (op : BinOp) (t : TypeId) (xo yo : Operand) (k : IntKind) (a b : Int) (v : Value) (hd : divN op k a b = some v) (hb : b ≠ 0) :
  pureRun P (do eqGuard op t xo yo (.int k a) (.int k b); binOp op t (.int k a) (.int k b)) = .ok v := by
 cases op <;> simp only [divN, Option.some.injEq, reduceCtorEq] at hd <;> subst hd
 ·have : (do eqGuard .quo t xo yo (.int k a) (.int k b); binOp .quo t (.int k a) (.int k b) : Sem Value) = Op.intDiv .quo k a b := by
   cases k <;> rfl
  rw [this, Op.intDiv, if_neg hb]; rfl
 ·have : (do eqGuard .rem t xo yo (.int k a) (.int k b); binOp .rem t (.int k a) (.int k b) : Sem Value) = Op.intDiv .rem k a b := by
   cases k <;> rfl
  rw [this, Op.intDiv, if_neg hb]; rfl
theorem pureRun_sh {P : Program} (op : BinOp) (t : TypeId) (xo yo : Operand) (k k' : IntKind) (a b : Int) (v : Value) (hd : shN op k a b = some v) (hb : 0 ≤ b) :
  pureRun P (do eqGuard op t xo yo (.int k a) (.int k' b); binOp op t (.int k a) (.int k' b)) = .ok v := by
 cases op <;> simp only [shN, Option.some.injEq, reduceCtorEq] at hd <;> subst hd
 ·have : (do eqGuard .shl t xo yo (.int k a) (.int k' b); binOp .shl t (.int k a) (.int k' b) : Sem Value) = Op.shift .shl k a k' b := by
   cases k <;> cases k' <;> rfl
  rw [this, Op.shift, if_neg (by omega)]; rfl
 ·have : (do eqGuard .shr t xo yo (.int k a) (.int k' b); binOp .shr t (.int k a) (.int k' b) : Sem Value) = Op.shift .shr k a k' b := by
   cases k <;> cases k' <;> rfl
  rw [this, Op.shift, if_neg (by omega)]; rfl
theorem nan_order {k : FloatKind} {a b : Nat} (h : (nanB k a || nanB k b) = true) : k.format.order a b = none := (arith_nan h).2.2.2.2
theorem pureRun_cmp {P : Program} (op : BinOp) (t : TypeId) (xo yo : Operand) (k : FloatKind) (a b : Nat) (q : Bool) (h : cmpF op k a b = some q) :
  pureRun P (do eqGuard op t xo yo (.float k a) (.float k b); binOp op t (.float k a) (.float k b)) = .ok (.bool q) := by
 cases op <;> simp only [cmpF, Option.some.injEq, reduceCtorEq] at h <;> subst h <;> cases k <;> rfl
theorem fltN_ok {P : Program} {f : AFr} {st : ASt} {o : Oper} {op : BinOp} {t ty : TypeId} {x y : Operand} {k : FloatKind} {a b : Nat} {K : AN → Prop} (ho : o.op = .binOp op t x y ty) (hx : f.ev x = .float k a) (hy : f.ev y = .float k b)
  (h : fltN op k a b fun v => K (.val v st)) : ∃ r, aOp P f st o = .ok r ∧ K r := by
 have hs : sameF k k = true := by cases k <;> rfl
 unfold fltN at h
 split at h
 ·rename_i q hq
  refine ⟨_, ?_, h⟩
  cases hn : (nanB k a || nanB k b) with
  | true =>
   have ho' := nan_order hn
   have : aFloat op (.float k a) (.float k b) = some (.bool q) := by
    cases op <;> simp only [cmpF, Option.some.injEq, reduceCtorEq, ho'] at hq <;> subst hq <;> simp only [aFloat, hs, cond_true, hn] <;> rfl
   simp only [aOp, ho, hx, hy, this]
  | false =>
   have h0 : aFloat op (.float k a) (.float k b) = none := by
    cases op <;> simp only [cmpF, Option.some.injEq, reduceCtorEq] at hq <;> simp only [aFloat, hs, cond_true, hn, cond_false, arithF]
   have hg : (ground 4 (.float k a) && ground 4 (.float k b)) = true := by
    simp only [Bool.or_eq_false_iff] at hn
    simp [ground, hn.1, hn.2]
   have h1 : aBin P op t x y (.float k a) (.float k b) = .ok (.ok (.bool q)) := by
    simp only [aBin, hg, cond_true, pureRun_cmp op t x y k a b q hq]
    rfl
   simp only [aOp, ho, hx, hy, h0, h1, Rs.bnd]
 ·rename_i hc
  cases hop : arithOp op with
  | false => rw [hop] at h; exact h.elim
  | true =>
   rw [hop] at h
   simp only [cond_true] at h
   refine ⟨_, ?_, h⟩
   have : aFloat op (.float k a) (.float k b) = some (.float k (ariR k op a b)) := by
    cases hn : (nanB k a || nanB k b) with
    | true =>
     obtain ⟨n1, n2, n3, n4, _⟩ := arith_nan hn
     cases op <;> simp [arithOp] at hop <;> simp only [aFloat, hs, cond_true, hn, ariR, n1, n2, n3, n4, Option.getD_none]
    | false =>
     cases op <;> simp [arithOp] at hop <;> simp only [aFloat, hs, cond_true, hn, cond_false, arithF, ariR] <;> split <;> simp_all
   simp only [aOp, ho, hx, hy, this]
theorem pureRun_bind {α β : Type} {P : Program} {x : Sem α} {f : α → Sem β} {a : α} (h : pureRun P x = .ok a) : pureRun P (x >>= f) = pureRun P (f a) := by
 show pureRun P (x.bind f) = _
 induction x with
 | pure b => simp only [pureRun] at h; cases h; rfl
 | program k ih => simp only [pureRun] at h; simp only [Sem.bind, pureRun]; exact ih P h
 | mark m k ih => simp only [pureRun] at h; simp only [Sem.bind, pureRun]; exact ih h
 | halt e => cases e <;> simp [pureRun] at h
 | _ => simp [pureRun] at h
theorem pureRun_und {P : Program} {t : TypeId} {d : TypeDesc} (h : P.underlying t = some d) : pureRun P (underlying t) = .ok d := by
 show pureRun P (match P.underlying t with | some d => pure d | none => stuck "no such type") = _
 rw [h]; rfl
theorem pureRun_convert {P : Program} {s d : TypeId} {ds : TypeDesc} {kd : IntKind} {k : FloatKind} {b : Nat} (hs : P.underlying s = some ds) (hd : P.underlying d = some (.int kd)) :
  pureRun P (convert s d (.float k b)) = pureRun P (Conv.floatToInt k b kd) := by
 unfold convert
 rw [pureRun_bind (pureRun_und hs), pureRun_bind (pureRun_und hd)]
set_option maxHeartbeats 1000000 in
theorem opN_ok {P : Program} {f : AFr} {st : ASt} {o : Oper} {K : AN → Prop} (h : opN P f st o K) : ∃ r, aOp P f st o = .ok r ∧ K r := by
 unfold opN at h
 split at h
 ·rename_i c a b ho
  split at h
  ·rename_i b' hb
   rcases br_elim h with ⟨rfl, h⟩ | ⟨rfl, h⟩ <;> exact ⟨_, by simp only [aOp, ho, hb, cond_true, cond_false], h⟩
  ·exact h.elim
 ·rename_i op t x y ty ho
  split at h
  ·rename_i k a k' b hx hy
   cases hs : sameF k k' with
   | false => rw [hs] at h; exact h.elim
   | true =>
    rw [hs] at h
    have := sameF_eq hs
    subst this
    exact fltN_ok ho hx hy h
  ·rename_i k a k' b hx hy
   split at h
   ·rename_i v hv
    obtain ⟨h1, h2⟩ := need_elim h
    simp only [Bool.and_eq_true, Bool.not_eq_true', decide_eq_true_eq, decide_eq_false_iff_not] at h1
    obtain ⟨rfl, hb⟩ := h1
    refine ⟨_, ?_, h2⟩
    have hr : refl1 v = true := by
     cases op <;> simp only [divN, Option.some.injEq, reduceCtorEq] at hv <;> subst hv <;> rfl
    have h3 : aBin P op t x y (.int k a) (.int k b) = .ok (.ok v) := by
     simp only [aBin, ground, Bool.and_self, cond_true, pureRun_int op t x y k a b v hv hb, hr]
    simp only [aOp, ho, hx, hy, aFloat, h3, Rs.bnd]
   ·split at h
    ·rename_i v hv
     obtain ⟨h1, h2⟩ := need_elim h
     have hb : 0 ≤ b := of_decide_eq_true h1
     refine ⟨_, ?_, h2⟩
     have hr : refl1 v = true := by
      cases op <;> simp only [shN, Option.some.injEq, reduceCtorEq] at hv <;> subst hv <;> rfl
     have h3 : aBin P op t x y (.int k a) (.int k' b) = .ok (.ok v) := by
      simp only [aBin, ground, Bool.and_self, cond_true, pureRun_sh op t x y k k' a b v hv hb, hr]
     simp only [aOp, ho, hx, hy, aFloat, h3, Rs.bnd]
    ·exact rsK_elim h
  ·exact rsK_elim h
 ·rename_i op t x ho
  split at h
  ·rename_i a hx
   split at h
   ·refine ⟨_, ?_, h⟩
    simp only [aOp, ho, hx, aNegF, negR]
    cases nanB .f64 a <;> rfl
   ·exact h.elim
  ·exact rsK_elim h
 ·rename_i s d x ho
  split at h
  ·rename_i k b hx
   split at h
   ·rename_i ds kd hs hd
    obtain ⟨h1, h⟩ := need_elim h
    obtain ⟨h2, h⟩ := need_elim h
    refine ⟨_, ?_, h⟩
    have hu : undL P s = .ok ds := by simp only [undL, hs]
    have hu2 : undL P d = .ok (.int kd) := by simp only [undL, hd]
    have hg : ground 1 (.float k b) = true := by simpa [ground] using h1
    cases hq : (k.decode b).toInt .zero with
    | none => rw [hq] at h2; cases h2
    | some n =>
     rw [hq] at h2
     have h3 := of_decide_eq_true h2
     have h4 : pureRun P (convert s d (.float k b)) = .ok (.int kd n) := by
      have e1 : pureRun P (Conv.floatToInt k b kd) = .ok (.int kd n) := by
       simp only [Conv.floatToInt, hq, if_pos h3]; rfl
      rw [← e1]
      exact pureRun_convert hs hd
     have h5 : aConv P st s d (.float k b) = .ok (.val (.int kd n) st) := by
      simp only [aConv, hu, hu2, Rs.bnd, hg, cond_true, h4]
      rfl
     simp only [aOp, ho, hx, h5, Option.getD_some]
   ·exact h.elim
  ·rename_i b0 i0 n c hx
   obtain ⟨ds, h1, h⟩ := rsK_elim h
   obtain ⟨dd, h2, h⟩ := rsK_elim h
   split at h
   ·rename_i e
    obtain ⟨u, h3, h⟩ := rsK_elim h
    split at h
    ·rename_i own es lo m g hg
     cases he : Nat.beq es 1 with
     | false => rw [he] at h; exact h.elim
     | true =>
      rw [he] at h
      obtain ⟨h4, h⟩ := need_elim h
      obtain ⟨h5, h⟩ := need_elim h
      have h6 : aConv P st s d (.slice (some ⟨b0, 0, some i0⟩) n c) = .ok (.val (.string (strOf n fun j => g (i0 + j))) st) := by
       simp only [aConv, h1, h2, Rs.bnd, h3, hg, he, cond_true, h4, h5]
      exact ⟨_, by simp only [aOp, ho, hx, h6], h⟩
    ·exact h.elim
   ·exact h.elim
  ·exact rsK_elim h
 ·rename_i t a x ho
  split at h
  ·rename_i a0 ha
   obtain ⟨n, hn, h⟩ := rsK_elim h
   cases hb : Nat.beq (cellsL (f.ev x)).length n with
   | false => rw [hb] at h; exact h.elim
   | true =>
    rw [hb] at h
    simp only [cond_true] at h
    obtain ⟨st', h1, h2⟩ := writeN_ok h
    exact ⟨_, by simp only [aOp, ho, ha, hn, Rs.bnd, hb, cond_true, h1], h2⟩
  ·exact h.elim
 ·rename_i t x i ho
  split at h
  ·rename_i ki n hi
   obtain ⟨i', rfl, h⟩ := idxK_elim h
   obtain ⟨d, hd, h⟩ := rsK_elim h
   split at h
   ·rename_i e b0 o0 n c hx
    obtain ⟨s, hs, h⟩ := rsK_elim h
    obtain ⟨h1, h⟩ := need_elim h
    have h1 : Nat.blt i' _ = true := h1
    exact ⟨_, by simp only [aOp, ho, hi, hd, hx, hs, Rs.bnd, h1, cond_true]; rfl, h⟩
   ·rename_i e b0 i0 n c hx
    obtain ⟨s, hs, h⟩ := rsK_elim h
    split at h
    ·rename_i own es lo m elem hg
     cases he : Nat.beq es s with
     | false => rw [he] at h; exact h.elim
     | true =>
      rw [he] at h
      obtain ⟨h1, h⟩ := need_elim h
      have h1 : Nat.blt i' _ = true := h1
      exact ⟨_, by simp only [aOp, ho, hi, hd, hx, hs, Rs.bnd, hg, he, h1, cond_true]; rfl, h⟩
    ·exact h.elim
   ·rename_i n e b0 o0 hx
    obtain ⟨s, hs, h⟩ := rsK_elim h
    obtain ⟨h1, h⟩ := need_elim h
    have h1 : Nat.blt i' _ = true := h1
    exact ⟨_, by simp only [aOp, ho, hi, hd, hx, hs, Rs.bnd, h1, cond_true]; rfl, h⟩
   ·rename_i n e b0 o0 i0 hx
    obtain ⟨s, hs, h⟩ := rsK_elim h
    obtain ⟨h1, h⟩ := need_elim h
    have h1 : Nat.blt i' _ = true := h1
    exact ⟨_, by simp only [aOp, ho, hi, hd, hx, hs, Rs.bnd, h1, cond_true]; rfl, h⟩
   ·exact h.elim
  ·exact h.elim
 ·rename_i t l c ho
  cases hrow : rowMk c with
  | false =>
   rw [hrow] at h
   exact rsK_elim h
  | true =>
   rw [hrow] at h
   simp only [cond_true] at h
   split at h
   ·rename_i k1 x k2 y hx hy
    obtain ⟨l', hl', h9⟩ := idxK_elim h
    clear h
    obtain ⟨c', hc', h8⟩ := idxK_elim h9
    clear h9
    subst hl' hc'
    obtain ⟨d, hd, h⟩ := rsK_elim h8
    clear h8
    split at h
    ·rename_i e
     obtain ⟨z, hz, h⟩ := rsK_elim h
     obtain ⟨n, hn, h⟩ := rsK_elim h
     obtain ⟨b, hb, h⟩ := rsK_elim h
     cases hc : (Nat.ble b 1000000 && Nat.beq z.length n && z.all zOk) with
     | false => rw [hc] at h; exact h.elim
     | true =>
      rw [hc] at h
      obtain ⟨h1, h⟩ := need_elim h
      have h2 : (Nat.beq l' c' && Nat.ble c' 1000000 && Nat.ble b 1000000 && Nat.beq z.length n && z.all zOk) = true := by
       simp only [Bool.and_eq_true] at h1 hc ⊢
       exact ⟨⟨⟨⟨h1.1, h1.2⟩, hc.1.1⟩, hc.1.2⟩, hc.2⟩
      exact ⟨_, by simp only [aOp, ho, hx, hy, hd, hz, hn, hb, Rs.bnd, hrow, h2, cond_true], h⟩
    ·exact h.elim
   ·exact h.elim
 ·rename_i t a ho
  split at h
  ·rename_i a0 ha
   obtain ⟨n, hn, h⟩ := rsK_elim h
   obtain ⟨l, st', hl, h⟩ := readN_ok h
   obtain ⟨v, hv, h⟩ := rsK_elim h
   exact ⟨_, by simp only [aOp, ho, ha, hn, hl, hv, Rs.bnd], h⟩
  ·exact h.elim
 ·rename_i t x lo hi mx ho
  split at h
  ·rename_i b0 i0 len cap hx
   obtain ⟨d, hd, h⟩ := rsK_elim h
   split at h
   ·rename_i e
    obtain ⟨r1, h1, h⟩ := boundN2_ok h
    obtain ⟨r2, h2, h⟩ := boundN_ok h
    obtain ⟨s, hs, h⟩ := rsK_elim h
    split at h
    ·rename_i own es lo' m elem hg
     cases he : Nat.beq es s with
     | false => rw [he] at h; exact h.elim
     | true =>
      rw [he] at h
      exact ⟨_, by simp only [aOp, ho, aSlice, hd, hx, h1, h2, hs, Rs.bnd, hg, he, cond_true], h⟩
    ·exact h.elim
   ·exact h.elim
  ·exact rsK_elim h
 ·rename_i c ho
  split at h
  ·rename_i g hc
   split at h
   ·rename_i fid a b hg
    obtain ⟨r, h1, h2⟩ := extN_ok h
    exact ⟨r, by simp only [aOp, ho, hc, hg, aInvoke, h1], h2⟩
   ·exact h.elim
  ·rename_i hc
   obtain ⟨r, h1, h2⟩ := appN_ok h
   exact ⟨r, by simp only [aOp, ho, hc, aBuiltin, h1], h2⟩
  ·exact rsK_elim h
 ·exact rsK_elim h
end Go.Proofs.Ytbkbimmelmoohaa.Ev
