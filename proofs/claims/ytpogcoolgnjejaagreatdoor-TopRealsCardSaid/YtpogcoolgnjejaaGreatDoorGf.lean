/-
  The evaluator where values are left open: it branches, and says what has to hold; what it says, the evaluator says.
-/
import Derived.Test.YtpogcoolgnjejaaGreatDoorGe
set_option linter.unusedVariables false
set_option linter.unusedSimpArgs false
namespace Go.Proofs.YtpogcoolgnjejaaGreatDoor.Ev
open Go

def br (b : Bool) (K1 K2 : Prop) : Prop := match b with
  | true => K1
  | false => K2
theorem br_of {b : Bool} {K1 K2 : Prop} (h1 : b = true → K1) (h2 : b = false → K2) : br b K1 K2 := by cases b; exact h2 rfl; exact h1 rfl
theorem br_elim {b : Bool} {K1 K2 : Prop} (h : br b K1 K2) : (b = true ∧ K1) ∨ (b = false ∧ K2) := by cases b; exact .inr ⟨rfl, h⟩; exact .inl ⟨rfl, h⟩
def need (b : Bool) (K : Prop) : Prop := match b with
  | true => K
  | false => False
theorem need_of {b : Bool} {K : Prop} (h : b = true) (k : K) : need b K := by subst h; exact k
theorem need_elim {b : Bool} {K : Prop} (h : need b K) : b = true ∧ K := by cases b; exact h.elim; exact ⟨rfl, h⟩
def rsK {α : Type} (x : Rs α) (K : α → Prop) : Prop := match x with
  | .ok a => K a
  | .er _ _ => False
theorem rsK_elim {α : Type} {x : Rs α} {K : α → Prop} (h : rsK x K) : ∃ a, x = .ok a ∧ K a := by cases x with | ok a => exact ⟨a, rfl, h⟩ | er => exact h.elim
def optK {α : Type} (x : Option α) (K : α → Prop) : Prop := match x with
  | some a => K a
  | none => False
theorem optK_elim {α : Type} {x : Option α} {K : α → Prop} (h : optK x K) : ∃ a, x = some a ∧ K a := by cases x with | some a => exact ⟨a, rfl, h⟩ | none => exact h.elim
def natK (n : Int) (K : Nat → Prop) : Prop := match n with
  | .ofNat i => K i
  | .negSucc _ => False
theorem natK_elim {n : Int} {K : Nat → Prop} (h : natK n K) : ∃ i, n = .ofNat i ∧ K i := by cases n with | ofNat i => exact ⟨i, rfl, h⟩ | negSucc => exact h.elim
/-- a number that may be open -/
def idxK (n : Int) (K : Nat → Prop) : Prop := need (decide (0 ≤ n)) (K n.toNat)
theorem idxK_elim {n : Int} {K : Nat → Prop} (h : idxK n K) : ∃ i, n = .ofNat i ∧ K i := by
  obtain ⟨h1, h2⟩ := need_elim h
  exact ⟨n.toNat, (Int.toNat_of_nonneg (of_decide_eq_true h1)).symm, h2⟩

/-- one of a few, where the index may be open -/
def selN : Nat → Nat → Nat → (Nat → Prop) → Prop
  | 0, _, _, _ => False
  | r + 1, j, i, K => br (Nat.beq i j) (K j) (selN r (j + 1) i K)
theorem selN_elim {i : Nat} {K : Nat → Prop} : ∀ {r j : Nat}, selN r j i K → i < j + r ∧ K i
  | 0, _, h => h.elim
  | r + 1, j, h => by
    rcases br_elim h with ⟨h1, h2⟩ | ⟨_, h2⟩
    · have := Nat.eq_of_beq_eq_true h1
      subst this; exact ⟨by omega, h2⟩
    · obtain ⟨a, b⟩ := selN_elim h2
      exact ⟨by omega, b⟩
def fewN (n i : Nat) (K : Nat → Prop) : Prop := cond (Nat.ble n 16) (selN n 0 i K) (need (Nat.blt i n) (K i))
theorem fewN_elim {n i : Nat} {K : Nat → Prop} (h : fewN n i K) : Nat.blt i n = true ∧ K i := by
  unfold fewN at h
  cases hb : Nat.ble n 16 with
  | true =>
    rw [hb] at h
    obtain ⟨a, b⟩ := selN_elim h
    exact ⟨by simpa using a, b⟩
  | false =>
    rw [hb] at h
    exact need_elim h
/-- a value by its constructor: the kernel has it ready then -/
def forceV (v : Value) (C : Value → Prop) : Prop := match v with
  | .int k n => C (.int k n)
  | .bool b => C (.bool b)
  | .float k b => C (.float k b)
  | .pointer (some ⟨a, o, none⟩) => C (.pointer (some ⟨a, o, none⟩))
  | .pointer (some ⟨a, o, some i⟩) => C (.pointer (some ⟨a, o, some i⟩))
  | .slice (some ⟨a, o, none⟩) n c => C (.slice (some ⟨a, o, none⟩) n c)
  | .slice (some ⟨a, o, some i⟩) n c => C (.slice (some ⟨a, o, some i⟩) n c)
  | v => C v
theorem forceV_ok {v : Value} {C : Value → Prop} (h : forceV v C) : C v := by
  unfold forceV at h
  split at h <;> exact h
def forceL : List Value → (List Value → Prop) → Prop
  | [], C => C []
  | v :: l, C => forceV v fun v => forceL l fun l => C (v :: l)
theorem forceL_ok : ∀ {l : List Value} {C : List Value → Prop}, forceL l C → C l := by
  intro l
  induction l with
  | nil => intro C h; exact h
  | cons v l ih => intro C h; exact ih (forceV_ok h)
def forceA (v : Value) (C : Value → Prop) : Prop := match v with
  | .agg vs => forceL vs.toList fun l => C (.agg ⟨l⟩)
  | v => forceV v C
theorem forceA_ok {v : Value} {C : Value → Prop} (h : forceA v C) : C v := by
  unfold forceA at h
  split at h
  · exact forceL_ok h
  · exact forceV_ok h
def forceAL : List Value → (List Value → Prop) → Prop
  | [], C => C []
  | v :: l, C => forceA v fun v => forceAL l fun l => C (v :: l)
theorem forceAL_ok : ∀ {l : List Value} {C : List Value → Prop}, forceAL l C → C l := by
  intro l
  induction l with
  | nil => intro C h; exact h
  | cons v l ih => intro C h; exact ih (forceA_ok h)
def forceT (v : Value) (C : Value → Prop) : Prop := match v with
  | .tuple vs => forceAL vs.toList fun l => C (.tuple ⟨l⟩)
  | v => forceA v C
theorem forceT_ok {v : Value} {C : Value → Prop} (h : forceT v C) : C v := by
  unfold forceT at h
  split at h
  · exact forceAL_ok h
  · exact forceA_ok h
/-! ### operations -/
def cmpF (op : BinOp) (k : FloatKind) (a b : Nat) : Option Bool := match op with
  | .eql => some (k.format.order a b == some .eq)
  | .neq => some (k.format.order a b != some .eq)
  | .lss => some (k.format.order a b == some .lt)
  | .leq => some (k.format.order a b == some .lt || k.format.order a b == some .eq)
  | .gtr => some (k.format.order a b == some .gt)
  | .geq => some (k.format.order a b == some .gt || k.format.order a b == some .eq)
  | _ => none
def arithOp (op : BinOp) : Bool := match op with
  | .add | .sub | .mul | .quo => true
  | _ => false
/-- what arithmetic comes to; whatever is none stands for all that are none -/
def ariR (k : FloatKind) (op : BinOp) (a b : Nat) : Nat := match op with
  | .add => (k.format.add a b).getD (qnan k)
  | .sub => (k.format.sub a b).getD (qnan k)
  | .mul => (k.format.mul a b).getD (qnan k)
  | .quo => (k.format.div a b).getD (qnan k)
  | _ => 0
def negR (a : Nat) : Nat := cond (nanB .f64 a) (qnan .f64) (Op.negFloat .f64 a)
def fltN (op : BinOp) (k : FloatKind) (a b : Nat) (K : Value → Prop) : Prop :=
  match cmpF op k a b with
  | some q => K (.bool q)
  | none => cond (arithOp op) (K (.float k (ariR k op a b))) False
def divN (op : BinOp) (k : IntKind) (a b : Int) : Option Value := match op with
  | .quo => some (.int k (k.wrap (a.tdiv b)))
  | .rem => some (.int k (a.tmod b))
  | _ => none
/-- shifts by a number that may be open -/
def shN (op : BinOp) (k : IntKind) (a b : Int) : Option Value := match op with
  | .shl => some (.int k (k.wrap (a * 2 ^ (min b.toNat k.bits))))
  | .shr => some (.int k (a.fdiv (2 ^ (min b.toNat k.bits))))
  | _ => none
def floatsK : List Value → Prop → Prop
  | [], K => K
  | .float k b :: l, K => need (!nanB k b) (floatsK l K)
  | v :: l, K => need (ground 1 v) (floatsK l K)
def boundN (x : Option Value) (dflt most : Nat) (K : Nat → Prop) : Prop := match x with
  | none => K dflt
  | some (.int _ n) => idxK n fun i => need (Nat.ble i most) (K i)
  | _ => False
def boundN2 (x : Option Value) (len cap : Nat) (K : Nat → Prop) : Prop := match x with
  | none => K len
  | some (.int _ n) => idxK n fun i => need (Nat.ble i len) (K i)
  | _ => False
def toTsN (g : Value → ASt → (Td → ASt → Prop) → Prop) : List Value → ASt → (List Td → ASt → Prop) → Prop
  | [], st, K => K [] st
  | v :: l, st, K => g v st fun t st1 => toTsN g l st1 fun ts st2 => K (t :: ts) st2
def toTN : Nat → Value → ASt → (Td → ASt → Prop) → Prop
  | 0, _, _, _ => False
  | f + 1, v, st, K => match v with
    | .slice none 0 0 => K (.fr 0 0 1 noT) st
    | .slice (some ⟨b, 0, some i0⟩) n c => match st.h.get b with
      | some (.row _ es lo m g) => need (Nat.ble lo i0 && Nat.ble (i0 + n) m) (rsK (froze st b) fun st' => K (.fr es n c fun i => g (i0 + i)) st')
      | _ => False
    | .slice (some ⟨b, o, none⟩) n _ => match cellsO (st.h.get b) with
      | some (cs, es) => cond ((Nat.blt 0 es || Nat.beq n 0) && Nat.ble (o + n * es) cs.length) (optK (takeL (n * es) (dropL o cs)) fun l => toTsN (toTN f) l st fun ts st1 => rsK (froze st1 b) fun st' => K (.fr es n 0 (selT es n ts)) st') False
      | none => False
    | v => cond (scalT v) (K (.sc v) st) False
def writeRN (st : ASt) (a : Addr) (ts : List Td) (K : ASt → Prop) : Prop := match st.h.get a.block with
  | some (.row .mine es lo n elem) => match a.spot with
    | some i => cond (Nat.ble (a.off + ts.length) es) (need (Nat.blt i n) (K (st.set a.block (some (.row .mine es lo n (putT i a.off ts elem)))))) False
    | none => False
  | _ => False
def writeN (st : ASt) (a : Addr) (vs : List Value) (K : ASt → Prop) : Prop := cond (isRow (st.h.get a.block)) (toTsN (toTN 4) vs st fun ts st1 => writeRN st1 a ts K) (rsK (st.writeC a vs) K)
def srcN (P : Program) (st : ASt) (d2 : TypeDesc) (elem : TypeId) (size : Nat) (x : Value) (K : Nat → (Nat → Nat → Td) → ASt → Prop) : Prop := match x with
  | .int _ n => match d2 with
    | .int _ => idxK n fun n => need (Nat.ble n 1000000) (rsK (zeroL P elem) fun z => cond (z.all zOk) (K n (fun _ j => nthT (z.map zT) j) st) False)
    | _ => False
  | .slice (some ⟨b0, 0, some i0⟩) n _ => match d2, st.h.get b0 with
    | .slice _, some (.row _ es lo m g) => cond (Nat.beq es size) (need (Nat.ble lo i0 && Nat.ble (i0 + n) m) (K n (fun j => g (i0 + j)) st)) False
    | _, _ => False
  | .string s => match d2 with
    | .string => cond (Nat.beq size 1) (K s.size (fun i _ => .sc (.int .u8 (Int.ofNat (strB s i)))) st) False
    | _ => False
  | x => rsK (newsL P st d2 elem size x) fun r => match r with
    | (n, l) => toTsN (toTN 4) l st fun ts st1 => K n (selT size n ts) st1
def srcXN (P : Program) (st : ASt) (d2 : TypeDesc) (elem : TypeId) (size : Nat) (x : Value) (K : Nat → (Nat → Nat → Td) → ASt → Prop) : Prop := cond (dustB elem) (rsK (srcD P st d2 elem size x) fun r => K r.1 r.2.1 r.2.2) (srcN P st d2 elem size x K)
def appRN (st : ASt) (size : Nat) (s : Value) (n : Nat) (f : Nat → Nat → Td) (K : AN → Prop) : Prop := match s with
  | .slice (some ⟨b0, 0, some i0⟩) len c => match st.h.get b0 with
    | some (.row .mine es lo m g) => cond (Nat.beq es size) (need (Nat.ble lo i0 && Nat.ble (i0 + len) m) (K (.val (.slice (some ⟨st.next, 0, some 0⟩) (len + n) c)
        ((st.set b0 none).new (.row .mine size 0 (len + n) fun j k => mrgT (Nat.blt j len) (g (i0 + j) k) (f (j - len) k)))))) False
    | _ => False
  | s => rsK (aAppendR st size s n f) K
def appQN (st : ASt) (size : Nat) (s : Value) (n : Nat) (f : Nat → Nat → Td) (K : AN → Prop) : Prop := match s with
  | .slice (some ⟨b0, o, none⟩) len c => match st.h.get b0 with
    | some (.cells cs ex es) => cond (Nat.blt 0 len) (cond (turnOk o size len c es ex cs) (appRN (turnC st b0 o size len cs) size (.slice (some ⟨st.next, 0, some 0⟩) len c) n f K) False)
      (rsK (aAppendR st size (.slice (some ⟨b0, o, none⟩) len c) n f) K)
    | _ => rsK (aAppendR st size (.slice (some ⟨b0, o, none⟩) len c) n f) K
  | s => appRN st size s n f K
def appN (P : Program) (st : ASt) (ts : List TypeId) (args : List Value) (K : AN → Prop) : Prop := match ts, args with
  | t :: t2 :: ts', [s, x] => cond (isRowA s x)
    (rsK (undL P t) fun d => rsK (undL P t2) fun d2 => match d with
      | .slice elem => rsK (sizeL P elem) fun size => rsK (bytesL P elem) fun by_ => rsK (zeroL P elem) fun z => srcXN P st d2 elem size x fun n f st1 => match s with
        | .slice _ len _ => cond (Nat.ble by_ 1000000 && Nat.beq z.length size) (need (Nat.ble (len + n) 1000000) (appQN st1 size s n f K)) False
        | _ => False
      | _ => False)
    (rsK (aAppendC P st (t :: t2 :: ts') [s, x]) K)
  | _, _ => False
def extN (P : Program) (f : FuncId) (args : List Value) (st : ASt) (K : AN → Prop) : Prop := match P.funcs.toList[f]? with
  | some fn => match fn.body with
    | some _ => rsK (aCall P f args st) K
    | none => cond (isTrunc fn) (match args with
        | [.float .f64 x] => K (.val (.float .f64 (truncR x)) st)
        | _ => False)
      (floatsK args (match pureRun P (callFunc f args.toArray) with | .ok (.value v) => cond (refl1 v) (K (.val v st)) False | _ => False))
  | none => False
def seeK : List Td → ASt → (List Value → ASt → Prop) → Prop
  | [], st, K => K [] st
  | t :: l, st, K => match t with
    | .sc x => forceV x fun x => seeK l st fun vs st' => K (x :: vs) st'
    | .fr es n c e => seeK l (st.new (.row .still es 0 n e)) fun vs st' => K (.slice (some ⟨st.next, 0, some 0⟩) n c :: vs) st'
def readN (st : ASt) (a : Addr) (n : Nat) (K : List Value → ASt → Prop) : Prop := match st.h.get a.block with
  | some (.row _ es lo m elem) => match a.spot with
    | some i => cond (Nat.beq a.off 0 && Nat.blt es n) (need (Nat.ble lo i && Nat.ble (i + n / es) m && Nat.beq (n / es * es) n) (seeK (rowsT es elem i (n / es)) st K))
      (cond (Nat.ble (a.off + n) es) (need (Nat.ble lo i && Nat.blt i m) (seeK (cellsT (elem i) a.off n) st K)) False)
    | none => False
  | _ => rsK (st.read a n) fun r => K r.1 r.2
/-- is it a whole number of the kind? -/
def intIn (kd : IntKind) (x : Option Int) : Bool := match x with
  | some n => decide (kd.min ≤ n ∧ n ≤ kd.max)
  | none => false
/-- a key that may be open, among entries -/
def findN (P : Program) (kt : TypeId) (k : Value) : List MapEntry → Nat → (Option (Nat × MapEntry) → Prop) → Prop
  | [], _, K => K none
  | e :: es, i, K => rsK (keyEq P kt k e.key) fun b => br b (K (some (i, e))) (findN P kt k es (i + 1) K)
theorem findN_ok {P : Program} {kt : TypeId} {k : Value} {K : Option (Nat × MapEntry) → Prop} : ∀ {es : List MapEntry} {i : Nat}, findN P kt k es i K → ∃ r, findL P kt k es i = .ok r ∧ K r
  | [], i, h => ⟨none, rfl, h⟩
  | e :: es, i, h => by
    obtain ⟨b, hb, h⟩ := rsK_elim h
    rcases br_elim h with ⟨h1, h2⟩ | ⟨h1, h2⟩
    · subst h1
      exact ⟨_, by simp only [findL, hb, Rs.bnd, cond_true], h2⟩
    · subst h1
      obtain ⟨r, hr, h3⟩ := findN_ok h2
      exact ⟨r, by simp only [findL, hb, Rs.bnd, cond_false, hr], h3⟩
def opN (P : Program) (f : AFr) (st : ASt) (o : Oper) (K : AN → Prop) : Prop := match o.op with
  | .pick c a b => match f.ev c with
    | .bool b' => br b' (K (.val (f.ev a) st)) (K (.val (f.ev b) st))
    | _ => False
  | .binOp op t x y _ => match f.ev x, f.ev y with
    | .float k a, .float k' b => cond (sameF k k') (fltN op k a b fun v => K (.val v st)) False
    | .int k a, .int k' b => match divN op k a b with
      | some v => need (decide (k = k') && !(decide (b = 0))) (K (.val v st))
      | none => match shN op k a b with
        | some v => need (decide (0 ≤ b)) (K (.val v st))
        | none => rsK (aOp P f st o) K
    | _, _ => rsK (aOp P f st o) K
  | .unOp op _ x => match f.ev x with
    | .float .f64 a => match op with
      | .neg => K (.val (.float .f64 (negR a)) st)
      | _ => False
    | _ => rsK (aOp P f st o) K
  | .convert s d x => match f.ev x with
    | .float k b => (match P.underlying s, P.underlying d with
      | some _, some (.int kd) => need (!nanB k b) (need (intIn kd ((k.decode b).toInt .zero)) (K (.val (.int kd (((k.decode b).toInt .zero).getD 0)) st)))
      | _, _ => False)
    | .slice (some ⟨b0, 0, some i0⟩) n c => rsK (undL P s) fun ds => rsK (undL P d) fun dd => match ds, dd with
      | .slice e, .string => rsK (undL P e) fun u => match u, st.h.get b0 with
        | .int .u8, some (.row _ es lo m g) => cond (Nat.beq es 1) (need (Nat.ble lo i0 && Nat.ble (i0 + n) m) (need (allB n fun j => g (i0 + j)) (K (.val (.string (strOf n fun j => g (i0 + j))) st)))) False
        | _, _ => False
      | _, _ => False
    | _ => rsK (aOp P f st o) K
  | .store t a x => match f.ev a with
    | .pointer (some a) => rsK (sizeL P t) fun n => cond (Nat.beq (cellsL (f.ev x)).length n) (writeN st a (cellsL (f.ev x)) fun st' => K (.val undef st')) False
    | _ => False
  | .indexAddr t x i => match f.ev i with
    | .int _ n => idxK n fun i => rsK (undL P t) fun d => match d, f.ev x with
      | .slice e, .slice (some ⟨b0, o0, none⟩) n _ => rsK (sizeL P e) fun s => fewN n i fun i => K (.val (.pointer (some ((⟨b0, o0, none⟩ : Addr).add (i * s)))) st)
      | .slice e, .slice (some ⟨b0, 0, some i0⟩) n _ => rsK (sizeL P e) fun s => match st.h.get b0 with
        | some (.row _ es _ _ _) => cond (Nat.beq es s) (need (Nat.blt i n) (K (.val (.pointer (some ⟨b0, 0, some (i0 + i)⟩)) st))) False
        | _ => False
      | .array n e, .pointer (some ⟨b0, o0, none⟩) => rsK (sizeL P e) fun s => need (Nat.blt i n) (K (.val (.pointer (some ((⟨b0, o0, none⟩ : Addr).add (i * s)))) st))
      | .array n e, .pointer (some ⟨b0, o0, some i0⟩) => rsK (sizeL P e) fun s => need (Nat.blt i n) (K (.val (.pointer (some ⟨b0, o0 + i * s, some i0⟩)) st))
      | _, _ => False
    | _ => False
  | .makeSlice t l c => cond (rowMk c) (match f.ev l, f.ev c with
    | .int _ x, .int _ y => idxK x fun l' => idxK y fun c' => rsK (undL P t) fun d => match d with
      | .slice e => rsK (zeroL P e) fun z => rsK (sizeL P e) fun n => rsK (bytesL P e) fun b => cond (Nat.ble b 1000000 && Nat.beq z.length n && z.all zOk) (need (Nat.beq l' c' && Nat.ble c' 1000000) (K (.val (.slice (some ⟨st.next, 0, some 0⟩) l' 0) (st.new (.row .mine n 0 l' fun _ j => nthT (z.map zT) j))))) False
      | _ => False
    | _, _ => False) (rsK (aOp P f st o) K)
  | .load t a => match f.ev a with
    | .pointer (some a) => rsK (sizeL P t) fun n => readN st a n fun l st' => rsK (shutL P t l) fun v => K (.val v st')
    | _ => False
  | .slice t x lo hi mx => match mx, f.ev x with
    | none, .slice (some ⟨b0, 0, some i0⟩) len cap => rsK (undL P t) fun d => match d with
      | .slice e => boundN2 (hi.map f.ev) len cap fun h => boundN (lo.map f.ev) 0 h fun l => rsK (sizeL P e) fun s => match st.h.get b0 with
        | some (.row _ es _ _ _) => cond (Nat.beq es s) (K (.val (.slice (some ⟨b0, 0, some (i0 + l)⟩) (h - l) (cond (Nat.beq len 0) cap 0)) st)) False
        | _ => False
      | _ => False
    | _, _ => rsK (aOp P f st o) K
  | .lookup t x i ok => rsK (undL P t) fun d => match d with
    | .map kt et => match omapOf st (f.ev x) with
      | some (kk, vk, es) => rsK (lookO P kt et kk vk es (f.ev i) ok) fun v => K (.val v st)
      | none => rsK (undL P kt) fun _ => rsK (mapEs st (f.ev x)) fun es => rsK (keyOk P kt es.isEmpty (f.ev i)) fun _ => findN P kt (f.ev i) es 0 fun r => rsK (zeroV P et) fun z => K (.val (cond ok (.tuple #[foundV r z, .bool r.isSome]) (foundV r z)) st)
    | _ => False
  | .call c => match c.callee with
    | .value g => match f.ev g with
      | .func (.func fid) a b => extN P fid ((a.toList ++ c.args.toList.map f.ev) ++ b.toList) st K
      | _ => False
    | .builtin .append => appN P st c.argTypes.toList (c.args.toList.map f.ev) K
    | _ => rsK (aOp P f st o) K
  | _ => rsK (aOp P f st o) K

theorem boundN_ok {x : Option Value} {dflt most : Nat} {K : Nat → Prop} (h : boundN x dflt most K) : ∃ r, boundL x dflt most = .ok r ∧ K r := by
  unfold boundN at h
  split at h
  · exact ⟨dflt, rfl, h⟩
  · obtain ⟨i, rfl, h2⟩ := idxK_elim h
    obtain ⟨h3, h4⟩ := need_elim h2
    exact ⟨i, by simp only [boundL, h3, cond_true], h4⟩
  · exact h.elim
theorem boundN2_ok {x : Option Value} {len cap : Nat} {K : Nat → Prop} (h : boundN2 x len cap K) : ∃ r, boundL x len len = .ok r ∧ K r := by
  unfold boundN2 at h
  split at h
  · exact ⟨len, rfl, h⟩
  · obtain ⟨i, rfl, h2⟩ := idxK_elim h
    obtain ⟨h3, h4⟩ := need_elim h2
    exact ⟨i, by simp only [boundL, h3, cond_true], h4⟩
  · exact h.elim
theorem toTsN_ok {g : Value → ASt → (Td → ASt → Prop) → Prop} {g' : Value → ASt → Rs (Td × ASt)} (hg : ∀ v st K, g v st K → ∃ t st', g' v st = .ok (t, st') ∧ K t st') : ∀ {l : List Value} {st : ASt} {K : List Td → ASt → Prop}, toTsN g l st K → ∃ ts st', toTs g' l st = .ok (ts, st') ∧ K ts st' := by
  intro l
  induction l with
  | nil => intro st K h; exact ⟨[], st, rfl, h⟩
  | cons v l ih =>
    intro st K h
    obtain ⟨t, st1, h1, h2⟩ := hg v st _ h
    obtain ⟨ts, st2, h3, h4⟩ := ih h2
    exact ⟨t :: ts, st2, by simp only [toTs, h1, h3, Rs.bnd], h4⟩
theorem toTN_ok : ∀ (f : Nat) (v : Value) (st : ASt) (K : Td → ASt → Prop), toTN f v st K → ∃ t st', toT f v st = .ok (t, st') ∧ K t st' := by
  intro f
  induction f with
  | zero => intro v st K h; exact h.elim
  | succ f ih =>
    intro v st K h
    unfold toTN at h
    unfold toT
    split at h
    · exact ⟨_, _, rfl, h⟩
    · rename_i b i0 n c
      split at h
      · rename_i k es lo m g hg
        obtain ⟨h1, h⟩ := need_elim h
        obtain ⟨st', h2, h3⟩ := rsK_elim h
        exact ⟨_, _, by simp only [hg, h1, cond_true, h2, Rs.bnd], h3⟩
      · exact h.elim
    · rename_i b o n c
      split at h
      · rename_i cs es hg
        cases hb : ((Nat.blt 0 es || Nat.beq n 0) && Nat.ble (o + n * es) cs.length) with
        | false => rw [hb] at h; exact h.elim
        | true =>
          rw [hb] at h
          obtain ⟨l, h1, h⟩ := optK_elim h
          obtain ⟨ts, st1, h2, h⟩ := toTsN_ok ih h
          obtain ⟨st', h3, h4⟩ := rsK_elim h
          exact ⟨_, _, by simp only [hg, hb, cond_true, h1, h2, h3, Rs.of, Rs.bnd], h4⟩
      · exact h.elim
    · rename_i h1 h2 h3
      cases hs : scalT v with
      | false => rw [hs] at h; exact h.elim
      | true =>
        rw [hs] at h
        refine ⟨.sc v, st, ?_, h⟩
        split
        · exact (h1 rfl).elim
        · exact (h2 _ _ _ _ rfl).elim
        · exact (h3 _ _ _ _ rfl).elim
        · simp only [hs, cond_true]
theorem writeN_ok {st : ASt} {a : Addr} {vs : List Value} {K : ASt → Prop} (h : writeN st a vs K) : ∃ st', st.write a vs = .ok st' ∧ K st' := by
  unfold writeN at h
  unfold ASt.write
  cases hr : isRow (st.h.get a.block) with
  | false =>
    rw [hr] at h
    exact rsK_elim h
  | true =>
    rw [hr] at h
    simp only [cond_true] at h ⊢
    obtain ⟨ts, st1, h1, h2⟩ := toTsN_ok (toTN_ok 4) h
    simp only [h1, Rs.bnd]
    unfold writeRN at h2
    unfold ASt.writeR
    split at h2
    · rename_i es lo n elem hg
      rw [hg]
      split at h2
      · rename_i i hi
        rw [hi]
        cases hb : Nat.ble (a.off + ts.length) es with
        | false => rw [hb] at h2; exact h2.elim
        | true =>
          rw [hb] at h2
          obtain ⟨h3, h4⟩ := need_elim h2
          exact ⟨_, by simp only [hb, h3, cond_true], h4⟩
      · exact h2.elim
    · exact h2.elim
theorem srcN_ok {P : Program} {st : ASt} {d2 : TypeDesc} {elem : TypeId} {size : Nat} {x : Value} {K : Nat → (Nat → Nat → Td) → ASt → Prop} (h : srcN P st d2 elem size x K) : ∃ n f st1, srcF P st d2 elem size x = .ok (n, f, st1) ∧ K n f st1 := by
  unfold srcN at h
  split at h
  · rename_i k n
    split at h
    · rename_i k2
      obtain ⟨n', hn, h9⟩ := idxK_elim h
      clear h
      subst hn
      obtain ⟨h1, h8⟩ := need_elim h9
      obtain ⟨z, hz, h7⟩ := rsK_elim h8
      cases hc : z.all zOk with
      | false => rw [hc] at h7; exact h7.elim
      | true =>
        rw [hc] at h7
        exact ⟨n', _, st, by simp only [srcF, h1, hz, Rs.bnd, hc, cond_true], h7⟩
    · exact h.elim
  · rename_i b0 i0 n c
    split at h
    · rename_i e2 own es lo m g hg
      cases he : Nat.beq es size with
      | false => rw [he] at h; exact h.elim
      | true =>
        rw [he] at h
        obtain ⟨h1, h2⟩ := need_elim h
        exact ⟨_, _, _, by simp only [srcF, hg, he, h1, Bool.true_or, cond_true], h2⟩
    · exact h.elim
  · rename_i str
    split at h
    · cases he : Nat.beq size 1 with
      | false => rw [he] at h; exact h.elim
      | true =>
        rw [he] at h
        exact ⟨_, _, _, by simp only [srcF, he, cond_true], h⟩
    · exact h.elim
  · rename_i hni hne hns
    obtain ⟨⟨n, l⟩, h1, h2⟩ := rsK_elim h
    obtain ⟨ts, st1, h3, h4⟩ := toTsN_ok (toTN_ok 4) h2
    refine ⟨n, _, st1, ?_, h4⟩
    unfold srcF
    split
    · exact (hni _ _ rfl).elim
    · exact (hne _ _ _ _ rfl).elim
    · exact (hns _ rfl).elim
    · simp only [h1, h3, Rs.bnd]
theorem srcXN_ok {P : Program} {st : ASt} {d2 : TypeDesc} {elem : TypeId} {size : Nat} {x : Value} {K : Nat → (Nat → Nat → Td) → ASt → Prop} (h : srcXN P st d2 elem size x K) : ∃ n f st1, srcX P st d2 elem size x = .ok (n, f, st1) ∧ K n f st1 := by
  unfold srcXN at h
  unfold srcX
  cases hb : dustB elem with
  | false => rw [hb] at h; exact srcN_ok h
  | true =>
    rw [hb] at h
    simp only [cond_true] at h ⊢
    obtain ⟨r, h1, h2⟩ := rsK_elim h
    exact ⟨_, _, _, h1, h2⟩
theorem appRN_ok {st : ASt} {size : Nat} {s : Value} {n : Nat} {f : Nat → Nat → Td} {K : AN → Prop} (h : appRN st size s n f K) : ∃ r, aAppendR st size s n f = .ok r ∧ K r := by
  unfold appRN at h
  split at h
  · rename_i b0 i0 len c
    split at h
    · rename_i es lo m g hg
      cases he : Nat.beq es size with
      | false => rw [he] at h; exact h.elim
      | true =>
        rw [he] at h
        obtain ⟨h1, h2⟩ := need_elim h
        exact ⟨_, by simp only [aAppendR, hg, he, h1, cond_true], h2⟩
    · exact h.elim
  · exact rsK_elim h
theorem appQN_ok {st : ASt} {size : Nat} {s : Value} {n : Nat} {f : Nat → Nat → Td} {K : AN → Prop} (h : appQN st size s n f K) : ∃ r, aAppendQ st size s n f = .ok r ∧ K r := by
  unfold appQN at h
  split at h
  · split at h
    · rename_i b0 o len c _ cs ex es hg
      cases hb : Nat.blt 0 len with
      | false =>
        rw [hb] at h
        obtain ⟨r, h1, h2⟩ := rsK_elim h
        exact ⟨r, by simp only [aAppendQ, hg, hb, cond_false]; exact h1, h2⟩
      | true =>
        rw [hb, cond_true] at h
        cases hc : turnOk o size len c es ex cs with
        | false => rw [hc] at h; exact h.elim
        | true =>
          rw [hc, cond_true] at h
          obtain ⟨r, h1, h2⟩ := appRN_ok h
          exact ⟨r, by simp only [aAppendQ, hg, hb, hc, cond_true]; exact h1, h2⟩
    · rename_i b0 o len c _ hne
      obtain ⟨r, h1, h2⟩ := rsK_elim h
      refine ⟨r, ?_, h2⟩
      unfold aAppendQ
      dsimp only
      split
      · rename_i hg
        exact (hne _ _ _ hg).elim
      · exact h1
  · rename_i hne
    obtain ⟨r, h1, h2⟩ := appRN_ok h
    refine ⟨r, ?_, h2⟩
    unfold aAppendQ
    split
    · exact (hne _ _ _ _ rfl).elim
    · exact h1
theorem appN_ok {P : Program} {st : ASt} {ts : List TypeId} {args : List Value} {K : AN → Prop} (h : appN P st ts args K) : ∃ r, aAppend P st ts args = .ok r ∧ K r := by
  unfold appN at h
  split at h
  · rename_i t t2 ts' s x
    cases hb : isRowA s x with
    | false =>
      rw [hb] at h
      obtain ⟨r, h1, h2⟩ := rsK_elim h
      exact ⟨r, by simp only [aAppend, hb, cond_false, h1], h2⟩
    | true =>
      rw [hb] at h
      obtain ⟨d, h1, h⟩ := rsK_elim h
      obtain ⟨d2, h2, h⟩ := rsK_elim h
      split at h
      · rename_i elem
        obtain ⟨size, h3, h⟩ := rsK_elim h
        obtain ⟨by_, h4, h⟩ := rsK_elim h
        obtain ⟨z, h5, h⟩ := rsK_elim h
        obtain ⟨n, f, st1, h6, h⟩ := srcXN_ok h
        split at h
        · rename_i base len c
          cases hc : (Nat.ble by_ 1000000 && Nat.beq z.length size) with
          | false => rw [hc] at h; exact h.elim
          | true =>
            rw [hc] at h
            obtain ⟨h7, h⟩ := need_elim h
            obtain ⟨r, h8, h9⟩ := appQN_ok h
            exact ⟨r, by simp only [aAppend, hb, cond_true, h1, h2, h3, h4, h5, h6, Rs.bnd, hc, h7, h8], h9⟩
        · exact h.elim
      · exact h.elim
  · exact h.elim
theorem seeK_ok : ∀ {ts : List Td} {st : ASt} {K : List Value → ASt → Prop}, seeK ts st K → K (seeT ts st).1 (seeT ts st).2 := by
  intro ts
  induction ts with
  | nil => intro st K h; exact h
  | cons t ts ih =>
    intro st K h
    cases t with
    | sc x => exact ih (forceV_ok (C := fun x => seeK ts st fun vs st' => K (x :: vs) st') h)
    | fr es n c e => exact ih h
theorem readN_ok {st : ASt} {a : Addr} {n : Nat} {K : List Value → ASt → Prop} (h : readN st a n K) : ∃ l st', st.read a n = .ok (l, st') ∧ K l st' := by
  unfold readN at h
  split at h
  · rename_i own es lo m elem hg
    have hrow : isRow (st.h.get a.block) = true := by rw [hg]; rfl
    split at h
    · rename_i i hi
      cases hmul : (Nat.beq a.off 0 && Nat.blt es n) with
      | true =>
        rw [hmul] at h
        obtain ⟨h1, h2⟩ := need_elim h
        exact ⟨_, _, by simp only [ASt.read, ASt.readT, hg, isRow, hi, hmul, h1, Rs.bnd, cond_true], seeK_ok h2⟩
      | false =>
        rw [hmul] at h
        simp only [cond_false] at h
        cases hb : Nat.ble (a.off + n) es with
        | false => rw [hb] at h; exact h.elim
        | true =>
          rw [hb] at h
          obtain ⟨h1, h2⟩ := need_elim h
          exact ⟨_, _, by simp only [ASt.read, ASt.readT, hg, isRow, hi, hmul, hb, h1, cond_true, cond_false, Rs.bnd], seeK_ok h2⟩
    · exact h.elim
  · obtain ⟨r, h1, h2⟩ := rsK_elim h
    exact ⟨r.1, r.2, h1, h2⟩
theorem floatsK_ok {K : Prop} : ∀ {l : List Value}, floatsK l K → l.all (ground 1) = true ∧ K := by
  intro l
  induction l with
  | nil => intro h; exact ⟨rfl, h⟩
  | cons v l ih =>
    intro h
    unfold floatsK at h
    split at h
    · rename_i heq; cases heq
    · rename_i k b l' heq
      cases heq
      obtain ⟨h1, h2⟩ := need_elim h
      obtain ⟨h3, h4⟩ := ih h2
      exact ⟨by simp [List.all_cons, ground, h3]; simpa using h1, h4⟩
    · rename_i v' l' _ heq
      cases heq
      obtain ⟨h1, h2⟩ := need_elim h
      obtain ⟨h3, h4⟩ := ih h2
      exact ⟨by simp [List.all_cons, h1]; simpa using h3, h4⟩
theorem extN_ok {P : Program} {f : FuncId} {args : List Value} {st : ASt} {K : AN → Prop} (h : extN P f args st K) : ∃ r, aCall P f args st = .ok r ∧ K r := by
  unfold extN at h
  split at h
  · rename_i fn hf
    split at h
    · exact rsK_elim h
    · rename_i hb
      cases ht : isTrunc fn with
      | true =>
        rw [ht] at h
        simp only [cond_true] at h
        split at h
        · exact ⟨_, by simp only [aCall, hf, hb, ht, cond_true], h⟩
        · exact h.elim
      | false =>
        rw [ht] at h
        obtain ⟨h1, h2⟩ := floatsK_ok h
        split at h2
        · rename_i v hv
          cases hr : refl1 v with
          | false => rw [hr] at h2; exact h2.elim
          | true =>
            rw [hr] at h2
            exact ⟨_, by simp only [aCall, hf, hb, ht, h1, hv, hr, cond_true, cond_false], h2⟩
        · exact h2.elim
  · exact h.elim
theorem pureRun_int {P : Program} (op : BinOp) (t : TypeId) (xo yo : Operand) (k : IntKind) (a b : Int) (v : Value) (hd : divN op k a b = some v) (hb : b ≠ 0) :
    pureRun P (do eqGuard op t xo yo (.int k a) (.int k b); binOp op t (.int k a) (.int k b)) = .ok v := by
  cases op <;> simp only [divN, Option.some.injEq, reduceCtorEq] at hd <;> subst hd
  · have : (do eqGuard .quo t xo yo (.int k a) (.int k b); binOp .quo t (.int k a) (.int k b) : Sem Value) = Op.intDiv .quo k a b := by
      cases k <;> rfl
    rw [this, Op.intDiv, if_neg hb]; rfl
  · have : (do eqGuard .rem t xo yo (.int k a) (.int k b); binOp .rem t (.int k a) (.int k b) : Sem Value) = Op.intDiv .rem k a b := by
      cases k <;> rfl
    rw [this, Op.intDiv, if_neg hb]; rfl
theorem pureRun_sh {P : Program} (op : BinOp) (t : TypeId) (xo yo : Operand) (k k' : IntKind) (a b : Int) (v : Value) (hd : shN op k a b = some v) (hb : 0 ≤ b) :
    pureRun P (do eqGuard op t xo yo (.int k a) (.int k' b); binOp op t (.int k a) (.int k' b)) = .ok v := by
  cases op <;> simp only [shN, Option.some.injEq, reduceCtorEq] at hd <;> subst hd
  · have : (do eqGuard .shl t xo yo (.int k a) (.int k' b); binOp .shl t (.int k a) (.int k' b) : Sem Value) = Op.shift .shl k a k' b := by
      cases k <;> cases k' <;> rfl
    rw [this, Op.shift, if_neg (by omega)]; rfl
  · have : (do eqGuard .shr t xo yo (.int k a) (.int k' b); binOp .shr t (.int k a) (.int k' b) : Sem Value) = Op.shift .shr k a k' b := by
      cases k <;> cases k' <;> rfl
    rw [this, Op.shift, if_neg (by omega)]; rfl
theorem nan_order {k : FloatKind} {a b : Nat} (h : (nanB k a || nanB k b) = true) : k.format.order a b = none := (arith_nan h).2.2.2.2
theorem pureRun_cmp {P : Program} (op : BinOp) (t : TypeId) (xo yo : Operand) (k : FloatKind) (a b : Nat) (q : Bool) (h : cmpF op k a b = some q) :
    pureRun P (do eqGuard op t xo yo (.float k a) (.float k b); binOp op t (.float k a) (.float k b)) = .ok (.bool q) := by
  cases op <;> simp only [cmpF, Option.some.injEq, reduceCtorEq] at h <;> subst h <;> cases k <;> rfl
theorem fltN_ok {P : Program} {f : AFr} {st : ASt} {o : Oper} {op : BinOp} {t ty : TypeId} {x y : Operand} {k : FloatKind} {a b : Nat} {K : AN → Prop} (ho : o.op = .binOp op t x y ty) (hx : f.ev x = .float k a) (hy : f.ev y = .float k b)
    (h : fltN op k a b fun v => K (.val v st)) : ∃ r, aOp P f st o = .ok r ∧ K r := by
  have hs : sameF k k = true := by cases k <;> rfl
  unfold fltN at h
  split at h
  · rename_i q hq
    refine ⟨_, ?_, h⟩
    cases hn : (nanB k a || nanB k b) with
    | true =>
      have ho' := nan_order hn
      have : aFloat op (.float k a) (.float k b) = some (.bool q) := by
        cases op <;> simp only [cmpF, Option.some.injEq, reduceCtorEq, ho'] at hq <;> subst hq <;> simp only [aFloat, hs, cond_true, hn] <;> rfl
      simp only [aOp, ho, hx, hy, this]
    | false =>
      have h0 : aFloat op (.float k a) (.float k b) = none := by
        cases op <;> simp only [cmpF, Option.some.injEq, reduceCtorEq] at hq <;> simp only [aFloat, hs, cond_true, hn, cond_false, arithF]
      have hg : (ground 4 (.float k a) && ground 4 (.float k b)) = true := by
        simp only [Bool.or_eq_false_iff] at hn
        simp [ground, hn.1, hn.2]
      have h1 : aBin P op t x y (.float k a) (.float k b) = .ok (.ok (.bool q)) := by
        simp only [aBin, hg, cond_true, pureRun_cmp op t x y k a b q hq]
        rfl
      simp only [aOp, ho, hx, hy, h0, h1, Rs.bnd]
  · rename_i hc
    cases hop : arithOp op with
    | false => rw [hop] at h; exact h.elim
    | true =>
      rw [hop] at h
      simp only [cond_true] at h
      refine ⟨_, ?_, h⟩
      have : aFloat op (.float k a) (.float k b) = some (.float k (ariR k op a b)) := by
        cases hn : (nanB k a || nanB k b) with
        | true =>
          obtain ⟨n1, n2, n3, n4, _⟩ := arith_nan hn
          cases op <;> simp [arithOp] at hop <;> simp only [aFloat, hs, cond_true, hn, ariR, n1, n2, n3, n4, Option.getD_none]
        | false =>
          cases op <;> simp [arithOp] at hop <;> simp only [aFloat, hs, cond_true, hn, cond_false, arithF, ariR] <;> split <;> simp_all
      simp only [aOp, ho, hx, hy, this]
theorem pureRun_bind {α β : Type} {P : Program} {x : Sem α} {f : α → Sem β} {a : α} (h : pureRun P x = .ok a) : pureRun P (x >>= f) = pureRun P (f a) := by
  show pureRun P (x.bind f) = _
  induction x with
  | pure b => simp only [pureRun] at h; cases h; rfl
  | program k ih => simp only [pureRun] at h; simp only [Sem.bind, pureRun]; exact ih P h
  | mark m k ih => simp only [pureRun] at h; simp only [Sem.bind, pureRun]; exact ih h
  | halt e => cases e <;> simp [pureRun] at h
  | _ => simp [pureRun] at h
theorem pureRun_und {P : Program} {t : TypeId} {d : TypeDesc} (h : P.underlying t = some d) : pureRun P (underlying t) = .ok d := by
  show pureRun P (match P.underlying t with | some d => pure d | none => stuck "no such type") = _
  rw [h]; rfl
theorem pureRun_convert {P : Program} {s d : TypeId} {ds : TypeDesc} {kd : IntKind} {k : FloatKind} {b : Nat} (hs : P.underlying s = some ds) (hd : P.underlying d = some (.int kd)) :
    pureRun P (convert s d (.float k b)) = pureRun P (Conv.floatToInt k b kd) := by
  unfold convert
  rw [pureRun_bind (pureRun_und hs), pureRun_bind (pureRun_und hd)]
set_option maxHeartbeats 1000000 in
theorem opN_ok {P : Program} {f : AFr} {st : ASt} {o : Oper} {K : AN → Prop} (h : opN P f st o K) : ∃ r, aOp P f st o = .ok r ∧ K r := by
  unfold opN at h
  split at h
  · rename_i c a b ho
    split at h
    · rename_i b' hb
      rcases br_elim h with ⟨rfl, h⟩ | ⟨rfl, h⟩ <;> exact ⟨_, by simp only [aOp, ho, hb, cond_true, cond_false], h⟩
    · exact h.elim
  · rename_i op t x y ty ho
    split at h
    · rename_i k a k' b hx hy
      cases hs : sameF k k' with
      | false => rw [hs] at h; exact h.elim
      | true =>
        rw [hs] at h
        have := sameF_eq hs
        subst this
        exact fltN_ok ho hx hy h
    · rename_i k a k' b hx hy
      split at h
      · rename_i v hv
        obtain ⟨h1, h2⟩ := need_elim h
        simp only [Bool.and_eq_true, Bool.not_eq_true', decide_eq_true_eq, decide_eq_false_iff_not] at h1
        obtain ⟨rfl, hb⟩ := h1
        refine ⟨_, ?_, h2⟩
        have hr : refl1 v = true := by
          cases op <;> simp only [divN, Option.some.injEq, reduceCtorEq] at hv <;> subst hv <;> rfl
        have h3 : aBin P op t x y (.int k a) (.int k b) = .ok (.ok v) := by
          simp only [aBin, ground, Bool.and_self, cond_true, pureRun_int op t x y k a b v hv hb, hr]
        simp only [aOp, ho, hx, hy, aFloat, h3, Rs.bnd]
      · split at h
        · rename_i v hv
          obtain ⟨h1, h2⟩ := need_elim h
          have hb : 0 ≤ b := of_decide_eq_true h1
          refine ⟨_, ?_, h2⟩
          have hr : refl1 v = true := by
            cases op <;> simp only [shN, Option.some.injEq, reduceCtorEq] at hv <;> subst hv <;> rfl
          have h3 : aBin P op t x y (.int k a) (.int k' b) = .ok (.ok v) := by
            simp only [aBin, ground, Bool.and_self, cond_true, pureRun_sh op t x y k k' a b v hv hb, hr]
          simp only [aOp, ho, hx, hy, aFloat, h3, Rs.bnd]
        · exact rsK_elim h
    · exact rsK_elim h
  · rename_i op t x ho
    split at h
    · rename_i a hx
      split at h
      · refine ⟨_, ?_, h⟩
        simp only [aOp, ho, hx, aNegF, negR]
        cases nanB .f64 a <;> rfl
      · exact h.elim
    · exact rsK_elim h
  · rename_i s d x ho
    split at h
    · rename_i k b hx
      split at h
      · rename_i ds kd hs hd
        obtain ⟨h1, h⟩ := need_elim h
        obtain ⟨h2, h⟩ := need_elim h
        refine ⟨_, ?_, h⟩
        have hu : undL P s = .ok ds := by simp only [undL, hs]
        have hu2 : undL P d = .ok (.int kd) := by simp only [undL, hd]
        have hg : ground 1 (.float k b) = true := by simpa [ground] using h1
        cases hq : (k.decode b).toInt .zero with
        | none => rw [hq] at h2; cases h2
        | some n =>
          rw [hq] at h2
          have h3 := of_decide_eq_true h2
          have h4 : pureRun P (convert s d (.float k b)) = .ok (.int kd n) := by
            have e1 : pureRun P (Conv.floatToInt k b kd) = .ok (.int kd n) := by
              simp only [Conv.floatToInt, hq, if_pos h3]; rfl
            rw [← e1]
            exact pureRun_convert hs hd
          have h5 : aConv P st s d (.float k b) = .ok (.val (.int kd n) st) := by
            simp only [aConv, hu, hu2, Rs.bnd, hg, cond_true, h4]
            rfl
          simp only [aOp, ho, hx, h5, Option.getD_some]
      · exact h.elim
    · rename_i b0 i0 n c hx
      obtain ⟨ds, h1, h⟩ := rsK_elim h
      obtain ⟨dd, h2, h⟩ := rsK_elim h
      split at h
      · rename_i e
        obtain ⟨u, h3, h⟩ := rsK_elim h
        split at h
        · rename_i own es lo m g hg
          cases he : Nat.beq es 1 with
          | false => rw [he] at h; exact h.elim
          | true =>
            rw [he] at h
            obtain ⟨h4, h⟩ := need_elim h
            obtain ⟨h5, h⟩ := need_elim h
            have h6 : aConv P st s d (.slice (some ⟨b0, 0, some i0⟩) n c) = .ok (.val (.string (strOf n fun j => g (i0 + j))) st) := by
              simp only [aConv, h1, h2, Rs.bnd, h3, hg, he, cond_true, h4, h5]
            exact ⟨_, by simp only [aOp, ho, hx, h6], h⟩
        · exact h.elim
      · exact h.elim
    · exact rsK_elim h
  · rename_i t a x ho
    split at h
    · rename_i a0 ha
      obtain ⟨n, hn, h⟩ := rsK_elim h
      cases hb : Nat.beq (cellsL (f.ev x)).length n with
      | false => rw [hb] at h; exact h.elim
      | true =>
        rw [hb] at h
        simp only [cond_true] at h
        obtain ⟨st', h1, h2⟩ := writeN_ok h
        exact ⟨_, by simp only [aOp, ho, ha, hn, Rs.bnd, hb, cond_true, h1], h2⟩
    · exact h.elim
  · rename_i t x i ho
    split at h
    · rename_i ki n hi
      obtain ⟨i', rfl, h⟩ := idxK_elim h
      obtain ⟨d, hd, h⟩ := rsK_elim h
      split at h
      · rename_i e b0 o0 n c hx
        obtain ⟨s, hs, h⟩ := rsK_elim h
        obtain ⟨h1, h⟩ := fewN_elim h
        have h1 : Nat.blt i' _ = true := h1
        exact ⟨_, by simp only [aOp, ho, hi, hd, hx, hs, Rs.bnd, h1, cond_true]; rfl, h⟩
      · rename_i e b0 i0 n c hx
        obtain ⟨s, hs, h⟩ := rsK_elim h
        split at h
        · rename_i own es lo m elem hg
          cases he : Nat.beq es s with
          | false => rw [he] at h; exact h.elim
          | true =>
            rw [he] at h
            obtain ⟨h1, h⟩ := need_elim h
            have h1 : Nat.blt i' _ = true := h1
            exact ⟨_, by simp only [aOp, ho, hi, hd, hx, hs, Rs.bnd, hg, he, h1, cond_true]; rfl, h⟩
        · exact h.elim
      · rename_i n e b0 o0 hx
        obtain ⟨s, hs, h⟩ := rsK_elim h
        obtain ⟨h1, h⟩ := need_elim h
        have h1 : Nat.blt i' _ = true := h1
        exact ⟨_, by simp only [aOp, ho, hi, hd, hx, hs, Rs.bnd, h1, cond_true]; rfl, h⟩
      · rename_i n e b0 o0 i0 hx
        obtain ⟨s, hs, h⟩ := rsK_elim h
        obtain ⟨h1, h⟩ := need_elim h
        have h1 : Nat.blt i' _ = true := h1
        exact ⟨_, by simp only [aOp, ho, hi, hd, hx, hs, Rs.bnd, h1, cond_true]; rfl, h⟩
      · exact h.elim
    · exact h.elim
  · rename_i t l c ho
    cases hrow : rowMk c with
    | false =>
      rw [hrow] at h
      exact rsK_elim h
    | true =>
      rw [hrow] at h
      simp only [cond_true] at h
      split at h
      · rename_i k1 x k2 y hx hy
        obtain ⟨l', hl', h9⟩ := idxK_elim h
        clear h
        obtain ⟨c', hc', h8⟩ := idxK_elim h9
        clear h9
        subst hl' hc'
        obtain ⟨d, hd, h⟩ := rsK_elim h8
        clear h8
        split at h
        · rename_i e
          obtain ⟨z, hz, h⟩ := rsK_elim h
          obtain ⟨n, hn, h⟩ := rsK_elim h
          obtain ⟨b, hb, h⟩ := rsK_elim h
          cases hc : (Nat.ble b 1000000 && Nat.beq z.length n && z.all zOk) with
          | false => rw [hc] at h; exact h.elim
          | true =>
            rw [hc] at h
            obtain ⟨h1, h⟩ := need_elim h
            have h2 : (Nat.beq l' c' && Nat.ble c' 1000000 && Nat.ble b 1000000 && Nat.beq z.length n && z.all zOk) = true := by
              simp only [Bool.and_eq_true] at h1 hc ⊢
              exact ⟨⟨⟨⟨h1.1, h1.2⟩, hc.1.1⟩, hc.1.2⟩, hc.2⟩
            exact ⟨_, by simp only [aOp, ho, hx, hy, hd, hz, hn, hb, Rs.bnd, hrow, h2, cond_true], h⟩
        · exact h.elim
      · exact h.elim
  · rename_i t a ho
    split at h
    · rename_i a0 ha
      obtain ⟨n, hn, h⟩ := rsK_elim h
      obtain ⟨l, st', hl, h⟩ := readN_ok h
      obtain ⟨v, hv, h⟩ := rsK_elim h
      exact ⟨_, by simp only [aOp, ho, ha, hn, hl, hv, Rs.bnd], h⟩
    · exact h.elim
  · rename_i t x lo hi mx ho
    split at h
    · rename_i b0 i0 len cap hx
      obtain ⟨d, hd, h⟩ := rsK_elim h
      split at h
      · rename_i e
        obtain ⟨r1, h1, h⟩ := boundN2_ok h
        obtain ⟨r2, h2, h⟩ := boundN_ok h
        obtain ⟨s, hs, h⟩ := rsK_elim h
        split at h
        · rename_i own es lo' m elem hg
          cases he : Nat.beq es s with
          | false => rw [he] at h; exact h.elim
          | true =>
            rw [he] at h
            exact ⟨_, by simp only [aOp, ho, aSlice, hd, hx, h1, h2, hs, Rs.bnd, hg, he, cond_true], h⟩
        · exact h.elim
      · exact h.elim
    · exact rsK_elim h
  · rename_i t x i ok ho
    obtain ⟨d, hd, h⟩ := rsK_elim h
    split at h
    · rename_i kt et
      split at h
      · rename_i kk vk es hm
        obtain ⟨v, hv, h⟩ := rsK_elim h
        exact ⟨_, by simp only [aOp, ho, hd, hm, hv, Rs.bnd], h⟩
      · rename_i hm
        obtain ⟨u, hu, h⟩ := rsK_elim h
        obtain ⟨es, he, h⟩ := rsK_elim h
        obtain ⟨u2, hk, h⟩ := rsK_elim h
        obtain ⟨r, hr, h⟩ := findN_ok h
        obtain ⟨z, hz, h⟩ := rsK_elim h
        exact ⟨_, by simp only [aOp, ho, hd, hm, hu, he, hk, hr, hz, Rs.bnd], h⟩
    · exact h.elim
  · rename_i c ho
    split at h
    · rename_i g hc
      split at h
      · rename_i fid a b hg
        obtain ⟨r, h1, h2⟩ := extN_ok h
        exact ⟨r, by simp only [aOp, ho, hc, hg, aInvoke, h1], h2⟩
      · exact h.elim
    · rename_i hc
      obtain ⟨r, h1, h2⟩ := appN_ok h
      exact ⟨r, by simp only [aOp, ho, hc, aBuiltin, h1], h2⟩
    · exact rsK_elim h
  · exact rsK_elim h
end Go.Proofs.YtpogcoolgnjejaaGreatDoor.Ev
/-
  The evaluator where values are left open: code and functions.
-/
set_option linter.unusedVariables false
set_option linter.unusedSimpArgs false
namespace Go.Proofs.YtpogcoolgnjejaaGreatDoor.Ev
open Go

abbrev SelfK := FuncId → List Value → ASt → (AE → ASt → Prop) → Prop
abbrev Kt := AX → AFr → ASt → Prop
def SelfKS (self : Self) (sk : SelfK) : Prop := ∀ g args st K, sk g args st K → ∃ r st', self g args st = .ok (r, st') ∧ K r st'

/-- a truth that was looked at is kept -/
def AFr.tell (f : AFr) (d : Nat) (b : Bool) : AFr := ⟨f.n, f.tmps.set d (some (.bool b)), f.defers⟩
theorem Tr.put_same {α : Type} : ∀ (f : Nat) (t : Tr α) (k : Nat) (v : α), t.get k = some v → Tr.put f t k (some v) = t := by
  intro f
  induction f with
  | zero => intro t k v h; rfl
  | succ f ih =>
    intro t k v h
    cases t with
    | leaf => cases h
    | node u l r =>
      simp only [Tr.put]
      simp only [Tr.get] at h
      cases hk : Nat.beq k 0 with
      | true => rw [hk] at h; simp only [cond_true] at h ⊢; rw [h]
      | false =>
        rw [hk] at h
        simp only [cond_false] at h ⊢
        cases ho : Nat.beq (k % 2) 1 with
        | true => rw [ho] at h; simp only [cond_true] at h ⊢; rw [ih l _ v h]
        | false => rw [ho] at h; simp only [cond_false] at h ⊢; rw [ih r _ v h]
theorem AFr.tell_eq {f : AFr} {d : Nat} {b : Bool} (h : f.tmps.get d = some (.bool b)) : f.tell d b = f := by
  unfold AFr.tell Tr.set
  rw [Tr.put_same _ _ _ _ h]
def guardN (ops : List Oper) (f : AFr) (o : Oper) (K1 K0 : AFr → Prop) : Prop := match o.guard with
  | none => K1 f
  | some (j, want) => match ops[j]? with
    | some oj => match oj.dst with
      | some d => match f.tmps.get d with
        | some (.bool b) => cond want (br b (K1 (f.tell d true)) (K0 (f.tell d false))) (br b (K0 (f.tell d true)) (K1 (f.tell d false)))
        | some (.tuple _) => K0 f
        | _ => False
      | none => K0 f
    | none => K0 f
theorem guardN_ok {ops : List Oper} {f : AFr} {o : Oper} {K1 K0 : AFr → Prop} (h : guardN ops f o K1 K0) : (wantedA ops f o = some true ∧ K1 f) ∨ (wantedA ops f o = some false ∧ K0 f) := by
  unfold guardN at h
  unfold wantedA
  split at h
  · rename_i hg; rw [hg]; exact .inl ⟨rfl, h⟩
  · rename_i j want hg
    rw [hg]
    simp only
    split at h
    · rename_i oj hj
      rw [hj]
      simp only
      split at h
      · rename_i d hd
        rw [hd]
        simp only
        split at h
        · rename_i b hb
          rw [hb]
          cases want with
          | true =>
            rcases br_elim h with ⟨rfl, h⟩ | ⟨rfl, h⟩
            · rw [AFr.tell_eq hb] at h; exact .inl ⟨rfl, h⟩
            · rw [AFr.tell_eq hb] at h; exact .inr ⟨rfl, h⟩
          | false =>
            rcases br_elim h with ⟨rfl, h⟩ | ⟨rfl, h⟩
            · rw [AFr.tell_eq hb] at h; exact .inr ⟨rfl, h⟩
            · rw [AFr.tell_eq hb] at h; exact .inl ⟨rfl, h⟩
        · rename_i vs hb; rw [hb]; exact .inr ⟨rfl, h⟩
        · exact h.elim
      · rename_i hd; rw [hd]; exact .inr ⟨rfl, h⟩
    · rename_i hj; rw [hj]; exact .inr ⟨rfl, h⟩

def opK (P : Program) (sk : SelfK) (f : AFr) (st : ASt) (o : Oper) (K : Kt) : Prop := opN P f st o fun r => match r with
  | .val v st' => forceT v fun v => K .normal (f.put o.dst v) st'
  | .enter g args => sk g args st fun e st' => match e with
    | .returned v => forceT v fun v => K .normal (f.put o.dst v) st'
    | .panicked v => K (.panic v) f st'
  | .defer d => K .normal (({ f with defers := d :: f.defers } : AFr).put o.dst undef) st
  | .panic v => K (.panic v) f st
theorem opK_ok {P : Program} {self : Self} {sk : SelfK} (hs : SelfKS self sk) {f : AFr} {st : ASt} {o : Oper} {K : Kt} (h : opK P sk f st o K) : ∃ x f' st', evOp P self f st o = .ok (x, f', st') ∧ K x f' st' := by
  obtain ⟨r, h1, h2⟩ := opN_ok h
  unfold evOp
  rw [h1]
  cases r with
  | val v st' => exact ⟨_, _, _, rfl, forceT_ok h2⟩
  | enter g args =>
    obtain ⟨r, st', h3, h4⟩ := hs g args st _ h2
    simp only [h3]
    cases r with
    | returned v => exact ⟨_, _, _, rfl, forceT_ok h4⟩
    | panicked v => exact ⟨_, _, _, rfl, h4⟩
  | defer d => exact ⟨_, _, _, rfl, h2⟩
  | panic v => exact ⟨_, _, _, rfl, h2⟩
def opsK (P : Program) (sk : SelfK) (all : List Oper) : List Oper → AFr → ASt → Kt → Prop
  | [], f, st, K => K .normal f st
  | o :: rest, f, st, K => guardN all f o
    (fun f => opK P sk f st o fun x f' st' => match x with
      | .normal => opsK P sk all rest f' st' K
      | x => K x f' st')
    (fun f => opsK P sk all rest (f.put o.dst undef) st K)
theorem opsK_ok {P : Program} {self : Self} {sk : SelfK} (hs : SelfKS self sk) {all : List Oper} : ∀ {l : List Oper} {f : AFr} {st : ASt} {K : Kt}, opsK P sk all l f st K → ∃ x f' st', evOps P self all l f st = .ok (x, f', st') ∧ K x f' st' := by
  intro l
  induction l with
  | nil => intro f st K h; exact ⟨_, _, _, rfl, h⟩
  | cons o l ih =>
    intro f st K h
    unfold opsK at h
    unfold evOps
    rcases guardN_ok h with ⟨h1, h2⟩ | ⟨h1, h2⟩
    · rw [h1]
      obtain ⟨x, f', st', h3, h4⟩ := opK_ok hs h2
      simp only [h3]
      cases x with
      | normal => exact ih h4
      | exit i => exact ⟨_, _, _, rfl, h4⟩
      | ret => exact ⟨_, _, _, rfl, h4⟩
      | panic v => exact ⟨_, _, _, rfl, h4⟩
    · rw [h1]
      exact ih h2

def valK (P : Program) (sk : SelfK) (f : AFr) (st : ASt) (o : Oper) (K : Value → ASt → Prop) : Prop := opN P f st o fun r => match r with
  | .val v st' => forceT v fun v => K v st'
  | .enter g args => sk g args st fun e st' => match e with
    | .returned v => forceT v fun v => K v st'
    | .panicked _ => False
  | _ => False
theorem valK_ok {P : Program} {self : Self} {sk : SelfK} (hs : SelfKS self sk) {f : AFr} {st : ASt} {o : Oper} {K : Value → ASt → Prop} (h : valK P sk f st o K) : ∃ v st', evVal P self f st o = .ok (v, st') ∧ K v st' := by
  obtain ⟨r, h1, h2⟩ := opN_ok h
  unfold evVal
  rw [h1]
  cases r with
  | val v st' => exact ⟨_, _, rfl, forceT_ok h2⟩
  | enter g args =>
    obtain ⟨r, st', h3, h4⟩ := hs g args st _ h2
    simp only [h3]
    cases r with
    | returned v => exact ⟨_, _, rfl, forceT_ok h4⟩
    | panicked v => exact h4.elim
  | defer d => exact h2.elim
  | panic v => exact h2.elim
def drawK (P : Program) (sk : SelfK) (all : List Oper) : List (Oper × Nat) → Nat → List Rec → AFr → ASt → Kt → Prop
  | [], _, _, f, st, K => K .normal f st
  | (o, m) :: rest, j, recs, f, st, K => guardN all f o
    (fun f =>
    let next (fp : Option (List Nat)) (v : Value) (st' : ASt) : Prop :=
      cond (freeOf m recs (!(Nat.ble st.next st'.lo)) st'.lo fp st'.h)
        (drawK P sk all rest (j + 1) (cond (noRec fp st.next st'.next) recs (⟨j, st.next, st'.next, !(Nat.ble st.next st'.lo), st'.lo, fp, none⟩ :: recs)) (f.put o.dst v)
          ⟨st'.next, mergeOf m recs st.h (footOf m recs st.h fp) st'.h st.next st'.next fp, minN st.lo st'.lo⟩ K)
        False
    let fr : AFr := ⟨f.n, restr f (looksL all o), f.defers⟩
      match qload P f st.h m recs o.op with
      | some q => cond (freeOf m recs false big (some [q.2.1.block]) st.h)
        (forceT q.1 fun v => drawK P sk all rest (j + 1) (⟨j, st.next, st.next, false, big, some [q.2.1.block], some q.2⟩ :: recs) (f.put o.dst v) st K) False
      | none => match cond (pureOp o.op) (some (pureFp f o.op)) (fpOf f st.h o.op) with
        | some l => valK P sk fr ⟨st.next, footOf m recs st.h (some l), big⟩ o fun v st' => next (some l) v st'
        | none => valK P sk fr ⟨st.next, footOf m recs st.h none, big⟩ o fun v st' => cond (Nat.ble st.next st'.lo || solo m recs j rest) (next none v st')
            (let l := reach st.h 100000 ((o.op.operands.toList.map f.ev).flatMap (idsV 4)) .leaf []
             valK P sk fr ⟨st.next, footOf m recs st.h (some l), big⟩ o fun v st' => next (some l) v st'))
    (fun f => drawK P sk all rest (j + 1) recs (f.put o.dst undef) st K)

theorem drawK_ok {P : Program} {self : Self} {sk : SelfK} (hs : SelfKS self sk) {all : List Oper} : ∀ {l : List (Oper × Nat)} {j : Nat} {recs : List Rec} {f : AFr} {st : ASt} {K : Kt}, drawK P sk all l j recs f st K → ∃ x f' st', evDraw P self all l j recs f st = .ok (x, f', st') ∧ K x f' st' := by
  intro l
  induction l with
  | nil => intro j recs f st K h; exact ⟨_, _, _, rfl, h⟩
  | cons om l ih =>
    intro j recs f st K h
    obtain ⟨o, m⟩ := om
    unfold drawK at h
    unfold evDraw
    simp only at h ⊢
    have next : ∀ (fp : Option (List Nat)) (v : Value) (st' : ASt),
        cond (freeOf m recs (!(Nat.ble st.next st'.lo)) st'.lo fp st'.h) (drawK P sk all l (j + 1) (cond (noRec fp st.next st'.next) recs (⟨j, st.next, st'.next, !(Nat.ble st.next st'.lo), st'.lo, fp, none⟩ :: recs)) (f.put o.dst v) ⟨st'.next, mergeOf m recs st.h (footOf m recs st.h fp) st'.h st.next st'.next fp, minN st.lo st'.lo⟩ K) False →
        ∃ x f' st'', (cond (freeOf m recs (!(Nat.ble st.next st'.lo)) st'.lo fp st'.h) (evDraw P self all l (j + 1) (cond (noRec fp st.next st'.next) recs (⟨j, st.next, st'.next, !(Nat.ble st.next st'.lo), st'.lo, fp, none⟩ :: recs)) (f.put o.dst v) ⟨st'.next, mergeOf m recs st.h (footOf m recs st.h fp) st'.h st.next st'.next fp, minN st.lo st'.lo⟩) (.er "draw: not apart" o.pos)) = .ok (x, f', st'') ∧ K x f' st'' := by
      intro fp v st' h
      cases hb : freeOf m recs (!(Nat.ble st.next st'.lo)) st'.lo fp st'.h with
      | true => rw [hb] at h; exact ih h
      | false => rw [hb] at h; exact h.elim
    rcases guardN_ok h with ⟨h1, h2⟩ | ⟨h1, h2⟩
    · rw [h1]
      simp only
      split at h2
      · rename_i q hq
        simp only [hq]
        cases hb : freeOf m recs false big (some [q.2.1.block]) st.h with
        | true =>
          rw [hb] at h2
          have h2 : forceT q.1 fun v => drawK P sk all l (j + 1) (⟨j, st.next, st.next, false, big, some [q.2.1.block], some q.2⟩ :: recs) (f.put o.dst v) st K := h2
          exact ih (forceT_ok h2)
        | false => rw [hb] at h2; exact h2.elim
      rename_i hq
      simp only [hq]
      split at h2
      · rename_i l' hl
        obtain ⟨v, st', h3, h4⟩ := valK_ok hs h2
        simp only [hl, h3]
        exact next _ v st' h4
      · rename_i hl
        obtain ⟨v, st', h3, h4⟩ := valK_ok hs h2
        simp only [hl, h3]
        cases hb : (Nat.ble st.next st'.lo || solo m recs j l) with
        | true =>
          rw [hb] at h4
          simp only [cond_true] at h4 ⊢
          exact next none v st' h4
        | false =>
          rw [hb] at h4
          simp only [cond_false] at h4 ⊢
          obtain ⟨v2, st2, h5, h6⟩ := valK_ok hs h4
          simp only [h5]
          exact next _ v2 st2 h6
    · rw [h1]
      exact ih h2

def iterK (g : AFr → ASt → Kt → Prop) : Nat → AFr → ASt → Kt → Prop
  | 0, _, _, _ => False
  | n + 1, f, st, K => g f st fun x f' st' => match x with
    | .normal => iterK g n f' st' K
    | x => K x f' st'
def codeK (P : Program) (sk : SelfK) (fuel : Nat) : Code → AFr → ASt → Kt → Prop
  | .skip, f, st, K => K .normal f st
  | .region _ ops draw, f, st, K => cond draw (cond (slotsOk ops.toList) (drawK P sk ops.toList (ops.toList.zip (ancL ops.toList [])) 0 [] f st K) False) (opsK P sk ops.toList ops.toList f st K)
  | .seq a b, f, st, K => codeK P sk fuel a f st fun x f' st' => match x with
    | .normal => codeK P sk fuel b f' st' K
    | x => K x f' st'
  | .cond c a b, f, st, K => match c with
    | .tmp t => match f.tmps.get t with
      | some (.bool q) => br q (codeK P sk fuel a (f.tell t true) st K) (codeK P sk fuel b (f.tell t false) st K)
      | _ => False
    | c => match f.ev c with
      | .bool q => br q (codeK P sk fuel a f st K) (codeK P sk fuel b f st K)
      | _ => False
  | .block id c, f, st, K => codeK P sk fuel c f st fun x f' st' => match x with
    | .exit i => cond (Nat.beq i id) (K .normal f' st') (K (.exit i) f' st')
    | x => K x f' st'
  | .loop c, f, st, K => iterK (codeK P sk fuel c) fuel f st K
  | .exit id, f, st, K => K (.exit id) f st
  | .ret, f, st, K => K .ret f st
  | _, _, _, _ => False
theorem codeK_ok {P : Program} {self : Self} {sk : SelfK} (hs : SelfKS self sk) {fuel : Nat} : ∀ {c : Code} {f : AFr} {st : ASt} {K : Kt}, codeK P sk fuel c f st K → ∃ x f' st', evCode P self fuel c f st = .ok (x, f', st') ∧ K x f' st' := by
  intro c
  induction c with
  | skip => intro f st K h; exact ⟨_, _, _, rfl, h⟩
  | region id ops draw =>
    intro f st K h
    simp only [codeK] at h
    simp only [evCode, evRegion]
    cases draw with
    | true =>
      simp only [cond_true] at h ⊢
      cases hb : slotsOk ops.toList with
      | true => rw [hb] at h; exact drawK_ok hs h
      | false => rw [hb] at h; exact h.elim
    | false => exact opsK_ok hs h
  | seq a b iha ihb =>
    intro f st K h
    simp only [codeK] at h
    obtain ⟨x, f', st', h1, h2⟩ := iha h
    simp only [evCode, h1]
    cases x with
    | normal => exact ihb h2
    | exit i => exact ⟨_, _, _, rfl, h2⟩
    | ret => exact ⟨_, _, _, rfl, h2⟩
    | panic v => exact ⟨_, _, _, rfl, h2⟩
  | cond c a b iha ihb =>
    intro f st K h
    simp only [codeK] at h
    simp only [evCode]
    split at h
    · rename_i t
      split at h
      · rename_i q hq
        have hfe : f.ev (.tmp t) = .bool q := by simp only [AFr.ev, AFr.tmp, hq]
        rcases br_elim h with ⟨rfl, h⟩ | ⟨rfl, h⟩
        · rw [AFr.tell_eq hq] at h; simp only [hfe]; exact iha h
        · rw [AFr.tell_eq hq] at h; simp only [hfe]; exact ihb h
      · exact h.elim
    · split at h
      · rename_i q hq
        rcases br_elim h with ⟨rfl, h⟩ | ⟨rfl, h⟩
        · simp only [hq]; exact iha h
        · simp only [hq]; exact ihb h
      · exact h.elim
  | block id c ih =>
    intro f st K h
    simp only [codeK] at h
    obtain ⟨x, f', st', h1, h2⟩ := ih h
    simp only [evCode, h1]
    cases x with
    | normal => exact ⟨_, _, _, rfl, h2⟩
    | exit i =>
      simp only at h2 ⊢
      cases hb : Nat.beq i id with
      | true => rw [hb] at h2; exact ⟨_, _, _, rfl, h2⟩
      | false => rw [hb] at h2; exact ⟨_, _, _, rfl, h2⟩
    | ret => exact ⟨_, _, _, rfl, h2⟩
    | panic v => exact ⟨_, _, _, rfl, h2⟩
  | loop c ih =>
    intro f st K h
    simp only [codeK] at h
    simp only [evCode]
    have key : ∀ (n : Nat) (f : AFr) (st : ASt), iterK (codeK P sk fuel c) n f st K → ∃ x f' st', iter (evCode P self fuel c) n f st = .ok (x, f', st') ∧ K x f' st' := by
      intro n
      induction n with
      | zero => intro f st h; exact h.elim
      | succ n ihn =>
        intro f st h
        simp only [iterK] at h
        obtain ⟨x, f', st', h1, h2⟩ := ih h
        simp only [iter, h1]
        cases x with
        | normal => exact ihn _ _ h2
        | exit i => exact ⟨_, _, _, rfl, h2⟩
        | ret => exact ⟨_, _, _, rfl, h2⟩
        | panic v => exact ⟨_, _, _, rfl, h2⟩
    exact key fuel f st h
  | exit id => intro f st K h; exact ⟨_, _, _, rfl, h⟩
  | ret => intro f st K h; exact ⟨_, _, _, rfl, h⟩
  | _ => intros; rename_i h; exact h.elim

/-- a deferred function -/
abbrev SelfDK := FuncId → List Value → Option Value → ASt → (Option Value → ASt → Prop) → Prop
def finDK (P : Program) (fn : Func) (p : Option Value) (K : Option Value → ASt → Prop) (x : AX) (f : AFr) (st : ASt) : Prop := match x with
  | .normal | .ret => (match f.defers with
    | [] => rsK (resOf P fn st f) fun _ => K p st
    | _ => False)
  | _ => False
def evDK (P : Program) (sk : SelfK) (fuel : Nat) : SelfDK := fun g args p st K => match P.funcs.toList[g]? with
  | some fn => match fn.body with
    | some body => match body with
      | .seq (.region id ops false) c2 => match ops.toList with
        | o :: l => cond (isRecover o)
          (opsK P sk (o :: l) l ((⟨maxN args.length fn.ntmps, args0 args 0 .leaf, []⟩ : AFr).put o.dst (recoverOf p)) st fun x f' st' => match x with
            | .normal => codeK P sk fuel c2 f' st' (finDK P fn none K)
            | x => finDK P fn none K x f' st')
          (match c2 with
            | .seq (.region id2 ops2 false) c3 => match ops2.toList with
              | o2 :: l2 => cond (isRecover o2)
                (opsK P sk (o :: l) (o :: l) ⟨maxN args.length fn.ntmps, args0 args 0 .leaf, []⟩ st fun x f1 st1 => match x with
                  | .normal => opsK P sk (o2 :: l2) l2 (f1.put o2.dst (recoverOf p)) st1 fun x f' st' => match x with
                    | .normal => codeK P sk fuel c3 f' st' (finDK P fn none K)
                    | x => finDK P fn none K x f' st'
                  | x => finDK P fn none K x f1 st1)
                (codeK P sk fuel body ⟨maxN args.length fn.ntmps, args0 args 0 .leaf, []⟩ st (finDK P fn p K))
              | [] => False
            | _ => codeK P sk fuel body ⟨maxN args.length fn.ntmps, args0 args 0 .leaf, []⟩ st (finDK P fn p K))
        | [] => False
      | body => codeK P sk fuel body ⟨maxN args.length fn.ntmps, args0 args 0 .leaf, []⟩ st (finDK P fn p K)
    | none => False
  | none => False
theorem finDK_ok {P : Program} {fn : Func} {p : Option Value} {K : Option Value → ASt → Prop} {x : AX} {f : AFr} {st : ASt} (h : finDK P fn p K x f st) : ∃ p' st', finD P fn p (.ok (x, f, st)) = .ok (p', st') ∧ K p' st' := by
  unfold finDK at h
  split at h
  · split at h
    · rename_i hd
      obtain ⟨v, h1, h2⟩ := rsK_elim h
      exact ⟨p, st, by simp only [finD, hd, h1, Rs.bnd], h2⟩
    · exact h.elim
  · split at h
    · rename_i hd
      obtain ⟨v, h1, h2⟩ := rsK_elim h
      exact ⟨p, st, by simp only [finD, hd, h1, Rs.bnd], h2⟩
    · exact h.elim
  · exact h.elim
theorem evDK_ok {P : Program} {self : Self} {sk : SelfK} (hs : SelfKS self sk) {fuel : Nat} {g : FuncId} {args : List Value} {p : Option Value} {st : ASt} {K : Option Value → ASt → Prop} (h : evDK P sk fuel g args p st K) :
    ∃ p' st', evD P self fuel g args p st = .ok (p', st') ∧ K p' st' := by
  unfold evDK at h
  unfold evD
  split at h
  · rename_i fn hfn
    rw [hfn]
    simp only
    split at h
    · rename_i body hb
      rw [hb]
      simp only
      split at h
      · rename_i id ops c2
        split at h
        · rename_i o l hol
          dsimp only
          rw [hol]
          dsimp only
          cases hr : isRecover o with
          | true =>
            rw [hr] at h
            simp only [cond_true] at h ⊢
            obtain ⟨x, f', st', h1, h2⟩ := opsK_ok hs h
            rw [h1]
            cases x with
            | normal =>
              obtain ⟨x2, f2, st2, h3, h4⟩ := codeK_ok hs h2
              simp only [h3]
              exact finDK_ok h4
            | exit i => exact finDK_ok h2
            | ret => exact finDK_ok h2
            | panic v => exact finDK_ok h2
          | false =>
            rw [hr] at h
            simp only [cond_false] at h ⊢
            have plain : codeK P sk fuel (.seq (.region id ops false) c2) ⟨maxN args.length fn.ntmps, args0 args 0 .leaf, []⟩ st (finDK P fn p K) → ∃ p' st', finD P fn p (evCode P self fuel (.seq (.region id ops false) c2) ⟨maxN args.length fn.ntmps, args0 args 0 .leaf, []⟩ st) = .ok (p', st') ∧ K p' st' := by
              intro h
              obtain ⟨x, f', st', h1, h2⟩ := codeK_ok hs h
              rw [h1]
              exact finDK_ok h2
            split at h
            · rename_i id2 ops2 c3
              split at h
              · rename_i o2 l2 hol2
                dsimp only
                rw [hol2]
                dsimp only
                cases hr2 : isRecover o2 with
                | true =>
                  rw [hr2] at h
                  simp only [cond_true] at h ⊢
                  obtain ⟨x, f', st', h1, h2⟩ := opsK_ok hs h
                  rw [h1]
                  cases x with
                  | normal =>
                    obtain ⟨x2, f2, st2, h3, h4⟩ := opsK_ok hs h2
                    simp only [h3]
                    cases x2 with
                    | normal =>
                      obtain ⟨x3, f3, st3, h5, h6⟩ := codeK_ok hs h4
                      simp only [h5]
                      exact finDK_ok h6
                    | exit i => exact finDK_ok h4
                    | ret => exact finDK_ok h4
                    | panic v => exact finDK_ok h4
                  | exit i => exact finDK_ok h2
                  | ret => exact finDK_ok h2
                  | panic v => exact finDK_ok h2
                | false =>
                  rw [hr2] at h
                  simp only [cond_false] at h ⊢
                  exact plain h
              · exact h.elim
            · rename_i c2' hne
              obtain ⟨p', st', k1, k2⟩ := plain h
              refine ⟨p', st', ?_, k2⟩
              split
              · exact (hne _ _ _ rfl).elim
              · exact k1
        · exact h.elim
      · rename_i body' hne
        obtain ⟨x, f', st', h1, h2⟩ := codeK_ok hs h
        obtain ⟨p', st2, h3, h4⟩ := finDK_ok h2
        refine ⟨p', st2, ?_, h4⟩
        split
        · exact (hne _ _ _ rfl).elim
        · rw [h1]
          exact h3
    · exact h.elim
  · exact h.elim
def leaveK (P : Program) (sd : SelfDK) (fn : Func) (f : AFr) : List ADef → Option Value → ASt → (AE → ASt → Prop) → Prop
  | [], none, st, K => rsK (resOf P fn st f) fun v => K (.returned v) st
  | [], some v, st, K => K (.panicked v) st
  | d :: ds, p, st, K => rsK (aInvoke P d.fn d.args d.cap st) fun r => match r with
    | .enter g args => sd g args p st fun p' st'' => leaveK P sd fn f ds p' st'' K
    | _ => False
theorem leaveK_ok {P : Program} {selfD : FuncId → List Value → Option Value → ASt → Rs (Option Value × ASt)} {sd : SelfDK} (hs : ∀ g args p st K, sd g args p st K → ∃ p' st', selfD g args p st = .ok (p', st') ∧ K p' st') {fn : Func} {f : AFr} :
    ∀ {ds : List ADef} {p : Option Value} {st : ASt} {K : AE → ASt → Prop}, leaveK P sd fn f ds p st K → ∃ r st', leave P selfD fn f ds p st = .ok (r, st') ∧ K r st' := by
  intro ds
  induction ds with
  | nil =>
    intro p st K h
    cases p with
    | none =>
      obtain ⟨v, h1, h2⟩ := rsK_elim h
      exact ⟨_, _, by simp only [leave, h1, Rs.bnd], h2⟩
    | some v => exact ⟨_, _, rfl, h⟩
  | cons d ds ih =>
    intro p st K h
    unfold leaveK at h
    obtain ⟨r, h1, h2⟩ := rsK_elim h
    unfold leave
    rw [h1]
    split at h2
    · obtain ⟨p', st', h3, h4⟩ := hs _ _ _ _ _ h2
      simp only [h3]
      exact ih h4
    · exact h2.elim
/-- behind the body -/
def endK (P : Program) (sd : SelfDK) (fn : Func) (K : AE → ASt → Prop) (x : AX) (f : AFr) (st : ASt) : Prop := match x with
  | .normal | .ret => (match f.defers with
    | [] => rsK (resOf P fn st f) fun v => K (.returned v) st
    | ds => leaveK P sd fn f ds none st K)
  | .panic v => (match f.defers with
    | [] => K (.panicked v) st
    | ds => leaveK P sd fn f ds (some v) st K)
  | .exit _ => False
def funK (P : Program) (C : Told) (fuel : Nat) : Nat → SelfK
  | 0 => fun _ _ _ _ => False
  | n + 1 => fun g args st K => match C g with
    | some c => c.sym args st K
    | none => match P.funcs.toList[g]? with
      | some fn => match fn.body with
        | some body => codeK P (funK P C fuel n) fuel body ⟨maxN args.length fn.ntmps, args0 args 0 .leaf, []⟩ st (endK P (evDK P (funK P C fuel n) fuel) fn K)
        | none => False
      | none => False
theorem funK_ok (P : Program) (C : Told) (fuel : Nat) : ∀ n, SelfKS (evFunC P C fuel n) (funK P C fuel n) := by
  intro n
  induction n with
  | zero => intro g args st K h; exact h.elim
  | succ n ih =>
    intro g args st K h
    simp only [funK] at h
    simp only [evFunC]
    split at h
    · rename_i c hc
      rw [hc]
      exact c.ok args st K h
    · rename_i hc
      rw [hc]
      simp only [evFun1]
      split at h
      · rename_i fn hfn
        rw [hfn]
        simp only
        split at h
        · rename_i body hb
          rw [hb]
          simp only
          obtain ⟨x, f', st', h1, h2⟩ := codeK_ok ih h
          rw [h1]
          have main : ∀ (p : Option Value), (∀ v, p = some v → f'.defers ≠ []) → (match f'.defers with
              | [] => rsK (resOf P fn st' f') fun v => K (.returned v) st'
              | ds => leaveK P (evDK P (funK P C fuel n) fuel) fn f' ds p st' K : Prop) →
              ∃ r st'', (match f'.defers with
                | [] => (resOf P fn st' f').bnd fun v => .ok (.returned v, st')
                | ds => leave P (evD P (evFunC P C fuel n) fuel) fn f' ds p st' : Rs (AE × ASt)) = .ok (r, st'') ∧ K r st'' := by
            intro p hp h
            split at h
            · obtain ⟨v, h3, h4⟩ := rsK_elim h
              exact ⟨_, _, by rw [h3]; rfl, h4⟩
            · exact leaveK_ok (fun g args p st K h => evDK_ok ih h) h
          cases x with
          | normal => exact main none (fun v e => by cases e) h2
          | ret => exact main none (fun v e => by cases e) h2
          | exit i => exact h2.elim
          | panic v =>
            simp only [endK] at h2
            simp only
            cases hd : f'.defers with
            | nil =>
              simp only [hd] at h2 ⊢
              exact ⟨_, _, rfl, h2⟩
            | cons d ds =>
              simp only [hd] at h2 ⊢
              exact leaveK_ok (fun g args p st K h => evDK_ok ih h) h2
        · exact h.elim
      · exact h.elim

/-- it answers true -/
def trueK (r : AE) (_ : ASt) : Prop := match r with
  | .returned (.bool b) => need b True
  | _ => False
/-- a call with numbers and truths, whatever they are, that answers true -/
theorem sym_true {P : Program} {C : Told} {g : FuncId} {args : List Value} {fuel n : Nat} (hm : P.follows .mixedOrders = true) (hC : ToldS P C) (ha : args.all refl1 = true) (h : funK P C fuel n g args st0 trueK) (w : World) (hgl : GlA w := by first | assumption | exact fun b hb => by cases hb) :
    Calls P g args.toArray w fun e w' => e = .returned (.bool true) ∧ RowKit.Below w.heap.size w w' := by
  obtain ⟨r, st', h1, h2⟩ := funK_ok P C fuel n g args st0 _ h
  have hwf : Wf st0 := fun x o e => by cases e
  obtain ⟨_, h3⟩ := evFunC_sound hm hC fuel n g args st0 _ st' hwf h1
  have hw : WR (fun _ => none) st0.h.get w := by
    refine ⟨?_, ?_, ?_, ?_, fun b hb => ⟨(hgl b hb).1, (hgl b hb).2, fun ⟨a, o, s, e, _⟩ => by cases e⟩⟩
    · intro a s e; cases e
    · intro a o e; cases e
    · intro a b oa ob sa sb e; cases e
    · intro b hb; obtain ⟨a, s, e, _⟩ := hb; cases e
  have hv : VRL (fun _ => none) args args := ⟨rfl, fun i x y hx hy => by
    rw [hx] at hy; cases hy
    rw [List.all_eq_true] at ha
    exact refl1_VR (ha x (List.mem_of_getElem? hx))⟩
  refine (h3 (fun _ => none) w args.toArray (by simpa using hv) hw (fun _ _ _ => rfl)).mono fun e w' he => ?_
  obtain ⟨ρ', he, hmv⟩ := he
  refine ⟨?_, hmv.os, hmv.tape, hmv.output, hmv.size, fun k hk => hmv.frm k hk fun ⟨a, o, s, e1, _⟩ => by cases e1⟩
  unfold trueK at h2
  split at h2
  · rename_i b
    obtain ⟨hb, _⟩ := need_elim h2
    subst hb
    obtain ⟨v', rfl, hv'⟩ := he
    cases hv'
    rfl
  · exact h2.elim
end Go.Proofs.YtpogcoolgnjejaaGreatDoor.Ev
/-
  Functions of numbers and truths, of which it is told what they answer.
-/
set_option linter.unusedVariables false
set_option linter.unusedSimpArgs false
namespace Go.Proofs.YtpogcoolgnjejaaGreatDoor.Ev
open Go

/-- numbers and truths -/
def scalar : Value → Bool
  | .int .. | .bool _ | .float .. | .string _ => true
  | .tuple vs | .agg vs => vs.toList.all fun v => match v with | .int .. | .bool _ | .float .. | .string _ => true | _ => false
  | _ => false
theorem VR.scal1 {ρ ρ' : Rho} {v v' : Value} (hs : (match v with | .int .. | .bool _ | .float .. | .string _ => true | _ => false) = true) (h : VR ρ v v') : VR ρ' v v' := by
  cases h with
  | bool b => exact .bool b
  | int k n => exact .int k n
  | float k b => exact .float k b
  | nan k b b' h h' => exact .nan k b b' h h'
  | string s => exact .string s
  | _ => cases hs
theorem VR.scalar {ρ ρ' : Rho} {v v' : Value} (hs : scalar v = true) (h : VR ρ v v') : VR ρ' v v' := by
  cases h with
  | tuple a a' ha h =>
    refine .tuple a a' ha fun i x y hx hy => ?_
    simp only [Ev.scalar, List.all_eq_true] at hs
    exact VR.scal1 (hs x (by simpa using Array.mem_of_getElem? hx)) (h i x y hx hy)
  | agg a a' ha h =>
    refine .agg a a' ha fun i x y hx hy => ?_
    simp only [Ev.scalar, List.all_eq_true] at hs
    exact VR.scal1 (hs x (by simpa using Array.mem_of_getElem? hx)) (h i x y hx hy)
  | bool b => exact .bool b
  | int k n => exact .int k n
  | float k b => exact .float k b
  | nan k b b' h h' => exact .nan k b b' h h'
  | string s => exact .string s
  | any v => cases hs
  | _ => cases hs
theorem VRL.scalar {ρ ρ' : Rho} {l l' : List Value} (hs : l.all scalar = true) (h : VRL ρ l l') : VRL ρ' l l' :=
  ⟨h.1, fun i x y hx hy => VR.scalar (by rw [List.all_eq_true] at hs; exact hs x (List.mem_of_getElem? hx)) (h.2 i x y hx hy)⟩
theorem WR.empty {w : World} (hgl : GlA w) : WR (fun _ => none) st0.h.get w := by
  refine ⟨?_, ?_, ?_, ?_, fun b hb => ⟨(hgl b hb).1, (hgl b hb).2, fun ⟨a, o, s, e, _⟩ => by cases e⟩⟩
  · intro a s e; cases e
  · intro a o e; cases e
  · intro a b oa ob sa sb e; cases e
  · intro b hb; obtain ⟨a, s, e, _⟩ := hb; cases e
/-- where what there was is as it was -/
theorem Mv.below {ρ : Rho} {g : Mem} {w w' : World} (h : WR ρ g w) (n : Nat) (hb : RowKit.Below w.heap.size w w') : Mv ρ ρ g g n n w w' := by
  obtain ⟨h1, h2, h3, h4, hh⟩ := hb
  exact ⟨Nat.le_refl _, Sub.refl _, fun _ _ h => .inl h, h4, fun b hb _ => hh b hb, fun _ h => .inr h, h1, h2, h3,
    ⟨fun a s e hv => Nat.lt_of_lt_of_le (h.blk a s e hv) h4, fun a o e => by obtain ⟨s, e1, e2⟩ := h.obj a o e; exact ⟨s, e1, e2.kept (Sub.refl _) (fun hv => hh _ (h.blk a s e1 hv)) (fun b hb => hh b (h.fz b hb).1)⟩, h.inj, fun b hb => ⟨Nat.lt_of_lt_of_le (h.fz b hb).1 h4, (h.fz b hb).2⟩, gl_keep h h4 (fun b hb _ => hh b hb) fun _ h => .inr h⟩, fun a o h => .inl ⟨o, h⟩, fun _ _ h _ => .inl h, fun _ h => .inl h⟩
/-- it returns just that -/
def isK (v : Value) (r : AE) (_ : ASt) : Prop := r = .returned v
theorem sym_is {P : Program} {C : Told} {g : FuncId} {args : List Value} {fuel n : Nat} {v : Value} (hm : P.follows .mixedOrders = true) (hC : ToldS P C) (h : funK P C fuel n g args st0 (isK v)) (w : World) (args' : Array Value) (ha : VRG w args args'.toList) :
    Calls P g args' w fun e w' => (∃ ρ' v', e = .returned v' ∧ VR ρ' v v') ∧ RowKit.Below w.heap.size w w' := by
  obtain ⟨r, st', h1, h2⟩ := funK_ok P C fuel n g args st0 _ h
  unfold isK at h2
  subst h2
  have hwf : Wf st0 := fun x o e => by cases e
  obtain ⟨_, h3⟩ := evFunC_sound hm hC fuel n g args st0 _ st' hwf h1
  refine (h3 (fun _ => none) w args' ha.vr (WR.empty ha.gl) (fun _ _ _ => rfl)).mono fun e w' he => ?_
  obtain ⟨ρ', he, hmv⟩ := he
  obtain ⟨v', rfl, hv'⟩ := he
  exact ⟨⟨ρ', v', rfl, hv'⟩, hmv.os, hmv.tape, hmv.output, hmv.size, fun k hk => hmv.frm k hk fun ⟨a, o, s, e1, _⟩ => by cases e1⟩
/-- one more function of which it is told -/
def Told.also (C : Told) (g : FuncId) (spec : List Value → Option Value) : Told := fun f => cond (Nat.beq f g) (some ⟨fun args st => match spec args with
  | some v => .ok (.returned v, st)
  | none => .er "told", fun args st K => optK (spec args) fun v => K (.returned v) st, fun args st K h => by
    obtain ⟨v, h1, h2⟩ := optK_elim h
    exact ⟨_, _, by simp only [h1], h2⟩⟩) (C f)
theorem Told.also_ok {P : Program} {C : Told} {g : FuncId} {spec : List Value → Option Value} (hC : ToldS P C)
    (h : ∀ args v, spec args = some v → args.all scalar = true ∧ scalar v = true ∧ ∀ (w : World) (args' : Array Value), VRG w args args'.toList → Calls P g args' w fun e w' => (∃ ρ' v', e = .returned v' ∧ VR ρ' v v') ∧ RowKit.Below w.heap.size w w') :
    ToldS P (C.also g spec) := by
  intro f c hc args st r st' hwf hr
  unfold Told.also at hc
  cases hb : Nat.beq f g with
  | false => rw [hb] at hc; exact hC f c hc args st r st' hwf hr
  | true =>
    rw [hb] at hc
    have := Nat.eq_of_beq_eq_true hb
    subst this
    simp only [cond_true, Option.some.injEq] at hc
    subst hc
    simp only at hr
    split at hr
    · rename_i v hv
      cases hr
      obtain ⟨h1, h2, h3⟩ := h args v hv
      refine ⟨LoS.refl _, fun ρ w args' ha hw hf => (h3 w args' ⟨ha.scalar h1, hw.glA⟩).mono fun e w' he => ?_⟩
      obtain ⟨⟨ρ', v', rfl, hv'⟩, hb⟩ := he
      exact ⟨ρ, ⟨v', rfl, VR.scalar h2 hv'⟩, Mv.below hw _ hb⟩
    · cases hr
def noTold : Told := fun _ => none
theorem noTold_ok (P : Program) : ToldS P noTold := fun g c h => by cases h
theorem br_true {b : Bool} {K1 K2 : Prop} (h1 : b = true → K1) (h2 : b = false → K2) : br b K1 K2 := br_of h1 h2
end Go.Proofs.YtpogcoolgnjejaaGreatDoor.Ev
