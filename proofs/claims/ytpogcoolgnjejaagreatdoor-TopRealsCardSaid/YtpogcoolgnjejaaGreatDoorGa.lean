/-
  An evaluator of the program's code over memory that is named by numbers of its own: what it answers is what every run answers (XEvS).
-/
import Derived.Test.YtpogcoolgnjejaaGreatDoorRows
import Derived.Below
import Derived.ProofKit
import Derived.WalkKit
set_option linter.unusedVariables false
namespace Go.Proofs.YtpogcoolgnjejaaGreatDoor.Ev
open Go

/-- what it says: an answer, or why there is none -/
inductive Rs (α : Type) where
  | ok (a : α)
  | er (why : String) (place : String := "")

def Rs.bnd {α β : Type} (x : Rs α) (f : α → Rs β) : Rs β := match x with
  | .ok a => f a
  | .er s p => .er s p
def Rs.of {α : Type} (why : String) (x : Option α) : Rs α := match x with
  | some a => .ok a
  | none => .er why

/-! ### a table by numbers -/
inductive Tr (α : Type) where
  | leaf
  | node (v : Option α) (l r : Tr α)
def Tr.get {α : Type} : Tr α → Nat → Option α
  | .leaf, _ => none
  | .node v l r, k => cond (Nat.beq k 0) v (cond (Nat.beq (k % 2) 1) (l.get (k / 2)) (r.get (k / 2 - 1)))
def Tr.put {α : Type} : Nat → Tr α → Nat → Option α → Tr α
  | 0, t, _, _ => t
  | f + 1, .leaf, k, x => cond (Nat.beq k 0) (.node x .leaf .leaf) (cond (Nat.beq (k % 2) 1) (.node none (Tr.put f .leaf (k / 2) x) .leaf) (.node none .leaf (Tr.put f .leaf (k / 2 - 1) x)))
  | f + 1, .node v l r, k, x => cond (Nat.beq k 0) (.node x l r) (cond (Nat.beq (k % 2) 1) (.node v (Tr.put f l (k / 2) x) r) (.node v l (Tr.put f r (k / 2 - 1) x)))

def Tr.set {α : Type} (t : Tr α) (k : Nat) (x : Option α) : Tr α := Tr.put (Nat.log2 k + 2) t k x

/-! ### values -/
def nanB (k : FloatKind) (b : Nat) : Bool := (k.format.order b b).isNone
/-- no address in it, and nothing that is left open -/
def ground : Nat → Value → Bool
  | _, .float k b => !(nanB k b)
  | _, .bool _ | _, .int .. | _, .string _ | _, .pointer none | _, .slice none 0 0 | _, .map none | _, .nilFunc | _, .nilIface => true
  | n + 1, .iface _ v => ground n v
  | n + 1, .agg vs | n + 1, .tuple vs => vs.toList.all (ground n)
  | n + 1, .func _ a b => a.toList.all (ground n) && b.toList.all (ground n)
  | _, _ => false

/-- told to the bit -/
def refl1 : Value → Bool
  | .float _ _ => true
  | v => ground 1 v

/-- the value of one cell -/
def oneC : Value → Bool
  | .agg _ | .tuple _ | .chan _ => false
  | _ => true

/-! ### memory -/
/-- of which nothing is said -/
def bad0 : Value := .chan none
/-- what a cell of a row is: a value without an address, or a slice that is only read: n elements of es cells each; c: 1 where one of none is nil -/
inductive Td where
  | sc (x : Value)
  | fr (es n c : Nat) (elem : Nat → Nat → Td)
/-- may a row be written; if not, is it written no more by anyone? -/
inductive Rk where
  | mine
  | look
  | still
/-- of which kind keys are: numbers, strings, structs of numbers -/
inductive Kk where
  | i (k : IntKind)
  | s
  | is (l : List IntKind)
/-- of which kind what stands under keys is -/
inductive Vk where
  | b
  | i (k : IntKind)
def fitL : List IntKind → List Value → Bool
  | [], [] => true
  | k :: l, .int k' _ :: vs => decide (k = k') && fitL l vs
  | _, _ => false
def keyFit : Kk → Value → Bool
  | .i k, .int k' _ => decide (k = k')
  | .s, .string _ => true
  | .is l, .agg vs => fitL l vs.toList
  | _, _ => false
def valFit : Vk → Value → Bool
  | .b, .bool _ => true
  | .i k, .int k' _ => decide (k = k')
  | _, _ => false
def keyBL : List Value → List Value → Bool
  | .int _ a :: l, .int _ b :: m => (a == b) && keyBL l m
  | _, _ => true
/-- are two keys one? -/
def keyB : Value → Value → Bool
  | .int _ a, .int _ b => a == b
  | .string a, .string b => a == b
  | .agg a, .agg b => keyBL a.toList b.toList
  | _, _ => false
def hasK (k : Value) : List (Value × Value) → Bool
  | [] => false
  | p :: l => keyB k p.1 || hasK k l
def getK (k z : Value) : List (Value × Value) → Value
  | [] => z
  | p :: l => cond (keyB k p.1) p.2 (getK k z l)
def putK (k v : Value) : List (Value × Value) → List (Value × Value)
  | [] => [(k, v)]
  | p :: l => cond (keyB k p.1) ((k, v) :: l) (p :: putK k v l)
def boolV : Value → Bool
  | .bool b => b
  | _ => false
def intV : Value → Int
  | .int _ n => n
  | _ => 0
inductive AObj where
  | cells (cs : List Value) (ex : Bool) (es : Nat)
  /-- cells that are written no more -/
  | old (cs : List Value) (ex : Bool) (es : Nat)
  /-- elements of es cells each; known: those from lo on, below n -/
  | row (k : Rk) (es lo n : Nat) (elem : Nat → Nat → Td)
  | map (es : List MapEntry) (clock : Nat)
  /-- a map of which all may be open -/
  | omap (kk : Kk) (vk : Vk) (es : List (Value × Value))
  | iter (s : ByteArray) (pos : Nat)
structure ASt where
  next : Nat
  h : Tr AObj
  lo : Nat
structure ADef where
  fn : Fn
  cap : List Value
  args : List Value
structure AFr where
  n : Nat
  tmps : Tr Value
  defers : List ADef
def AFr.put (f : AFr) (d : Option Nat) (v : Value) : AFr := match d with
  | some d => cond (Nat.blt d f.n) ⟨f.n, f.tmps.set d (some v), f.defers⟩ f
  | none => f
/-- of which nothing is said -/
def bad : Value := .chan none
def AFr.tmp (f : AFr) (t : Nat) : Value := match f.tmps.get t with
  | some v => v
  | none => bad
def AFr.ev (f : AFr) : Operand → Value
  | .tmp t => f.tmp t
  | .const v => cond (ground 3 v) v bad
  | .global _ => bad
  | .func f => .func (.func f) #[] #[]

def ASt.new (st : ASt) (o : AObj) : ASt := ⟨st.next + 1, st.h.set st.next (some o), st.lo⟩
def maxN (a b : Nat) : Nat := cond (Nat.ble a b) b a
def minN (a b : Nat) : Nat := cond (Nat.ble a b) a b
def ASt.set (st : ASt) (a : Nat) (o : Option AObj) : ASt := ⟨st.next, st.h.set a o, minN st.lo a⟩

def takeL : Nat → List Value → Option (List Value)
  | 0, _ => some []
  | n + 1, v :: l => match takeL n l with
    | some r => some (v :: r)
    | none => none
  | _ + 1, [] => none
def dropL : Nat → List Value → List Value
  | 0, l => l
  | n + 1, _ :: l => dropL n l
  | _ + 1, [] => []
/-- vs in the place of what stands at off -/
def layL : Nat → List Value → List Value → Option (List Value)
  | _, [], l => some l
  | 0, v :: vs, _ :: l => match layL 0 vs l with
    | some r => some (v :: r)
    | none => none
  | n + 1, vs, x :: l => match layL n vs l with
    | some r => some (x :: r)
    | none => none
  | _, _ :: _, [] => none

/-- of two values the one that a truth tells, told by what they have in common -/
def sameKd : IntKind → IntKind → Bool
  | .i64, .i64 | .u8, .u8 | .i32, .i32 | .u64, .u64 | .u32, .u32 | .i16, .i16 | .u16, .u16 | .i8, .i8 => true
  | _, _ => false
def sameFk : FloatKind → FloatKind → Bool
  | .f32, .f32 | .f64, .f64 => true
  | _, _ => false
def mrgV (b : Bool) (v w : Value) : Value := match v, w with
  | .int k n, .int k' m => cond (sameKd k k') (.int k (cond b n m)) bad0
  | .bool p, .bool q => .bool (cond b p q)
  | .float k x, .float k' y => cond (sameFk k k') (.float k (cond b x y)) bad0
  | .string p, .string q => .string (cond b p q)
  | v, w => cond b v w
def mrgL (b : Bool) : List Value → List Value → List Value
  | v :: l, w :: m => mrgV b v w :: mrgL b l m
  | [], [] => []
  | [], w :: m => cond b [] (w :: m)
  | v :: l, [] => cond b (v :: l) []
/-- of which nothing is said -/
def noT (_ _ : Nat) : Td := .sc bad0
/-- may two slices be told as one? -/
def sameEs (es n es' n' : Nat) : Bool := Nat.beq es es' || (Nat.beq es 0 && Nat.beq n 0) || (Nat.beq es' 0 && Nat.beq n' 0)
def mrgT (b : Bool) : Td → Td → Td
  | .sc x, .sc y => .sc (mrgV b x y)
  | .fr es n c e, .fr es' n' c' e' => cond (sameEs es n es' n') (.fr (cond (Nat.beq es 0) es' es) (cond b n n') (cond b c c') fun i j => mrgT b (e i j) (e' i j)) (cond b (.fr es n c e) (.fr es' n' c' e'))
  | t, u => cond b t u
/-- cells from off on -/
def cellsT (e : Nat → Td) : Nat → Nat → List Td
  | _, 0 => []
  | off, n + 1 => e off :: cellsT e (off + 1) n
def nthT : List Td → Nat → Td
  | [], _ => .sc bad0
  | t :: _, 0 => t
  | _ :: l, n + 1 => nthT l n
def takeT : Nat → List Td → List Td
  | 0, _ => []
  | n + 1, t :: l => t :: takeT n l
  | _ + 1, [] => []
def dropT : Nat → List Td → List Td
  | 0, l => l
  | n + 1, _ :: l => dropT n l
  | _ + 1, [] => []
/-- the i-th of cells laid es at a time -/
def selT (es : Nat) : Nat → List Td → Nat → Nat → Td
  | 0, _, _, _ => .sc bad0
  | 1, ts, _, j => nthT ts j
  | n + 1, ts, i, j => mrgT (Nat.beq i 0) (nthT ts j) (selT es n (dropT es ts) (i - 1) j)
/-- cells in the place of what stands from off on -/
def layT (off : Nat) (ts : List Td) (e : Nat → Td) (j : Nat) : Td := cond (Nat.ble off j && Nat.blt j (off + ts.length)) (nthT ts (j - off)) (e j)
def putT (i off : Nat) (ts : List Td) (elem : Nat → Nat → Td) (k j : Nat) : Td := cond (Nat.ble off j && Nat.blt j (off + ts.length)) (mrgT (Nat.beq k i) (nthT ts (j - off)) (elem k j)) (elem k j)
/-- some elements of a row, one behind the other -/
def rowsT (es : Nat) (elem : Nat → Nat → Td) : Nat → Nat → List Td
  | _, 0 => []
  | i, c + 1 => cellsT (elem i) 0 es ++ rowsT es elem (i + 1) c
/-- what is looked at gets a number of its own -/
def seeT : List Td → ASt → List Value × ASt
  | [], st => ([], st)
  | .sc x :: l, st => match seeT l st with
    | (vs, st') => (x :: vs, st')
  | .fr es n c e :: l, st => match seeT l (st.new (.row .still es 0 n e)) with
    | (vs, st') => (.slice (some ⟨st.next, 0, some 0⟩) n c :: vs, st')
def ASt.readC (st : ASt) (a : Addr) (n : Nat) : Rs (List Value) := match st.h.get a.block with
  | some (.cells cs _ _) => match a.spot with
    | none => Rs.of "read" (takeL n (dropL a.off cs))
    | some _ => .er "spot"
  | some (.old cs _ _) => match a.spot with
    | none => Rs.of "read" (takeL n (dropL a.off cs))
    | some _ => .er "spot"
  | _ => .er "read: no cells"
def ASt.readT (st : ASt) (a : Addr) (n : Nat) : Rs (List Td) := match st.h.get a.block with
  | some (.row _ es lo m elem) => match a.spot with
    | some i => cond (Nat.beq a.off 0 && Nat.blt es n) (cond (Nat.ble lo i && Nat.ble (i + n / es) m && Nat.beq (n / es * es) n) (.ok (rowsT es elem i (n / es))) (.er "read: beyond"))
      (cond (Nat.ble (a.off + n) es) (cond (Nat.ble lo i && Nat.blt i m) (.ok (cellsT (elem i) a.off n)) (.er "read: beyond")) (.er "read: element"))
    | none => .er "spot"
  | _ => .er "read: no row"
def isRow (o : Option AObj) : Bool := match o with
  | some (.row ..) => true
  | _ => false
def ASt.read (st : ASt) (a : Addr) (n : Nat) : Rs (List Value × ASt) := cond (isRow (st.h.get a.block)) ((st.readT a n).bnd fun ts => .ok (seeT ts st)) ((st.readC a n).bnd fun l => .ok (l, st))
/-- of an object no more is written -/
def froze (st : ASt) (b : Nat) : Rs ASt := match st.h.get b with
  | some (.row .mine es lo n e) => .ok ⟨st.next + 1, st.h.set b (some (.row .still es lo n e)), minN st.lo b⟩
  | some (.row .still ..) => .ok st
  | some (.cells cs ex es) => .ok ⟨st.next + 1, st.h.set b (some (.old cs ex es)), minN st.lo b⟩
  | some (.old ..) => .ok st
  | _ => .er "froze"
def scalT (v : Value) : Bool := match v with
  | .float .. => true
  | v => ground 3 v && oneC v
def toTs (g : Value → ASt → Rs (Td × ASt)) : List Value → ASt → Rs (List Td × ASt)
  | [], st => .ok ([], st)
  | v :: l, st => (g v st).bnd fun r => match r with
    | (t, st1) => (toTs g l st1).bnd fun q => match q with
      | (ts, st2) => .ok (t :: ts, st2)
def cellsO (o : Option AObj) : Option (List Value × Nat) := match o with
  | some (.cells cs _ es) => some (cs, es)
  | some (.old cs _ es) => some (cs, es)
  | _ => none
/-- a value as what is told of a cell; what it leads to is written no more -/
def toT : Nat → Value → ASt → Rs (Td × ASt)
  | 0, _, _ => .er "toT"
  | f + 1, v, st => match v with
    | .slice none 0 0 => .ok (.fr 0 0 1 noT, st)
    | .slice (some ⟨b, 0, some i0⟩) n c => match st.h.get b with
      | some (.row _ es lo m g) => cond (Nat.ble lo i0 && Nat.ble (i0 + n) m) ((froze st b).bnd fun st' => .ok (.fr es n c fun i => g (i0 + i), st')) (.er "toT: beyond")
      | _ => .er "toT: row"
    | .slice (some ⟨b, o, none⟩) n _ => match cellsO (st.h.get b) with
      | some (cs, es) => cond ((Nat.blt 0 es || Nat.beq n 0) && Nat.ble (o + n * es) cs.length) ((Rs.of "toT" (takeL (n * es) (dropL o cs))).bnd fun l => (toTs (toT f) l st).bnd fun r => match r with
        | (ts, st1) => (froze st1 b).bnd fun st' => .ok (.fr es n 0 (selT es n ts), st')) (.er "toT: cells")
      | none => .er "toT: cells"
    | v => cond (scalT v) (.ok (.sc v, st)) (.er "toT: value")
/-- a made row: what its cells are; which are made as rows -/
def zT (v : Value) : Td := match v with
  | .slice none 0 0 => .fr 0 0 1 noT
  | v => .sc v
def zOk (v : Value) : Bool := match v with
  | .slice none 0 0 => true
  | v => scalT v
/-- are made slices told by their cells? -/
def mkC : Bool := !(([1] : List Nat).isEmpty)
def rowMk (c : Operand) : Bool := match c with
  | .const _ => false
  | _ => !mkC
def ASt.writeR (st : ASt) (a : Addr) (ts : List Td) : Rs ASt := match st.h.get a.block with
  | some (.row .mine es lo n elem) => match a.spot with
    | some i => cond (Nat.ble (a.off + ts.length) es) (cond (Nat.blt i n) (.ok (st.set a.block (some (.row .mine es lo n (putT i a.off ts elem))))) (.er "write: beyond")) (.er "write: element")
    | none => .er "write: spot"
  | _ => .er "write: no row"
def ASt.writeC (st : ASt) (a : Addr) (vs : List Value) : Rs ASt := match st.h.get a.block with
  | some (.cells cs ex es) => match a.spot, layL a.off vs cs with
    | none, some cs' => cond (vs.all oneC) (.ok (st.set a.block (some (.cells cs' ex es)))) (.er "write: values")
    | _, _ => .er "write"
  | _ => .er "write: no cells"
def ASt.write (st : ASt) (a : Addr) (vs : List Value) : Rs ASt := cond (isRow (st.h.get a.block)) ((toTs (toT 4) vs st).bnd fun r => match r with
    | (ts, st1) => st1.writeR a ts) (st.writeC a vs)

/-! ### what an operation comes to -/
inductive AN where
  | val (v : Value) (st : ASt)
  | enter (f : FuncId) (args : List Value)
  | defer (d : ADef)
  | panic (v : Value)

inductive Pr (α : Type) where
  | ok (a : α)
  | panic (v : Value)
  | no
def pureRun {α : Type} (P : Program) : Sem α → Pr α
  | .pure a => .ok a
  | .program k => pureRun P (k P)
  | .mark _ k => pureRun P k
  | .halt (.panic v) => .panic v
  | _ => .no

def zeroL (P : Program) (t : TypeId) : Rs (List Value) := match (P.info? t) with
  | some i => match i.zero with
    | some z => cond (z.cells.toList.all (ground 2)) (.ok z.cells.toList) (.er "zero: ground")
    | none => .er "zero"
  | none => .er "zero"
def zeroV (P : Program) (t : TypeId) : Rs Value := match (P.info? t) with
  | some i => match i.zero with
    | some z => cond (ground 3 z) (.ok z) (.er "zero: ground")
    | none => .er "zero"
  | none => .er "zero"
def sizeL (P : Program) (t : TypeId) : Rs Nat := match P.info? t with
  | some i => .ok i.size
  | none => .er "size"
def bytesL (P : Program) (t : TypeId) : Rs Nat := match P.info? t with
  | some i => .ok i.bytes
  | none => .er "bytes"
def undL (P : Program) (t : TypeId) : Rs TypeDesc := match P.underlying t with
  | some d => .ok d
  | none => .er "und"
def aggL (P : Program) (t : TypeId) : Rs Bool := (undL P t).bnd fun d => match d with
  | .struct _ | .array _ _ => .ok true
  | _ => .ok false
def shutL (P : Program) (t : TypeId) (cs : List Value) : Rs Value := (aggL P t).bnd fun b => match b, cs with
  | true, cs => .ok (.agg cs.toArray)
  | false, [v] => .ok v
  | false, _ => .er "shut"
def partL (P : Program) (t : TypeId) (cs : List Value) (off : Nat) : Rs Value :=
  (sizeL P t).bnd fun n => (Rs.of "part" (takeL n (dropL off cs))).bnd fun l => shutL P t l
def cellsL (v : Value) : List Value := match v with
  | .agg cs => cs.toList
  | v => [v]
def repL (z : List Value) : Nat → List Value
  | 0 => []
  | n + 1 => z ++ repL z n

def fieldOf (P : Program) (s : TypeId) (f : Nat) : Rs Field := (undL P s).bnd fun d => match d with
  | .struct fields => Rs.of "field" (fields.toList[f]?)
  | _ => .er "field: struct"

/-- against nil -/
def aNil (d : TypeDesc) (x y : Value) : Option Bool := match d, x, y with
  | .slice _, .slice none _ _, .slice none _ _ => some true
  | .slice _, .slice none _ _, .slice (some ⟨_, _, none⟩) _ _ => some false
  | .slice _, .slice none _ _, .slice (some ⟨_, 0, some _⟩) n c => some (Nat.beq n 0 && Nat.beq c 1)
  | .slice _, .slice (some ⟨_, _, none⟩) _ _, .slice none _ _ => some false
  | .slice _, .slice (some ⟨_, 0, some _⟩) n c, .slice none _ _ => some (Nat.beq n 0 && Nat.beq c 1)
  | .map _ _, .map none, .map b => some b.isNone
  | .map _ _, .map (some _), .map none => some false
  | .pointer _, .pointer none, .pointer b => some b.isNone
  | .pointer _, .pointer (some _), .pointer none => some false
  | .interface _, .nilIface, .iface _ _ => some false
  | .interface _, .iface _ _, .nilIface => some false
  | .func _ _ _, .nilFunc, .func _ _ _ => some false
  | .func _ _ _, .func _ _ _, .nilFunc => some false
  | _, _, _ => none
def isEq (op : BinOp) : Option Bool := match op with
  | .eql => some true
  | .neq => some false
  | _ => none
def aStr (op : BinOp) (a b : ByteArray) : Option Value := match op with
  | .add => cond (Nat.ble (a.size + b.size) 1000000000) (some (.string ⟨(a.data.toList ++ b.data.toList).toArray⟩)) none
  | .eql => some (.bool (a.data.toList == b.data.toList))
  | .neq => some (.bool (!(a.data.toList == b.data.toList)))
  | .lss => some (.bool (Op.bytesLess a.data.toList b.data.toList))
  | .leq => some (.bool (Op.bytesLess a.data.toList b.data.toList || a.data.toList == b.data.toList))
  | .gtr => some (.bool (!(Op.bytesLess a.data.toList b.data.toList || a.data.toList == b.data.toList)))
  | .geq => some (.bool (!(Op.bytesLess a.data.toList b.data.toList)))
  | _ => none
def aBin (P : Program) (op : BinOp) (t : TypeId) (xo yo : Operand) (x y : Value) : Rs (Pr Value) := match x, y with
  | .string a, .string b => match aStr op a b with
    | some v => .ok (.ok v)
    | none => .er "string op"
  | x, y => cond (ground 4 x && ground 4 y)
    (match pureRun P (do eqGuard op t xo yo x y; binOp op t x y) with
      | .ok v => cond (refl1 v) (.ok (.ok v)) (.er "bin: nan")
      | .panic v => cond (ground 3 v) (.ok (.panic v)) (.er "bin: panic")
      | .no => .er "bin")
    (match isEq op with
      | some q => (undL P t).bnd fun d => match aNil d x y with
        | some b => .ok (.ok (.bool (b == q)))
        | none => .er "eq"
      | none => .er "bin: ground")

/-- a number that is none -/
def qnan : FloatKind → Nat
  | .f32 => 2143289344
  | .f64 => 9221120237041090560
def sameF : FloatKind → FloatKind → Bool
  | .f32, .f32 | .f64, .f64 => true
  | _, _ => false
def arithF (k : FloatKind) (op : BinOp) (a b : Nat) : Option (Option Nat) := match op with
  | .add => some (k.format.add a b)
  | .sub => some (k.format.sub a b)
  | .mul => some (k.format.mul a b)
  | .quo => some (k.format.div a b)
  | _ => none
/-- of two floating-point numbers, where there is one that is none, and arithmetic -/
def aFloat (op : BinOp) (x y : Value) : Option Value := match x, y with
  | .float k a, .float k' b => cond (sameF k k')
    (cond (nanB k a || nanB k b)
      (match op with
        | .add | .sub | .mul | .quo => some (.float k (qnan k))
        | .eql | .lss | .leq | .gtr | .geq => some (.bool false)
        | .neq => some (.bool true)
        | _ => none)
      (match arithF k op a b with
        | some none => some (.float k (qnan k))
        | some (some r) => some (.float k r)
        | none => none)) none
  | _, _ => none

/-- a floating-point number with its sign turned -/
def aNegF (op : UnOp) (x : Value) : Option Value := match op, x with
  | .neg, .float .f64 a => some (cond (nanB .f64 a) (.float .f64 (qnan .f64)) (.float .f64 (Op.negFloat .f64 a)))
  | _, _ => none
def boundL (x : Option Value) (dflt : Nat) (most : Nat) : Rs Nat := match x with
  | none => .ok dflt
  | some (.int _ (.ofNat i)) => cond (Nat.ble i most) (.ok i) (.er "bound")
  | _ => .er "bound"

def aSlice (P : Program) (st : ASt) (t : TypeId) (x : Value) (lo hi : Option Value) : Rs Value := (undL P t).bnd fun d => match d, x with
  | .string, .string s => (boundL hi s.size s.size).bnd fun h => (boundL lo 0 h).bnd fun l => .ok (.string ⟨((s.data.toList.take h).drop l).toArray⟩)
  | .slice elem, .slice none 0 0 => (boundL hi 0 0).bnd fun _ => (boundL lo 0 0).bnd fun _ => (sizeL P elem).bnd fun _ => .ok (.slice none 0 0)
  | .slice elem, .slice (some ⟨b0, o0, none⟩) len cap => (boundL hi len cap).bnd fun h => (boundL lo 0 h).bnd fun l => (sizeL P elem).bnd fun s => match st.h.get b0 with
    | some (.cells _ true _) => .ok (.slice (some (cond (Nat.beq cap l) ⟨b0, o0, none⟩ ((⟨b0, o0, none⟩ : Addr).add (l * s)))) (h - l) (cap - l))
    | some (.cells _ false es) => cond (Nat.beq es s) (.ok (.slice (some ((⟨b0, o0, none⟩ : Addr).add (l * s))) (h - l) (cap - l))) (.er "slice: size")
    | _ => .er "slice: row"
  | .slice elem, .slice (some ⟨b0, 0, some i0⟩) len cap => (boundL hi len len).bnd fun h => (boundL lo 0 h).bnd fun l => (sizeL P elem).bnd fun s => match st.h.get b0 with
    | some (.row _ es _ _ _) => cond (Nat.beq es s) (.ok (.slice (some ⟨b0, 0, some (i0 + l)⟩) (h - l) (cond (Nat.beq len 0) cap 0))) (.er "slice: size")
    | _ => .er "slice: row"
  | _, _ => .er "slice"

/-- the cells of what is appended, or copied -/
def firstL (st : ASt) (size : Nat) (x : Value) : Rs (Nat × List Value) := match x with
  | .slice none _ _ => .ok (0, [])
  | .slice (some a) n _ => (st.readC a (n * size)).bnd fun l => .ok (n, l)
  | .string s => cond (Nat.beq size 1) (.ok (s.size, s.data.toList.map fun b => .int .u8 b.toNat)) (.er "first: string")
  | _ => .er "first"

/-- the cells of what append takes in -/
def newsL (P : Program) (st : ASt) (d2 : TypeDesc) (elem : TypeId) (size : Nat) (x : Value) : Rs (Nat × List Value) := match d2 with
  | .int _ => match x with
    | .int _ (.ofNat n) => cond (Nat.ble n 1000000) ((zeroL P elem).bnd fun z => .ok (n, repL z n)) (.er "append of make: long")
    | _ => .er "append of make"
  | _ => firstL st size x
def aAppendC (P : Program) (st : ASt) (ts : List TypeId) (args : List Value) : Rs AN := match ts, args with
  | t :: t2 :: _, [s, x] => (undL P t).bnd fun d => (undL P t2).bnd fun d2 => match d, s with
    | .slice elem, .slice base len cap => (sizeL P elem).bnd fun size => (bytesL P elem).bnd fun by_ => (zeroL P elem).bnd fun z => (newsL P st d2 elem size x).bnd fun nn =>
      cond (Nat.ble (len + nn.1) 1000000 && Nat.ble by_ 1000000 && Nat.beq z.length size)
      (cond (Nat.ble (len + nn.1) cap)
        (match base with
          | none => .ok (.val (.slice none len cap) st)
          | some ⟨b0, o0, none⟩ => (st.writeC ((⟨b0, o0, none⟩ : Addr).add (len * size)) nn.2).bnd fun st' => .ok (.val (.slice (some ⟨b0, o0, none⟩) (len + nn.1) cap) st')
          | some _ => .er "append: row")
        (match base with
          | none => .ok (.val (.slice (some ⟨st.next, 0, none⟩) nn.1 nn.1) (st.new (.cells nn.2 false size)))
          | some ⟨b0, o0, none⟩ => (st.readC ⟨b0, o0, none⟩ (len * size)).bnd fun old => match st.h.get b0 with
            | some (.cells _ true _) => .ok (.val (.slice (some ⟨st.next, 0, none⟩) (len + nn.1) (len + nn.1)) (st.new (.cells (old ++ nn.2) false size)))
            | some (.cells _ false es) => cond (Nat.beq es size && nn.2.all oneC) (.ok (.val (.slice (some ⟨st.next, 0, none⟩) (len + nn.1) (len + nn.1)) ((st.set b0 none).new (.cells (old ++ nn.2) false size)))) (.er "append: size")
            | _ => .er "append: row"
          | some _ => .er "append: row")) (.er "append: too long")
    | _, _ => .er "append"
  | _, _ => .er "append"
/-- a byte of a string -/
def strB (s : ByteArray) (i : Nat) : Nat := (s.data.toList.getD i 0).toNat
/-- what is appended, as elements -/
def srcF (P : Program) (st : ASt) (d2 : TypeDesc) (elem : TypeId) (size : Nat) (x : Value) : Rs (Nat × (Nat → Nat → Td) × ASt) := match x with
  | .int _ (.ofNat n) => match d2 with
    | .int _ => cond (Nat.ble n 1000000) ((zeroL P elem).bnd fun z => cond (z.all zOk) (.ok (n, (fun _ j => nthT (z.map zT) j), st)) (.er "append of make: zeros")) (.er "append of make: long")
    | _ => .er "append of make: type"
  | .slice (some ⟨b0, 0, some i0⟩) n _ => match d2, st.h.get b0 with
    | .slice _, some (.row _ es lo m g) => cond (Nat.beq es size || Nat.beq n 0) (cond (Nat.ble lo i0 && Nat.ble (i0 + n) m) (.ok (n, (fun j => g (i0 + j)), st)) (.er "append: beyond")) (.er "append: size")
    | _, _ => .er "append: row"
  | .string s => match d2 with
    | .string => cond (Nat.beq size 1) (.ok (s.size, (fun i _ => .sc (.int .u8 (Int.ofNat (strB s i)))), st)) (.er "append: string")
    | _ => .er "append: string"
  | x => (newsL P st d2 elem size x).bnd fun r => match r with
    | (n, l) => (toTs (toT 4) l st).bnd fun q => match q with
      | (ts, st1) => .ok (n, selT size n ts, st1)
/-- elements of which nothing is kept: of some types -/
def dtB : List Nat := [80]
def srcD (P : Program) (st : ASt) (d2 : TypeDesc) (elem : TypeId) (size : Nat) (x : Value) : Rs (Nat × (Nat → Nat → Td) × ASt) := (newsL P st d2 elem size x).bnd fun r => cond (r.2.all oneC) (.ok (r.1, (fun _ _ => .sc bad), st)) (.er "append: dust")
def dustB (elem : TypeId) : Bool := dtB.any fun t => Nat.beq t elem
def srcX (P : Program) (st : ASt) (d2 : TypeDesc) (elem : TypeId) (size : Nat) (x : Value) : Rs (Nat × (Nat → Nat → Td) × ASt) := cond (dustB elem) (srcD P st d2 elem size x) (srcF P st d2 elem size x)
/-- behind a row, or of one -/
def aAppendR (st : ASt) (size : Nat) (s : Value) (n : Nat) (f : Nat → Nat → Td) : Rs AN := match s with
  | .slice none 0 0 => .ok (.val (.slice (some ⟨st.next, 0, some 0⟩) n 1) (st.new (.row .mine size 0 n f)))
  | .slice (some ⟨b0, _, none⟩) 0 0 => match st.h.get b0 with
    | some (.cells _ true _) => .ok (.val (.slice (some ⟨st.next, 0, some 0⟩) n 0) (st.new (.row .mine size 0 n f)))
    | _ => .er "append: to cells"
  | .slice (some ⟨b0, 0, some i0⟩) len c => match st.h.get b0 with
    | some (.row .mine es lo m g) => cond (Nat.beq es size) (cond (Nat.ble lo i0 && Nat.ble (i0 + len) m) (.ok (.val (.slice (some ⟨st.next, 0, some 0⟩) (len + n) c)
        ((st.set b0 none).new (.row .mine size 0 (len + n) fun j k => mrgT (Nat.blt j len) (g (i0 + j) k) (f (j - len) k))))) (.er "append: beyond")) (.er "append: size")
    | _ => .er "append: to row"
  | _ => .er "append: to"
/-- cells, turned into a row -/
def turnC (st : ASt) (b0 o size len : Nat) (cs : List Value) : ASt := (st.set b0 none).new (.row .mine size 0 len (selT size len (dropT o (cs.map .sc))))
def turnOk (o size len c es : Nat) (ex : Bool) (cs : List Value) : Bool := (ex || Nat.beq es size) && Nat.ble len c && Nat.ble (o + c * size) cs.length && cs.all scalT
/-- behind a row, or cells that become one -/
def aAppendQ (st : ASt) (size : Nat) (s : Value) (n : Nat) (f : Nat → Nat → Td) : Rs AN := match s with
  | .slice (some ⟨b0, o, none⟩) len c => match st.h.get b0 with
    | some (.cells cs ex es) => cond (Nat.blt 0 len) (cond (turnOk o size len c es ex cs) (aAppendR (turnC st b0 o size len cs) size (.slice (some ⟨st.next, 0, some 0⟩) len c) n f) (.er "append: to cells (turn)"))
      (aAppendR st size (.slice (some ⟨b0, o, none⟩) len c) n f)
    | _ => aAppendR st size (.slice (some ⟨b0, o, none⟩) len c) n f
  | s => aAppendR st size s n f
def isRowV : Value → Bool
  | .slice (some ⟨_, _, some _⟩) _ _ => true
  | _ => false
/-- which appends are of rows: those with a row, and what is made behind nothing -/
def isRowA (s x : Value) : Bool := isRowV s || isRowV x || (match s, x with
  | .slice none 0 0, .int _ _ => !mkC
  | _, _ => false)
def aAppend (P : Program) (st : ASt) (ts : List TypeId) (args : List Value) : Rs AN := match ts, args with
  | t :: t2 :: ts', [s, x] => cond (isRowA s x)
    ((undL P t).bnd fun d => (undL P t2).bnd fun d2 => match d with
      | .slice elem => (sizeL P elem).bnd fun size => (bytesL P elem).bnd fun by_ => (zeroL P elem).bnd fun z => (srcX P st d2 elem size x).bnd fun nf => match s with
        | .slice _ len _ => cond (Nat.ble by_ 1000000 && Nat.beq z.length size) (cond (Nat.ble (len + nf.1) 1000000) (aAppendQ nf.2.2 size s nf.1 nf.2.1) (.er "append: too long")) (.er "append: type")
        | _ => .er "append"
      | _ => .er "append")
    (aAppendC P st (t :: t2 :: ts') [s, x])
  | _, _ => .er "append"

def aCap (st : ASt) (x : Value) : Rs Value := match x with
  | .slice none 0 0 => .ok (.int .i64 0)
  | .slice (some ⟨b0, _, none⟩) _ c => match st.h.get b0 with
    | some (.cells _ true _) => .ok (.int .i64 c)
    | _ => .er "cap"
  | _ => .er "cap"
def aLen (P : Program) (st : ASt) (t : TypeId) (x : Value) : Rs Value := (undL P t).bnd fun d => match d, x with
  | .string, .string s => .ok (.int .i64 s.size)
  | .slice _, .slice _ n _ => .ok (.int .i64 n)
  | .map _ _, .map none => .ok (.int .i64 0)
  | .map _ _, .map (some r) => match st.h.get r with
    | some (.map es _) => .ok (.int .i64 es.length)
    | _ => .er "len: map"
  | .array n _, _ => .ok (.int .i64 n)
  | _, _ => .er "len"

/-- of two floating-point numbers the greater, the less -/
def mmF (mx : Bool) (k : FloatKind) (a b : Nat) : Nat := match k.format.order a b with
  | none => qnan k
  | some .lt => cond mx b a
  | some .gt => cond mx a b
  | some .eq => cond ((k.decode a).neg == mx) b a
/-- cells behind others' place -/
def aCopy (P : Program) (st : ASt) (t : TypeId) (base : Option Addr) (len : Nat) (b2 : Option Addr) (n2 : Nat) : Rs AN := (undL P t).bnd fun d => match d with
  | .slice elem => (sizeL P elem).bnd fun size => cond (Nat.beq (minN len n2) 0) (.ok (.val (.int .i64 0) st)) (match base, b2 with
    | some ⟨b0, o0, none⟩, some a2 => (st.readC a2 (minN len n2 * size)).bnd fun l => (st.writeC ⟨b0, o0, none⟩ l).bnd fun st' => .ok (.val (.int .i64 (Int.ofNat (minN len n2))) st')
    | _, _ => .er "copy: row")
  | _ => .er "copy: type"
/-- cells made what they are at first -/
def aClear (P : Program) (st : ASt) (t : TypeId) (base : Option Addr) (len : Nat) : Rs AN := (undL P t).bnd fun d => match d with
  | .slice elem => cond (Nat.beq len 0) (.ok (.val undef st)) (match base with
    | some ⟨b0, o0, none⟩ => (zeroL P elem).bnd fun z => (st.writeC ⟨b0, o0, none⟩ (repL z len)).bnd fun st' => .ok (.val undef st')
    | _ => .er "clear: row")
  | _ => .er "clear: type"
def aBuiltin (P : Program) (st : ASt) (b : Builtin) (ts : List TypeId) (args : List Value) : Rs AN := match b, ts, args with
  | .append, ts, args => aAppend P st ts args
  | .len, t :: _, [x] => (aLen P st t x).bnd fun v => .ok (.val v st)
  | .cap, t :: _, [x] => (undL P t).bnd fun d => match d with
    | .slice _ => (aCap st x).bnd fun v => .ok (.val v st)
    | _ => .er "cap"
  | .min, _, [.float k a, .float k' b] => cond (sameF k k') (.ok (.val (.float k (mmF false k a b)) st)) (.er "min")
  | .max, _, [.float k a, .float k' b] => cond (sameF k k') (.ok (.val (.float k (mmF true k a b)) st)) (.er "max")
  | .min, _, x :: rest => cond (ground 1 x && rest.all (ground 1)) (match pureRun P (rest.foldlM Builtin.min2 x) with | .ok v => cond (refl1 v) (.ok (.val v st)) (.er "min") | _ => .er "min") (.er "min")
  | .max, _, x :: rest => cond (ground 1 x && rest.all (ground 1)) (match pureRun P (rest.foldlM Builtin.max2 x) with | .ok v => cond (refl1 v) (.ok (.val v st)) (.er "max") | _ => .er "max") (.er "max")
  | .copy, t :: _, [.slice base len _, .slice b2 n2 _] => aCopy P st t base len b2 n2
  | .clear, t :: _, [.slice base len _] => aClear P st t base len
  | _, _, _ => .er "builtin"

def bytesOf : List Value → Rs (List UInt8)
  | [] => .ok []
  | .int .u8 n :: l => (bytesOf l).bnd fun r => .ok (UInt8.ofNat n.toNat :: r)
  | _ => .er "conv: bytes"
def byteF (t : Td) : UInt8 := match t with
  | .sc (.int .u8 x) => UInt8.ofNat x.toNat
  | _ => 0
def isByte (t : Td) : Bool := match t with
  | .sc (.int .u8 _) => true
  | _ => false
def allB (n : Nat) (f : Nat → Nat → Td) : Bool := (List.range n).all fun j => isByte (f j 0)
def strOf (n : Nat) (f : Nat → Nat → Td) : ByteArray := ⟨((List.range n).map fun j => byteF (f j 0)).toArray⟩
def aConv (P : Program) (st : ASt) (src dst : TypeId) (x : Value) : Rs AN := (undL P src).bnd fun s => (undL P dst).bnd fun d => match s, d, x with
  | _, .int k, .int _ n => .ok (.val (.int k (k.wrap n)) st)
  | _, .string, .string b => .ok (.val (.string b) st)
  | _, .slice e, .string b => (undL P e).bnd fun u => match u with
    | .int .u8 => .ok (.val (.slice (some ⟨st.next, 0, none⟩) b.size b.size) (st.new (.cells (b.data.toList.map fun c => .int .u8 c.toNat) false 1)))
    | _ => .er "conv: string to"
  | .slice e, .string, .slice none _ _ => (undL P e).bnd fun u => match u with
    | .int .u8 => .ok (.val (.string ⟨#[]⟩) st)
    | _ => .er "conv: to string"
  | .slice e, .string, .slice (some ⟨b0, o0, none⟩) n _ => (undL P e).bnd fun u => match u with
    | .int .u8 => (st.readC ⟨b0, o0, none⟩ n).bnd fun l => (bytesOf l).bnd fun bs => .ok (.val (.string ⟨bs.toArray⟩) st)
    | _ => .er "conv: to string"
  | .slice e, .string, .slice (some ⟨b0, 0, some i0⟩) n _ => (undL P e).bnd fun u => match u, st.h.get b0 with
    | .int .u8, some (.row _ es lo m g) => cond (Nat.beq es 1) (cond (Nat.ble lo i0 && Nat.ble (i0 + n) m) (cond (allB n fun j => g (i0 + j)) (.ok (.val (.string (strOf n fun j => g (i0 + j))) st)) (.er "conv: bytes")) (.er "conv: beyond")) (.er "conv: size")
    | _, _ => .er "conv: row to string"
  | .slice _, .slice e, .slice (some ⟨b0, o0, none⟩) n c => (undL P e).bnd fun u => match u with
    | .int .u8 => cond (Nat.beq src dst) (match st.h.get b0 with
      | some (.cells cs ex es) => .ok (.val (.slice (some ⟨b0, o0, none⟩) n c) ⟨st.next, st.h, minN st.lo b0⟩)
      | _ => .er "conv: row") (.er "conv: slices")
    | _ => .er "conv: slices"
  | _, _, x => cond (ground 1 x) (match pureRun P (convert src dst x) with | .ok v => cond (refl1 v) (.ok (.val v st)) (.er "conv: nan") | _ => .er "conv") (.er "conv: ground")

def keyEq (P : Program) (kt : TypeId) (k l : Value) : Rs Bool := match pureRun P (Op.equal kt k l) with
  | .ok b => .ok b
  | _ => .er "key"
def findL (P : Program) (kt : TypeId) (k : Value) : List MapEntry → Nat → Rs (Option (Nat × MapEntry))
  | [], _ => .ok none
  | e :: es, i => (keyEq P kt k e.key).bnd fun b => cond b (.ok (some (i, e))) (findL P kt k es (i + 1))
/-- that a key may be one -/
def keyOk (P : Program) (kt : TypeId) (e : Bool) (k : Value) : Rs Unit := cond (ground 3 k) (match pureRun P (Instr.checkKey e 10000 kt k) with
  | .ok _ => .ok ()
  | _ => .er "key: check") (.er "key: ground")

/-- a number without what stands behind its point -/
def truncR (x : Nat) : Nat := cond (nanB .f64 x) (qnan .f64) (FloatKind.f64.encode ((FloatKind.f64.decode x).integral .zero))
def isTrunc (fn : Func) : Bool := fn.name == "math.archTrunc" && (Extern.findNext fn).isNone
/-- a call of a function that is known -/
def aCall (P : Program) (f : FuncId) (args : List Value) (st : ASt) : Rs AN := match P.funcs.toList[f]? with
  | some fn => match fn.body with
    | some _ => cond (fn.name == "runtime.NumGoroutine") (.er "call: goroutines") (.ok (.enter f args))
    | none => cond (isTrunc fn) (match args with
        | [.float .f64 x] => .ok (.val (.float .f64 (truncR x)) st)
        | _ => .er "trunc")
      (cond (args.all (ground 1)) (match pureRun P (callFunc f args.toArray) with | .ok (.value v) => cond (refl1 v) (.ok (.val v st)) (.er "ext: nan" fn.name) | _ => .er "ext" fn.name) (.er "ext" fn.name))
  | none => .er "call: none"
def aInvoke (P : Program) (fn : Fn) (args cap : List Value) (st : ASt) : Rs AN := match fn with
  | .func f => aCall P f (args ++ cap) st
  | _ => .er "invoke"

def partsL (f : AFr) (ps : Array (Nat × Operand)) : List (Nat × Value) := ps.toList.map fun (i, x) => (i, f.ev x)
def fillL (place : Nat → Option (Nat × Nat)) (cells : List Value) : List (Nat × Value) → Rs (List Value)
  | [] => .ok cells
  | (i, v) :: rest => match place i with
    | some (off, size) => cond (Nat.beq (cellsL v).length size && (cellsL v).all oneC && Nat.ble (off + size) cells.length) ((Rs.of "fill" (layL off (cellsL v) cells)).bnd fun cs => fillL place cs rest) (.er "fill")
    | none => .er "fill: place"
def placesL (P : Program) : List Field → Rs (List (Nat × Nat))
  | [] => .ok []
  | f :: l => (sizeL P f.type).bnd fun n => (placesL P l).bnd fun r => .ok ((f.offset, n) :: r)
def foundV (r : Option (Nat × MapEntry)) (z : Value) : Value := match r with
  | some (_, e) => e.val
  | none => z
def mapEs (st : ASt) (x : Value) : Rs (List MapEntry) := match x with
  | .map none => .ok []
  | .map (some r) => match st.h.get r with
    | some (.map es _) => .ok es
    | _ => .er "lookup: map"
  | _ => .er "lookup"

def omapOf (st : ASt) (x : Value) : Option (Kk × Vk × List (Value × Value)) := match x with
  | .map (some r) => match st.h.get r with
    | some (.omap kk vk es) => some (kk, vk, es)
    | _ => none
  | _ => none
def intsK (P : Program) : List Field → Nat → List IntKind → Bool
  | [], _, [] => true
  | f :: l, o, k :: ks => Nat.beq f.offset o && (f.name != "_") && (match P.underlying f.type with | some (.int k') => decide (k = k') | _ => false) && intsK P l (o + 1) ks
  | _, _, _ => false
/-- are a type's keys of the kind? -/
def keyKd (P : Program) (kt : TypeId) : Kk → Bool
  | .i k => match P.underlying kt with | some (.int k') => decide (k = k') | _ => false
  | .s => match P.underlying kt with | some .string => true | _ => false
  | .is l => match P.underlying kt with | some (.struct fs) => !(P.stoodInHeld kt) && intsK P fs.toList 0 l | _ => false
def zeroVk : Vk → Value
  | .b => .bool false
  | .i k => .int k 0
def sameZ (vk : Vk) (z : Value) : Bool := match vk, z with
  | .b, .bool false => true
  | .i k, .int k' 0 => decide (k = k')
  | _, _ => false
def foundO (vk : Vk) (k : Value) (es : List (Value × Value)) : Value := match vk with
  | .b => .bool (boolV (getK k (.bool false) es))
  | .i kd => .int kd (intV (getK k (.int kd 0) es))
def lookO (P : Program) (kt et : TypeId) (kk : Kk) (vk : Vk) (es : List (Value × Value)) (k : Value) (ok : Bool) : Rs Value :=
  (keyOk P kt true k).bnd fun _ => (keyOk P kt false k).bnd fun _ => (zeroV P et).bnd fun z =>
    cond (keyKd P kt kk && keyFit kk k && sameZ vk z) (.ok (cond ok (.tuple #[foundO vk k es, .bool (hasK k es)]) (foundO vk k es))) (.er "lookup: kind")
def putO (P : Program) (kt : TypeId) (kk : Kk) (vk : Vk) (es : List (Value × Value)) (k v : Value) : Rs AObj :=
  (keyOk P kt false k).bnd fun _ => cond (keyKd P kt kk && keyFit kk k && valFit vk v) (.ok (.omap kk vk (putK k v es))) (.er "update: kind")
def aOp (P : Program) (f : AFr) (st : ASt) (o : Oper) : Rs AN :=
  let ev := f.ev
  match o.op with
  | .move x | .assign x => .ok (.val (ev x) st)
  | .pick c a b => match ev c with
    | .bool b' => .ok (.val (cond b' (ev a) (ev b)) st)
    | _ => .er "pick"
  | .alloc t => (zeroL P t).bnd fun z => .ok (.val (.pointer (some ⟨st.next, 0, none⟩)) (st.new (.cells z true 0)))
  | .box _ x => cond ((cellsL (ev x)).all oneC) (.ok (.val (.pointer (some ⟨st.next, 0, none⟩)) (st.new (.cells (cellsL (ev x)) true 0)))) (.er "box")
  | .build t ps => (zeroL P t).bnd fun z => (undL P t).bnd fun d => match d with
    | .struct fs => (placesL P fs.toList).bnd fun pl => (fillL (fun i => pl[i]?) z (partsL f ps)).bnd fun cs => .ok (.val (.agg cs.toArray) st)
    | .array _ e => (sizeL P e).bnd fun n => (fillL (fun i => some (i * n, n)) z (partsL f ps)).bnd fun cs => .ok (.val (.agg cs.toArray) st)
    | _ => .er "build"
  | .buildSlice t len ps => (undL P t).bnd fun d => match d with
    | .slice e => (sizeL P e).bnd fun n => (zeroL P e).bnd fun z => cond (Nat.beq z.length n && Nat.ble (len * n) 16777216) ((fillL (fun i => some (i * n, n)) (repL z len) (partsL f ps)).bnd fun cs =>
      .ok (.val (.slice (some ⟨st.next, 0, none⟩) len len) (st.new (.cells cs true n)))) (.er "buildSlice: size")
    | _ => .er "buildSlice"
  | .load t a => match ev a with
    | .pointer (some a) => (sizeL P t).bnd fun n => (st.read a n).bnd fun l => (shutL P t l.1).bnd fun v => .ok (.val v l.2)
    | _ => .er "load"
  | .store t a x => match ev a with
    | .pointer (some a) => (sizeL P t).bnd fun n => cond (Nat.beq (cellsL (ev x)).length n) ((st.write a (cellsL (ev x))).bnd fun st' => .ok (.val undef st')) (.er "store: size")
    | _ => .er "store"
  | .nilCheck x => match ev x with
    | .pointer (some a) => .ok (.val (.pointer (some a)) st)
    | .iface t v => .ok (.val (.iface t v) st)
    | .func (.func g) a b => .ok (.val (.func (.func g) a b) st)
    | .slice a n c => .ok (.val (.slice a n c) st)
    | .map r => .ok (.val (.map r) st)
    | _ => .er "nilCheck"
  | .binOp op t x y _ => match aFloat op (ev x) (ev y) with
   | some v => .ok (.val v st)
   | none => (aBin P op t x y (ev x) (ev y)).bnd fun r => match r with
    | .ok v => .ok (.val v st)
    | .panic v => .ok (.panic v)
    | .no => .er "bin"
  | .unOp op _ x => match aNegF op (ev x) with
   | some v => .ok (.val v st)
   | none => cond (ground 1 (ev x)) (match pureRun P (Op.unary op (ev x)) with | .ok v => cond (refl1 v) (.ok (.val v st)) (.er "unary: nan") | _ => .er "unary") (.er "unary: ground")
  | .convert s d x => aConv P st s d (ev x)
  | .makeInterface t x => (undL P t).bnd fun d => match d with
    | .interface _ => .er "makeInterface"
    | _ => .ok (.val (.iface t (ev x)) st)
  | .makeFunc fn a b => .ok (.val (.func fn (a.toList.map ev).toArray (b.toList.map ev).toArray) st)
  | .makeMap t r => match r with
    | none => .ok (.val (.map (some st.next)) (st.new (.map [] 0)))
    | some x => match ev x with
      | .int _ _ => (undL P t).bnd fun d => match d with
        | .map _ _ => .ok (.val (.map (some st.next)) (st.new (.map [] 0)))
        | _ => .er "makeMap"
      | _ => .er "makeMap"
  | .makeSlice t l c => match ev l, ev c with
    | .int _ (.ofNat l'), .int _ (.ofNat c') => (undL P t).bnd fun d => match d with
      | .slice e => (zeroL P e).bnd fun z => (sizeL P e).bnd fun n => (bytesL P e).bnd fun b => cond (rowMk c)
        (cond (Nat.beq l' c' && Nat.ble c' 1000000 && Nat.ble b 1000000 && Nat.beq z.length n && z.all zOk) (.ok (.val (.slice (some ⟨st.next, 0, some 0⟩) l' 0) (st.new (.row .mine n 0 l' fun _ j => nthT (z.map zT) j)))) (.er "makeRow"))
        (cond (Nat.ble l' c' && Nat.ble c' 1000000 && Nat.ble b 1000000 && Nat.beq z.length n) (.ok (.val (.slice (some ⟨st.next, 0, none⟩) l' c') (st.new (.cells (repL z c') true n)))) (.er "makeSlice"))
      | _ => .er "makeSlice"
    | _, _ => .er "makeSlice"
  | .slice t x lo hi mx => match mx with
    | none => (aSlice P st t (ev x) (lo.map ev) (hi.map ev)).bnd fun v => .ok (.val v st)
    | some m => match ev m, hi.map ev, lo with
      | .int _ (.ofNat 0), some (.int _ (.ofNat 0)), none => (undL P t).bnd fun d => match d, ev x with
        | .slice e, .slice (some ⟨b0, 0, some i0⟩) _ _ => (sizeL P e).bnd fun _ => .ok (.val (.slice (some ⟨b0, 1, some i0⟩) 0 0) st)
        | .slice e, .slice none 0 0 => (sizeL P e).bnd fun _ => .ok (.val (.slice none 0 0) st)
        | .slice e, .slice (some ⟨b0, o0, none⟩) _ _ => (sizeL P e).bnd fun _ => .ok (.val (.slice (some ⟨b0, 1, some 0⟩) 0 0) st)
        | _, _ => .er "slice: of three"
      | _, _, _ => .er "slice: of three"
  | .fieldAddr s x i => match ev x with
    | .pointer (some ⟨b0, o0, none⟩) => (fieldOf P s i).bnd fun fd => (sizeL P fd.type).bnd fun n => cond (Nat.beq n 0) (.er "fieldAddr: 0") (.ok (.val (.pointer (some ((⟨b0, o0, none⟩ : Addr).add fd.offset))) st))
    | .pointer (some ⟨b0, o0, some i0⟩) => (fieldOf P s i).bnd fun fd => (sizeL P fd.type).bnd fun n => cond (Nat.beq n 0) (.er "fieldAddr: 0") (.ok (.val (.pointer (some ⟨b0, o0 + fd.offset, some i0⟩)) st))
    | _ => .er "fieldAddr"
  | .field t x i => match ev x with
    | .agg cs => (fieldOf P t i).bnd fun fd => (partL P fd.type cs.toList fd.offset).bnd fun v => .ok (.val v st)
    | _ => .er "field"
  | .indexAddr t x i => match ev i with
    | .int _ (.ofNat i) => (undL P t).bnd fun d => match d, ev x with
      | .slice e, .slice (some ⟨b0, o0, none⟩) n _ => (sizeL P e).bnd fun s => cond (Nat.blt i n) (.ok (.val (.pointer (some ((⟨b0, o0, none⟩ : Addr).add (i * s)))) st)) (.er "index")
      | .slice e, .slice (some ⟨b0, 0, some i0⟩) n _ => (sizeL P e).bnd fun s => match st.h.get b0 with
        | some (.row _ es _ _ _) => cond (Nat.beq es s) (cond (Nat.blt i n) (.ok (.val (.pointer (some ⟨b0, 0, some (i0 + i)⟩)) st)) (.er "index")) (.er "index: size")
        | _ => .er "index: row"
      | .array n e, .pointer (some ⟨b0, o0, none⟩) => (sizeL P e).bnd fun s => cond (Nat.blt i n) (.ok (.val (.pointer (some ((⟨b0, o0, none⟩ : Addr).add (i * s)))) st)) (.er "index")
      | .array n e, .pointer (some ⟨b0, o0, some i0⟩) => (sizeL P e).bnd fun s => cond (Nat.blt i n) (.ok (.val (.pointer (some ⟨b0, o0 + i * s, some i0⟩)) st)) (.er "index")
      | _, _ => .er "indexAddr"
    | _ => .er "indexAddr: int"
  | .index t x i => match ev i, ev x with
    | .int _ (.ofNat i), .string s => (undL P t).bnd fun d => match d with
      | .string => match s.data.toList[i]? with
        | some b => .ok (.val (.int .u8 b.toNat) st)
        | none => .er "index: string"
      | _ => .er "index: string"
    | .int _ (.ofNat i), .agg cs => (undL P t).bnd fun d => match d with
      | .array n e => (sizeL P e).bnd fun s => cond (Nat.blt i n) ((partL P e cs.toList (i * s)).bnd fun v => .ok (.val v st)) (.er "index")
      | _ => .er "index"
    | _, _ => .er "index"
  | .lookup t x i ok => (undL P t).bnd fun d => match d with
    | .map kt et => match omapOf st (ev x) with
      | some (kk, vk, es) => (lookO P kt et kk vk es (ev i) ok).bnd fun v => .ok (.val v st)
      | none => (undL P kt).bnd fun _ => (mapEs st (ev x)).bnd fun es => (keyOk P kt es.isEmpty (ev i)).bnd fun _ => (findL P kt (ev i) es 0).bnd fun r => (zeroV P et).bnd fun z =>
        .ok (.val (cond ok (.tuple #[foundV r z, .bool r.isSome]) (foundV r z)) st)
    | _ => .er "lookup: type"
  | .mapUpdate t m k x | .insert t m k x => (undL P t).bnd fun d => match d with
    | .map kt _ => (undL P kt).bnd fun _ => match ev m with
      | .map (some r) => match st.h.get r with
        | some (.map es clock) => (keyOk P kt false (ev k)).bnd fun _ => (findL P kt (ev k) es 0).bnd fun q => match q with
          | some (i, e) => cond (Instr.sameBits 10000 e.key (ev k)) (.ok (.val undef (st.set r (some (.map (es.set i { e with key := ev k, val := ev x }) clock))))) (.er "update: bits")
          | none => .ok (.val undef (st.set r (some (.map (es ++ [{ key := ev k, val := ev x, born := clock }]) (clock + 1)))))
        | some (.omap kk vk es) => (putO P kt kk vk es (ev k) (ev x)).bnd fun o => .ok (.val undef (st.set r (some o)))
        | _ => .er "update: map"
      | _ => .er "update"
    | _ => .er "update: type"
  | .typeAssert x xt t ok => (undL P t).bnd fun d => match d, ev x with
    | .interface _, _ => .er "typeAssert: interface"
    | _, .nilIface => cond ok ((zeroV P t).bnd fun z => .ok (.val (.tuple #[z, .bool false]) st)) (.er "typeAssert: nil")
    | _, .iface t' v => cond (Nat.beq t' t) (.ok (.val (cond ok (.tuple #[v, .bool true]) v) st))
      (cond ok ((zeroV P t).bnd fun z => .ok (.val (.tuple #[z, .bool false]) st)) (.er "typeAssert: fails"))
    | _, _ => .er "typeAssert"
  | .extract t i => match ev t with
    | .tuple vs => (Rs.of "extract" vs.toList[i]?).bnd fun v => .ok (.val v st)
    | _ => .er "extract"
  | .call c => match c.callee with
    | .builtin b => aBuiltin P st b c.argTypes.toList (c.args.toList.map ev)
    | .value g => match ev g with
      | .func fn a b => aInvoke P fn (a.toList ++ c.args.toList.map ev) b.toList st
      | _ => .er "call: value"
    | .invoke _ _ => .er "invoke"
  | .defer c => match c.callee with
    | .value g => match ev g with
      | .func fn a b => .ok (.defer ⟨fn, b.toList, a.toList ++ c.args.toList.map ev⟩)
      | _ => .er "defer"
    | _ => .er "defer"
  | .panic x => match ev x with
    | .iface t v => .ok (.panic (.iface t v))
    | _ => .er "panic"
  | _ => .er "op"

/-! ### code -/
inductive AX where
  | normal
  | exit (id : Nat)
  | ret
  | panic (v : Value)
inductive AE where
  | returned (v : Value)
  | panicked (v : Value)

abbrev Self := FuncId → List Value → ASt → Rs (AE × ASt)

def wantedA (ops : List Oper) (f : AFr) (o : Oper) : Option Bool := match o.guard with
  | none => some true
  | some (j, want) => match ops[j]? with
    | some oj => match oj.dst with
      | some d => match f.tmps.get d with
        | some (.bool b) => some (b == want)
        | some (.tuple _) => some false
        | _ => none
      | none => some false
    | none => some false

def evOp (P : Program) (self : Self) (f : AFr) (st : ASt) (o : Oper) : Rs (AX × AFr × ASt) :=
  match aOp P f st o with
  | .ok (.val v st') => .ok (.normal, f.put o.dst v, st')
  | .ok (.enter g args) => match self g args st with
    | .ok (.returned v, st'') => .ok (.normal, f.put o.dst v, st'')
    | .ok (.panicked v, st'') => .ok (.panic v, f, st'')
    | .er s p => .er s p
  | .ok (.defer d) => .ok (.normal, ({ f with defers := d :: f.defers } : AFr).put o.dst undef, st)
  | .ok (.panic v) => .ok (.panic v, f, st)
  | .er s _ => .er s o.pos

def evOps (P : Program) (self : Self) (all : List Oper) : List Oper → AFr → ASt → Rs (AX × AFr × ASt)
  | [], f, st => .ok (.normal, f, st)
  | o :: rest, f, st => match wantedA all f o with
    | some true => (match evOp P self f st o with
      | .ok (.normal, f', st') => evOps P self all rest f' st'
      | r => r)
    | some false => evOps P self all rest (f.put o.dst undef) st
    | none => .er "guard" o.pos

/-! ### a region that draws its order -/
def bindsA (e : Edge) : Bool := match e.ground with
  | .textOnly _ | .gcOnly _ => false
  | _ => true
def maskL : List Edge → List Nat → Nat
  | [], _ => 0
  | e :: es, acc => cond (bindsA e) (maskL es acc ||| 2 ^ e.on ||| acc.getD e.on 0) (maskL es acc)
def ancL : List Oper → List Nat → List Nat
  | [], acc => acc
  | o :: l, acc => ancL l (acc ++ [maskL o.after.toList acc])
def looksL (ops : List Oper) (o : Oper) : List Nat :=
  (o.op.operands.toList.filterMap fun | .tmp t => some t | _ => none) ++
  (match o.guard with
   | some (g, _) => match ops[g]? with
     | some og => match og.dst with
       | some d => [d]
       | none => []
     | none => []
   | none => [])
def hasBit (m j : Nat) : Bool := Nat.beq ((m >>> j) % 2) 1
def hasN (l : List Nat) (d : Option Nat) : Bool := match d with
  | some d => l.any (Nat.beq d)
  | none => false
def sameD (a b : Option Nat) : Bool := match a, b with
  | some a, some b => Nat.beq a b
  | _, _ => false
/-- two that touch one slot are ordered -/
def slotsGo (ops : List Oper) : List (Oper × Nat) → List (Nat × List Nat × Option Nat) → Nat → Bool
  | [], _, _ => true
  | (o, m) :: l, seen, j =>
    seen.all (fun r => hasBit m r.1 || !(hasN (looksL ops o) r.2.2 || hasN r.2.1 o.dst || sameD o.dst r.2.2)) &&
    slotsGo ops l ((j, looksL ops o, o.dst) :: seen) (j + 1)
def backOk (ops : List Oper) : Nat → Bool
  | 0 => true
  | n + 1 => (match ops[n]? with
    | some o => o.after.toList.all (fun e => !bindsA e || Nat.blt e.on n) && (match o.op with | .select .. | .defer _ => false | _ => true)
    | none => true) && backOk ops n
def slotsOk (ops : List Oper) : Bool := slotsGo ops (ops.zip (ancL ops [])) [] 0 && backOk ops ops.length

def pureOp : Op → Bool
  | .move _ | .assign _ | .pick .. | .binOp .. | .unOp .. | .field .. | .fieldAddr .. | .index .. | .indexAddr .. | .extract .. | .makeInterface .. | .makeFunc .. | .typeAssert .. | .build .. | .nilCheck _ => true
  | _ => false
structure Rec where
  j : Nat
  s : Nat
  e : Nat
  wr : Bool
  lo : Nat
  fp : Option (List Nat)
  /-- a load: what was read -/
  ld : Option (Addr × Nat × List Value)
def eraseR : Nat → Nat → Tr AObj → Tr AObj
  | 0, _, h => h
  | n + 1, s, h => eraseR n (s + 1) (h.set s none)
def copyR : Nat → Nat → Tr AObj → Tr AObj → Tr AObj
  | 0, _, _, h => h
  | n + 1, s, g, h => copyR n (s + 1) g (h.set s (g.get s))
def copyL : List Nat → Tr AObj → Tr AObj → Tr AObj
  | [], _, h => h
  | a :: l, g, h => copyL l g (h.set a (g.get a))
/-- without what comes of those that may not have come up -/
def redu (m : Nat) : List Rec → Tr AObj → Tr AObj
  | [], h => h
  | r :: l, h => redu m l (cond (hasBit m r.j) h (eraseR (r.e - r.s) r.s h))
def big : Nat := 1000000000000
/-- the numbers in a value -/
def idsV : Nat → Value → List Nat
  | _, .pointer (some a) => [a.block]
  | _, .slice (some a) _ _ => [a.block]
  | _, .map (some r) => [r]
  | n + 1, .iface _ v => idsV n v
  | n + 1, .agg vs | n + 1, .tuple vs => vs.toList.flatMap (idsV n)
  | n + 1, .func _ a b => a.toList.flatMap (idsV n) ++ b.toList.flatMap (idsV n)
  | _, _ => []
def idsO : AObj → List Nat
  | .cells cs _ _ => cs.flatMap (idsV 4)
  | .old cs _ _ => cs.flatMap (idsV 4)
  | .row .. => []
  | .map es _ => es.flatMap fun e => idsV 4 e.val
  | .omap .. => []
  | .iter .. => []
/-- what can be come at -/
def reach (h : Tr AObj) : Nat → List Nat → Tr Unit → List Nat → List Nat
  | 0, _, _, acc => acc
  | _ + 1, [], _, acc => acc
  | n + 1, x :: todo, seen, acc => match seen.get x with
    | some _ => reach h n todo seen acc
    | none => match h.get x with
      | some o => reach h n (idsO o ++ todo) (seen.set x (some ())) (x :: acc)
      | none => reach h n todo seen acc
def addrOf (v : Value) : Option (List Nat) := match v with
  | .pointer (some a) => some [a.block]
  | .slice (some a) _ _ => some [a.block]
  | .map (some r) => some [r]
  | .pointer none | .slice none _ _ | .map none | .string _ | .int .. | .bool _ | .float .. => some []
  | _ => none
def addrsOf : List Value → Option (List Nat)
  | [] => some []
  | v :: l => match addrOf v, addrsOf l with
    | some a, some b => some (a ++ b)
    | _, _ => none
/-- which memory an operation looks at, if that is told by its operands -/
def fpOf (f : AFr) (h : Tr AObj) : Op → Option (List Nat)
  | .load _ a => addrOf (f.ev a)
  | .store _ a x => match f.ev a with
    | .pointer (some ⟨b, _, some _⟩) => some (reach h 1000 (b :: idsV 4 (f.ev x)) .leaf [])
    | v => addrOf v
  | .slice _ x _ _ _ => addrOf (f.ev x)
  | .alloc _ | .box .. | .buildSlice .. | .makeSlice .. | .makeMap .. => some []
  | .lookup _ x _ _ | .convert _ _ x => addrOf (f.ev x)
  | .call { callee := .builtin .append, args, .. } => some (reach h 1000 ((args.toList.map f.ev).flatMap (idsV 4)) .leaf [])
  | .call { callee := .builtin _, args, .. } => addrsOf (args.toList.map f.ev)
  | _ => none
/-- what both look at is below what either writes -/
def apartL (p q : Nat) (a b : Option (List Nat)) : Bool := match a, b with
  | some a, some b => a.all fun x => b.all fun y => !(Nat.beq x y) || (Nat.blt x p && Nat.blt x q)
  | _, _ => false
/-- what an operation that makes nothing looks at -/
def pureFp (f : AFr) : Op → List Nat
  | .indexAddr _ x _ => match f.ev x with
    | .slice (some ⟨b, _, some _⟩) _ _ => [b]
    | _ => []
  | _ => []
/-- two that are not ordered do not disturb one another -/
def sameA (a b : Addr) : Bool := Nat.beq a.block b.block && Nat.beq a.off b.off && (match a.spot, b.spot with
  | none, none => true
  | _, _ => false)
/-- are two values one, for sure? -/
def sameW : Value → Value → Bool
  | .bool a, .bool b => a == b
  | .int k n, .int k' m => sameKd k k' && (n == m)
  | .float k a, .float k' b => sameF k k' && Nat.beq a b
  | .string a, .string b => a.data.toList == b.data.toList
  | .pointer none, .pointer none => true
  | .pointer (some a), .pointer (some b) => sameA a b
  | .slice none n c, .slice none n' c' => Nat.beq n n' && Nat.beq c c'
  | .slice (some a) n c, .slice (some b) n' c' => sameA a b && Nat.beq n n' && Nat.beq c c'
  | .map none, .map none => true
  | .map (some a), .map (some b) => Nat.beq a b
  | .nilIface, .nilIface => true
  | .nilFunc, .nilFunc => true
  | _, _ => false
def sameWs : List Value → List Value → Bool
  | [], [] => true
  | v :: l, w :: m => sameW v w && sameWs l m
  | _, _ => false
/-- is what was read still there? -/
def keptL (ld : Option (Addr × Nat × List Value)) (h : Tr AObj) : Bool := match ld with
  | some (a, n, l) => match cellsO (h.get a.block) with
    | some (cs, _) => match takeL n (dropL a.off cs) with
      | some l' => sameWs l l'
      | none => false
    | none => false
  | none => false
def freeOf (m : Nat) (recs : List Rec) (wr : Bool) (lo : Nat) (fp : Option (List Nat)) (h : Tr AObj) : Bool :=
  recs.all fun r => hasBit m r.j || !(r.wr || wr) || apartL r.lo lo r.fp fp || keptL r.ld h
/-- a load of cells -/
def qload (P : Program) (f : AFr) (h : Tr AObj) (m : Nat) (recs : List Rec) (o : Op) : Option (Value × Addr × Nat × List Value) := match o with
  | .load t x => match f.ev x with
    | .pointer (some ⟨b, off, none⟩) => match cellsO (h.get b) with
      | some (cs, _) => match sizeL P t with
        | .ok n => match takeL n (dropL off cs) with
          | some l => match shutL P t l with
            | .ok v => cond (recs.all fun r => hasBit m r.j || !(Nat.ble r.s b && Nat.blt b r.e)) (some (v, ⟨b, off, none⟩, n, l)) none
            | .er _ _ => none
          | none => none
        | .er _ _ => none
      | none => none
    | _ => none
  | _ => none
def footOf (m : Nat) (recs : List Rec) (h : Tr AObj) (fp : Option (List Nat)) : Tr AObj := match fp with
  | some l => copyL l (redu m recs h) .leaf
  | none => redu m recs h
/-- of these what there is in g, as h' has it, into h -/
def copyD : List Nat → Tr AObj → Tr AObj → Tr AObj → Tr AObj
  | [], _, _, h => h
  | a :: l, g, h', h => match g.get a with
    | some _ => copyD l g h' (h.set a (h'.get a))
    | none => copyD l g h' h
def mergeOf (m : Nat) (recs : List Rec) (h g h' : Tr AObj) (s e : Nat) (fp : Option (List Nat)) : Tr AObj := match fp with
  | some l => copyR (e - s) s h' (copyD l g h' h)
  | none => cond (recs.all fun r => hasBit m r.j) h' (copyR (e - s) s h' h)
/-- a frame of what is looked at -/
def restr (f : AFr) : List Nat → Tr Value
  | [] => .leaf
  | t :: l => match f.tmps.get t with
    | some v => (restr f l).set t (some v)
    | none => restr f l
/-- an operation that yields a value -/
def evVal (P : Program) (self : Self) (f : AFr) (st : ASt) (o : Oper) : Rs (Value × ASt) :=
  match aOp P f st o with
  | .ok (.val v st') => .ok (v, st')
  | .ok (.enter g args) => match self g args st with
    | .ok (.returned v, st'') => .ok (v, st'')
    | .ok _ => .er "draw: panics" o.pos
    | .er s p => .er s p
  | .ok _ => .er "draw: panics" o.pos
  | .er s _ => .er s o.pos
def noRec (fp : Option (List Nat)) (s e : Nat) : Bool := match fp with
  | some [] => Nat.beq s e
  | _ => false
/-- an operation that is never in another one's way -/
def calmOp (op : Op) : Bool := match op with
  | .indexAddr .. => false
  | op => pureOp op
/-- may it write whatever it likes? -/
def solo (m : Nat) (recs : List Rec) (j : Nat) (rest : List (Oper × Nat)) : Bool := recs.all (fun r => hasBit m r.j) && rest.all fun p => hasBit p.2 j || calmOp p.1.op
def evDraw (P : Program) (self : Self) (all : List Oper) : List (Oper × Nat) → Nat → List Rec → AFr → ASt → Rs (AX × AFr × ASt)
  | [], _, _, f, st => .ok (.normal, f, st)
  | (o, m) :: rest, j, recs, f, st =>
    let next (fp : Option (List Nat)) (v : Value) (st' : ASt) : Rs (AX × AFr × ASt) :=
      cond (freeOf m recs (!(Nat.ble st.next st'.lo)) st'.lo fp st'.h)
        (evDraw P self all rest (j + 1) (cond (noRec fp st.next st'.next) recs (⟨j, st.next, st'.next, !(Nat.ble st.next st'.lo), st'.lo, fp, none⟩ :: recs)) (f.put o.dst v)
          ⟨st'.next, mergeOf m recs st.h (footOf m recs st.h fp) st'.h st.next st'.next fp, minN st.lo st'.lo⟩)
        (.er "draw: not apart" o.pos)
    let fr : AFr := ⟨f.n, restr f (looksL all o), f.defers⟩
    match wantedA all f o with
    | some true => match qload P f st.h m recs o.op with
      | some q => cond (freeOf m recs false big (some [q.2.1.block]) st.h)
        (evDraw P self all rest (j + 1) (⟨j, st.next, st.next, false, big, some [q.2.1.block], some q.2⟩ :: recs) (f.put o.dst q.1) st)
        (.er "draw: not apart" o.pos)
      | none => match cond (pureOp o.op) (some (pureFp f o.op)) (fpOf f st.h o.op) with
        | some l => (match evVal P self fr ⟨st.next, footOf m recs st.h (some l), big⟩ o with
          | .ok (v, st') => next (some l) v st'
          | .er s p => .er s p)
        | none => (match evVal P self fr ⟨st.next, footOf m recs st.h none, big⟩ o with
          | .ok (v, st') => cond (Nat.ble st.next st'.lo || solo m recs j rest) (next none v st')
            (let l := reach st.h 100000 ((o.op.operands.toList.map f.ev).flatMap (idsV 4)) .leaf []
             match evVal P self fr ⟨st.next, footOf m recs st.h (some l), big⟩ o with
              | .ok (v, st') => next (some l) v st'
              | .er s p => .er s p)
          | .er s p => .er s p)
    | some false => evDraw P self all rest (j + 1) recs (f.put o.dst undef) st
    | none => .er "guard" o.pos
def evRegion (P : Program) (self : Self) (ops : List Oper) (draw : Bool) (f : AFr) (st : ASt) : Rs (AX × AFr × ASt) :=
  cond draw (cond (slotsOk ops) (evDraw P self ops (ops.zip (ancL ops [])) 0 [] f st) (.er "draw: slots")) (evOps P self ops ops f st)

def iter (g : AFr → ASt → Rs (AX × AFr × ASt)) : Nat → AFr → ASt → Rs (AX × AFr × ASt)
  | 0, _, _ => .er "loop: too long"
  | n + 1, f, st => match g f st with
    | .ok (.normal, f', st') => iter g n f' st'
    | r => r

def evCode (P : Program) (self : Self) (fuel : Nat) : Code → AFr → ASt → Rs (AX × AFr × ASt)
  | .skip, f, st => .ok (.normal, f, st)
  | .region _ ops draw, f, st => evRegion P self ops.toList draw f st
  | .seq a b, f, st => match evCode P self fuel a f st with
    | .ok (.normal, f', st') => evCode P self fuel b f' st'
    | r => r
  | .cond c a b, f, st => match f.ev c with
    | .bool true => evCode P self fuel a f st
    | .bool false => evCode P self fuel b f st
    | _ => .er "cond"
  | .block id c, f, st => match evCode P self fuel c f st with
    | .ok (.exit i, f', st') => cond (Nat.beq i id) (.ok (.normal, f', st')) (.ok (.exit i, f', st'))
    | r => r
  | .loop c, f, st => iter (evCode P self fuel c) fuel f st
  | .exit id, f, st => .ok (.exit id, f, st)
  | .ret, f, st => .ok (.ret, f, st)
  | _, _, _ => .er "code"

def args0 : List Value → Nat → Tr Value → Tr Value
  | [], _, t => t
  | v :: l, i, t => args0 l (i + 1) (t.set i (some v))

def resL (P : Program) (st : ASt) (f : AFr) : List ResultVar → Rs (List Value)
  | [] => .ok []
  | .tmp t :: l => (resL P st f l).bnd fun vs => .ok (f.tmp t :: vs)
  | .cell a t :: l => match f.tmp a with
    | .pointer (some a) => (sizeL P t).bnd fun n => (st.readC a n).bnd fun cs => (shutL P t cs).bnd fun v => (resL P st f l).bnd fun vs => .ok (v :: vs)
    | _ => .er "result"
def resOf (P : Program) (fn : Func) (st : ASt) (f : AFr) : Rs Value := (resL P st f fn.results.toList).bnd fun vs => match vs with
  | [v] => .ok v
  | vs => .ok (.tuple vs.toArray)

/-- behind the body: what is deferred; p: the panic that is on its way -/
def leave (P : Program) (selfD : FuncId → List Value → Option Value → ASt → Rs (Option Value × ASt)) (fn : Func) (f : AFr) : List ADef → Option Value → ASt → Rs (AE × ASt)
  | [], none, st => (resOf P fn st f).bnd fun v => .ok (.returned v, st)
  | [], some v, st => .ok (.panicked v, st)
  | d :: ds, p, st => match aInvoke P d.fn d.args d.cap st with
    | .ok (.enter g args) => match selfD g args p st with
      | .ok (p', st'') => leave P selfD fn f ds p' st''
      | .er s p => .er s p
    | _ => .er "deferred"

def finD (P : Program) (fn : Func) (p : Option Value) (r : Rs (AX × AFr × ASt)) : Rs (Option Value × ASt) := match r with
  | .ok (.normal, f, st') | .ok (.ret, f, st') => match f.defers with
    | [] => (resOf P fn st' f).bnd fun _ => .ok (p, st')
    | _ => .er "deferred: defers"
  | .ok _ => .er "deferred: panics"
  | .er s p => .er s p
def isRecover (o : Oper) : Bool := match o.op, o.guard with
  | .call { callee := .builtin .recover, .. }, none => true
  | _, _ => false
def recoverOf (p : Option Value) : Value := match p with
  | some v => v
  | none => .nilIface
/-- a deferred function: it may begin with recover(); it says what panic is left -/
def evD (P : Program) (self : Self) (fuel : Nat) (g : FuncId) (args : List Value) (p : Option Value) (st : ASt) : Rs (Option Value × ASt) :=
  match P.funcs.toList[g]? with
  | some fn => match fn.body with
    | some body => match body with
      | .seq (.region id ops false) c2 => match ops.toList with
        | o :: l => cond (isRecover o)
          (finD P fn none (match evOps P self (o :: l) l ((⟨maxN args.length fn.ntmps, args0 args 0 .leaf, []⟩ : AFr).put o.dst (recoverOf p)) st with
            | .ok (.normal, f', st') => evCode P self fuel c2 f' st'
            | r => r))
          (match c2 with
            | .seq (.region id2 ops2 false) c3 => match ops2.toList with
              | o2 :: l2 => cond (isRecover o2)
                (finD P fn none (match evOps P self (o :: l) (o :: l) ⟨maxN args.length fn.ntmps, args0 args 0 .leaf, []⟩ st with
                  | .ok (.normal, f1, st1) => (match evOps P self (o2 :: l2) l2 (f1.put o2.dst (recoverOf p)) st1 with
                    | .ok (.normal, f', st') => evCode P self fuel c3 f' st'
                    | r => r)
                  | r => r))
                (finD P fn p (evCode P self fuel body ⟨maxN args.length fn.ntmps, args0 args 0 .leaf, []⟩ st))
              | [] => .er "deferred: empty"
            | _ => finD P fn p (evCode P self fuel body ⟨maxN args.length fn.ntmps, args0 args 0 .leaf, []⟩ st))
        | [] => .er "deferred: empty"
      | body => finD P fn p (evCode P self fuel body ⟨maxN args.length fn.ntmps, args0 args 0 .leaf, []⟩ st)
    | none => .er "deferred: no body"
  | none => .er "deferred: none"

def evFun1 (P : Program) (fuel : Nat) (self : Self) : Self := fun g args st => match P.funcs.toList[g]? with
    | some fn => match fn.body with
      | some body => match evCode P self fuel body ⟨maxN args.length fn.ntmps, args0 args 0 .leaf, []⟩ st with
        | .ok (.normal, f, st') | .ok (.ret, f, st') => match f.defers with
          | [] => (resOf P fn st' f).bnd fun v => .ok (.returned v, st')
          | ds => leave P (evD P self fuel) fn f ds none st'
        | .ok (.panic v, f, st') => match f.defers with
          | [] => .ok (.panicked v, st')
          | ds => leave P (evD P self fuel) fn f ds (some v) st'
        | .ok _ => .er "exit"
        | .er s p => .er s p
      | none => .er "no body"
    | none => .er "no function"
def evFun (P : Program) (fuel : Nat) : Nat → Self
  | 0 => fun _ _ _ => .er "too deep"
  | n + 1 => evFun1 P fuel (evFun P fuel n)
/-- with functions of which it is told what they answer -/
structure TCon where
  run : List Value → ASt → Rs (AE × ASt)
  sym : List Value → ASt → (AE → ASt → Prop) → Prop
  ok : ∀ args st K, sym args st K → ∃ r st', run args st = .ok (r, st') ∧ K r st'
abbrev Told := FuncId → Option TCon
def evFunC (P : Program) (C : Told) (fuel : Nat) : Nat → Self
  | 0 => fun _ _ _ => .er "too deep"
  | n + 1 => fun g args st => match C g with
    | some c => c.run args st
    | none => evFun1 P fuel (evFunC P C fuel n) g args st

def st0 : ASt := ⟨0, .leaf, big⟩
def answer (P : Program) (g : FuncId) : String × String := match evFun P 100000 100 g [] st0 with
  | .ok (.returned (.bool true), _) => ("true", "")
  | .ok (.returned (.bool false), _) => ("false", "")
  | .ok (.returned _, _) => ("other", "")
  | .ok (.panicked _, _) => ("panics", "")
  | .er s p => (s, p)
def isTrue (P : Program) (g : FuncId) : Bool := match evFun P 100000 100 g [] st0 with
  | .ok (.returned (.bool true), _) => true
  | _ => false
end Go.Proofs.YtpogcoolgnjejaaGreatDoor.Ev
/-
  The laws of the evaluator's tables and lists.
-/
set_option linter.unusedVariables false
set_option linter.unusedSimpArgs false
namespace Go.Proofs.YtpogcoolgnjejaaGreatDoor.Ev
open Go

theorem Tr.get_put {α : Type} : ∀ (f : Nat) (t : Tr α) (k : Nat) (x : Option α) (j : Nat), k + 1 < 2 ^ f → (Tr.put f t k x).get j = if j = k then x else t.get j := by
  intro f
  induction f with
  | zero => intro t k x j h; simp at h
  | succ f ih =>
    intro t k x j h
    have hp : (2 : Nat) ^ (f + 1) = 2 * 2 ^ f := by rw [Nat.pow_succ]; omega
    have hl : ∀ (v : Option α) (l r : Tr α), (cond (Nat.beq k 0) (Tr.node x l r) (cond (Nat.beq (k % 2) 1) (.node v (Tr.put f l (k / 2) x) r) (.node v l (Tr.put f r (k / 2 - 1) x)))).get j = if j = k then x else (Tr.node v l r).get j := by
      intro v l r
      cases hk : Nat.beq k 0
      · have hk0 : k ≠ 0 := Nat.ne_of_beq_eq_false hk
        cases ho : Nat.beq (k % 2) 1
        · have hk1 : k % 2 ≠ 1 := Nat.ne_of_beq_eq_false ho
          simp only [cond_false, cond_true, Tr.get]
          cases hj : Nat.beq j 0
          · have hj0 : j ≠ 0 := Nat.ne_of_beq_eq_false hj
            cases hjo : Nat.beq (j % 2) 1
            · have hj1 : j % 2 ≠ 1 := Nat.ne_of_beq_eq_false hjo
              simp only [cond_false]
              rw [ih r (k / 2 - 1) x (j / 2 - 1) (by omega)]
              by_cases e : j = k
              · simp [e]
              · rw [if_neg e, if_neg (by omega)]
            · have hj1 : j % 2 = 1 := Nat.eq_of_beq_eq_true hjo
              simp only [cond_false, cond_true]
              rw [if_neg (by intro e; subst e; exact hk1 hj1)]
          · have hj0 : j = 0 := Nat.eq_of_beq_eq_true hj
            simp only [cond_true]
            rw [if_neg (by omega)]
        · have hk1 : k % 2 = 1 := Nat.eq_of_beq_eq_true ho
          simp only [cond_false, cond_true, Tr.get]
          cases hj : Nat.beq j 0
          · have hj0 : j ≠ 0 := Nat.ne_of_beq_eq_false hj
            cases hjo : Nat.beq (j % 2) 1
            · have hj1 : j % 2 ≠ 1 := Nat.ne_of_beq_eq_false hjo
              simp only [cond_false]
              rw [if_neg (by intro e; subst e; exact hj1 hk1)]
            · have hj1 : j % 2 = 1 := Nat.eq_of_beq_eq_true hjo
              simp only [cond_false, cond_true]
              rw [ih l (k / 2) x (j / 2) (by omega)]
              by_cases e : j = k
              · simp [e]
              · rw [if_neg e, if_neg (by omega)]
          · have hj0 : j = 0 := Nat.eq_of_beq_eq_true hj
            simp only [cond_true]
            rw [if_neg (by omega)]
      · have hk0 : k = 0 := Nat.eq_of_beq_eq_true hk
        simp only [cond_true, Tr.get]
        cases hj : Nat.beq j 0
        · have hj0 : j ≠ 0 := Nat.ne_of_beq_eq_false hj
          simp only [cond_false]
          rw [if_neg (by omega)]
        · have hj0 : j = 0 := Nat.eq_of_beq_eq_true hj
          simp only [cond_true]
          rw [if_pos (by omega)]
    cases t with
    | leaf =>
      simp only [Tr.put]
      rw [hl none .leaf .leaf]
      have : (Tr.node (none : Option α) .leaf .leaf).get j = (Tr.leaf : Tr α).get j := by
        simp only [Tr.get]
        cases Nat.beq j 0 <;> simp
      rw [this]
    | node v l r => simp only [Tr.put]; exact hl v l r

theorem Tr.get_set {α : Type} (t : Tr α) (k : Nat) (x : Option α) (j : Nat) : (t.set k x).get j = if j = k then x else t.get j := by
  unfold Tr.set
  refine Tr.get_put _ _ _ _ _ ?_
  have h := @Nat.lt_log2_self k
  have hp : (2 : Nat) ^ (Nat.log2 k + 2) = 2 * 2 ^ (Nat.log2 k + 1) := by rw [Nat.pow_succ]; omega
  omega

theorem Tr.get_leaf {α : Type} (j : Nat) : (Tr.leaf : Tr α).get j = none := rfl

theorem dropL_eq (n : Nat) (l : List Value) : dropL n l = l.drop n := by
  induction n generalizing l with
  | zero => rfl
  | succ n ih => cases l with
    | nil => rfl
    | cons v l => simp only [dropL]; exact ih l
theorem takeL_some {n : Nat} {l r : List Value} (h : takeL n l = some r) : n ≤ l.length ∧ r = l.take n := by
  induction n generalizing l r with
  | zero => simp only [takeL, Option.some.injEq] at h; subst h; simp
  | succ n ih =>
    cases l with
    | nil => simp [takeL] at h
    | cons v l =>
      simp only [takeL] at h
      split at h
      · rename_i r' hr
        obtain ⟨h1, h2⟩ := ih hr
        simp only [Option.some.injEq] at h
        subst h h2
        exact ⟨by simp; omega, by simp⟩
      · simp at h
/-- what is laid in -/
theorem layL_some {vs : List Value} : ∀ {n : Nat} {l r : List Value}, layL n vs l = some r → r.length = l.length ∧ (vs ≠ [] → n + vs.length ≤ l.length) ∧
    ∀ i, r[i]? = if n ≤ i ∧ i < n + vs.length then vs[i - n]? else l[i]? := by
  intro n l
  induction l generalizing n vs with
  | nil =>
    intro r h
    cases vs with
    | nil => simp [layL] at h; subst h; refine ⟨rfl, by simp, fun i => ?_⟩; rw [if_neg (by simp)]
    | cons v vs => cases n <;> simp [layL] at h
  | cons x l ih =>
    intro r h
    cases vs with
    | nil => simp [layL] at h; subst h; refine ⟨rfl, by simp, fun i => ?_⟩; rw [if_neg (by simp)]
    | cons v vs =>
      cases n with
      | zero =>
        simp only [layL] at h
        split at h
        · rename_i r' hr
          obtain ⟨h1, h2, h3⟩ := ih hr
          simp only [Option.some.injEq] at h
          subst h
          refine ⟨by simp [h1], fun _ => ?_, fun i => ?_⟩
          · cases vs with
            | nil => simp
            | cons u vs => have := h2 (by simp); simp at this ⊢; omega
          · cases i with
            | zero => simp
            | succ i =>
              rw [List.getElem?_cons_succ, h3 i]
              by_cases hi : i < vs.length
              · rw [if_pos (by omega), if_pos (by simp; omega)]; simp
              · rw [if_neg (by omega), if_neg (by simp; omega)]; simp
        · simp at h
      | succ n =>
        simp only [layL] at h
        split at h
        · rename_i r' hr
          obtain ⟨h1, h2, h3⟩ := ih hr
          simp only [Option.some.injEq] at h
          subst h
          refine ⟨by simp [h1], fun _ => ?_, fun i => ?_⟩
          · have := h2 (by simp); simp at this ⊢; omega
          · cases i with
            | zero => simp
            | succ i =>
              rw [List.getElem?_cons_succ, h3 i]
              by_cases hi : n ≤ i ∧ i < n + (v :: vs).length
              · rw [if_pos hi, if_pos (by omega), show i + 1 - (n + 1) = i - n by omega]
              · rw [if_neg hi, if_neg (by omega)]; simp
        · simp at h
end Go.Proofs.YtpogcoolgnjejaaGreatDoor.Ev
/-
  What the evaluator's memory and values stand for: the relation to a world, and its moves.
-/
set_option linter.unusedVariables false
set_option linter.unusedSimpArgs false
namespace Go.Proofs.YtpogcoolgnjejaaGreatDoor.Ev
open Go

/-- where what has a number lies (void: nowhere, since it has nothing in it): a block, from which cell on; whether it is as long as it is told to be; how many cells one of its elements has; how many the block has -/
structure Spot where
  blk : Nat
  base : Nat
  ex : Bool
  es : Nat
  room : Nat
  void : Bool
  /-- blocks that are written no more -/
  fz : Nat → Prop
abbrev Rho := Nat → Option Spot
abbrev Mem := Nat → Option AObj
def upd {α : Type} (f : Nat → α) (k : Nat) (v : α) : Nat → α := fun x => if x = k then v else f x
theorem upd_same {α : Type} (f : Nat → α) (k : Nat) (v : α) : upd f k v k = v := if_pos rfl
theorem upd_ne {α : Type} (f : Nat → α) {k x : Nat} (v : α) (h : x ≠ k) : upd f k v x = f x := if_neg h
theorem set_get {α : Type} (t : Tr α) (k : Nat) (x : Option α) : (t.set k x).get = upd t.get k x := funext fun j => Tr.get_set t k x j
def Sub (ρ ρ' : Rho) : Prop := ∀ a s, ρ a = some s → ρ' a = some s
theorem Sub.refl (ρ : Rho) : Sub ρ ρ := fun _ _ h => h
theorem Sub.trans {a b c : Rho} (h : Sub a b) (k : Sub b c) : Sub a c := fun x s e => k x s (h x s e)
theorem Sub.upd {ρ : Rho} {n : Nat} (s : Spot) (h : ρ n = none) : Sub ρ (upd ρ n (some s)) := fun a t e => by
  have : a ≠ n := fun he => by subst he; rw [h] at e; cases e
  rw [upd_ne _ _ this]; exact e

inductive VR (ρ : Rho) : Value → Value → Prop where
  | any (v : Value) : VR ρ bad v
  | bool (b : Bool) : VR ρ (.bool b) (.bool b)
  | int (k : IntKind) (n : Int) : VR ρ (.int k n) (.int k n)
  | float (k : FloatKind) (b : Nat) : VR ρ (.float k b) (.float k b)
  | nan (k : FloatKind) (b b' : Nat) (h : nanB k b = true) (h' : nanB k b' = true) : VR ρ (.float k b) (.float k b')
  | string (s : ByteArray) : VR ρ (.string s) (.string s)
  | ptrNil : VR ρ (.pointer none) (.pointer none)
  | ptr (a o : Nat) (s : Spot) (h : ρ a = some s) : VR ρ (.pointer (some ⟨a, o, none⟩)) (.pointer (some ⟨s.blk, s.base + o, none⟩))
  | ptrI (a j i : Nat) (s : Spot) (h : ρ a = some s) : VR ρ (.pointer (some ⟨a, j, some i⟩)) (.pointer (some ⟨s.blk, s.base + i * s.es + j, none⟩))
  | sliceNil : VR ρ (.slice none 0 0) (.slice none 0 0)
  | sliceI (a i : Nat) (s : Spot) (n c c' o' : Nat) (h : ρ a = some s) (hn : n ≤ c') (hc : c ≠ 0 → 0 < n) (hr : s.ex = false → o' + c' * s.es ≤ s.room) (hv : s.void = false) (ho : o' = s.base + i * s.es ∨ c' = 0) :
      VR ρ (.slice (some ⟨a, 0, some i⟩) n c) (.slice (some ⟨s.blk, o', none⟩) n c')
  | sliceE (a i c' : Nat) (x : Addr) (s : Spot) (h : ρ a = some s) (hx : s.ex = true) : VR ρ (.slice (some ⟨a, 0, some i⟩) 0 0) (.slice (some x) 0 c')
  | sliceN (a i : Nat) : VR ρ (.slice (some ⟨a, 0, some i⟩) 0 1) (.slice none 0 0)
  | sliceZ (a i : Nat) (x : Addr) : VR ρ (.slice (some ⟨a, 0, some i⟩) 0 0) (.slice (some x) 0 0)
  | sliceX (a i : Nat) (x : Option Addr) : VR ρ (.slice (some ⟨a, 1, some i⟩) 0 0) (.slice x 0 0)
  | slice (a o : Nat) (s : Spot) (n c c' o' : Nat) (h : ρ a = some s) (hn : n ≤ c) (hc : c ≤ c') (hx : s.ex = true → c' = c) (hr : s.ex = false → o' + c' * s.es ≤ s.room) (ho : o' = s.base + o ∨ c' = 0) :
      VR ρ (.slice (some ⟨a, o, none⟩) n c) (.slice (some ⟨s.blk, o', none⟩) n c')
  | mapNil : VR ρ (.map none) (.map none)
  | map (a : Nat) (s : Spot) (h : ρ a = some s) : VR ρ (.map (some a)) (.map (some s.blk))
  | nilFunc : VR ρ .nilFunc .nilFunc
  | func (fn : Fn) (a a' b b' : Array Value) (ha : a.size = a'.size) (hb : b.size = b'.size) (h1 : ∀ (i : Nat) (x y : Value), a[i]? = some x → a'[i]? = some y → VR ρ x y) (h2 : ∀ (i : Nat) (x y : Value), b[i]? = some x → b'[i]? = some y → VR ρ x y) :
      VR ρ (.func fn a b) (.func fn a' b')
  | nilIface : VR ρ .nilIface .nilIface
  | iface (t : TypeId) (v v' : Value) (h : VR ρ v v') : VR ρ (.iface t v) (.iface t v')
  | agg (a a' : Array Value) (ha : a.size = a'.size) (h : ∀ (i : Nat) (x y : Value), a[i]? = some x → a'[i]? = some y → VR ρ x y) : VR ρ (.agg a) (.agg a')
  | tuple (a a' : Array Value) (ha : a.size = a'.size) (h : ∀ (i : Nat) (x y : Value), a[i]? = some x → a'[i]? = some y → VR ρ x y) : VR ρ (.tuple a) (.tuple a')

theorem VR.mono {ρ ρ' : Rho} (hs : Sub ρ ρ') {v v' : Value} (h : VR ρ v v') : VR ρ' v v' := by
  induction h with
  | any v => exact .any v
  | bool b => exact .bool b
  | int k n => exact .int k n
  | float k b => exact .float k b
  | nan k b b' h h' => exact .nan k b b' h h'
  | string s => exact .string s
  | ptrNil => exact .ptrNil
  | ptr a o s h => exact .ptr a o s (hs _ _ h)
  | ptrI a j i s h => exact .ptrI a j i s (hs _ _ h)
  | sliceI a i s n c c' o' h hn hc hr hv ho => exact .sliceI a i s n c c' o' (hs _ _ h) hn hc hr hv ho
  | sliceE a i c' x s h hx => exact .sliceE a i c' x s (hs _ _ h) hx
  | sliceN a i => exact .sliceN a i
  | sliceZ a i x => exact .sliceZ a i x
  | sliceX a i x => exact .sliceX a i x
  | sliceNil => exact .sliceNil
  | slice a o s n c c' o' h hn hc hx hr ho => exact .slice a o s n c c' o' (hs _ _ h) hn hc hx hr ho
  | mapNil => exact .mapNil
  | map a s h => exact .map a s (hs _ _ h)
  | nilFunc => exact .nilFunc
  | func fn a a' b b' ha hb h1 h2 ih1 ih2 => exact .func fn a a' b b' ha hb ih1 ih2
  | nilIface => exact .nilIface
  | iface t v v' h ih => exact .iface t v v' ih
  | agg a a' ha h ih => exact .agg a a' ha ih
  | tuple a a' ha h ih => exact .tuple a a' ha ih

/-- lists of values -/
def VRL (ρ : Rho) (l l' : List Value) : Prop := l.length = l'.length ∧ ∀ (i : Nat) (x y : Value), l[i]? = some x → l'[i]? = some y → VR ρ x y
theorem VRL.mono {ρ ρ' : Rho} (hs : Sub ρ ρ') {l l' : List Value} (h : VRL ρ l l') : VRL ρ' l l' := ⟨h.1, fun i x y a b => (h.2 i x y a b).mono hs⟩
theorem VRL.nil (ρ : Rho) : VRL ρ [] [] := ⟨rfl, fun i x y h => by simp at h⟩
theorem VRL.cons {ρ : Rho} {x y : Value} {l l' : List Value} (h : VR ρ x y) (hl : VRL ρ l l') : VRL ρ (x :: l) (y :: l') := by
  refine ⟨by simp [hl.1], fun i a b ha hb => ?_⟩
  cases i with
  | zero => simp at ha hb; subst ha hb; exact h
  | succ i => exact hl.2 i a b (by simpa using ha) (by simpa using hb)
theorem VRL.uncons {ρ : Rho} {x : Value} {l l' : List Value} (h : VRL ρ (x :: l) l') : ∃ y m, l' = y :: m ∧ VR ρ x y ∧ VRL ρ l m := by
  cases l' with
  | nil => have := h.1; simp at this
  | cons y m => exact ⟨y, m, rfl, h.2 0 x y (by simp) (by simp), ⟨by have := h.1; simpa using this, fun i a b ha hb => h.2 (i + 1) a b (by simpa using ha) (by simpa using hb)⟩⟩
theorem VRL.nil_inv {ρ : Rho} {l' : List Value} (h : VRL ρ [] l') : l' = [] := List.eq_nil_of_length_eq_zero h.1.symm
theorem VRL.append {ρ : Rho} {a a' b b' : List Value} (h : VRL ρ a a') (k : VRL ρ b b') : VRL ρ (a ++ b) (a' ++ b') := by
  refine ⟨by simp [h.1, k.1], fun i x y hx hy => ?_⟩
  rcases Nat.lt_or_ge i a.length with hi | hi
  · rw [List.getElem?_append_left hi] at hx
    rw [List.getElem?_append_left (by have := h.1; omega)] at hy
    exact h.2 i x y hx hy
  · rw [List.getElem?_append_right hi] at hx
    rw [List.getElem?_append_right (by have := h.1; omega), ← h.1] at hy
    exact k.2 _ x y hx hy
theorem VRL.take {ρ : Rho} {a a' : List Value} (n : Nat) (h : VRL ρ a a') : VRL ρ (a.take n) (a'.take n) := by
  refine ⟨by simp [h.1], fun i x y hx hy => ?_⟩
  rw [List.getElem?_take] at hx hy
  split at hx
  · rename_i hi; rw [if_pos hi] at hy; exact h.2 i x y hx hy
  · cases hx
theorem VRL.drop {ρ : Rho} {a a' : List Value} (n : Nat) (h : VRL ρ a a') : VRL ρ (a.drop n) (a'.drop n) :=
  ⟨by simp [h.1], fun i x y hx hy => h.2 (n + i) x y (by simpa using hx) (by simpa using hy)⟩
theorem VRL.get {ρ : Rho} {a a' : List Value} (h : VRL ρ a a') {i : Nat} {x : Value} (hx : a[i]? = some x) : ∃ y, a'[i]? = some y ∧ VR ρ x y := by
  have hi : i < a'.length := by
    rw [← h.1]
    exact (List.getElem?_eq_some_iff.1 hx).1
  exact ⟨a'[i], by simp [hi], h.2 i x _ hx (by simp [hi])⟩
theorem VR.agg' {ρ : Rho} {l l' : List Value} (h : VRL ρ l l') : VR ρ (.agg l.toArray) (.agg l'.toArray) := .agg _ _ (by simpa using h.1) (fun i x y hx hy => h.2 i x y (by simpa using hx) (by simpa using hy))
theorem VR.tuple' {ρ : Rho} {l l' : List Value} (h : VRL ρ l l') : VR ρ (.tuple l.toArray) (.tuple l'.toArray) := .tuple _ _ (by simpa using h.1) (fun i x y hx hy => h.2 i x y (by simpa using hx) (by simpa using hy))
theorem VRL.of_arrays {ρ : Rho} {a a' : Array Value} (ha : a.size = a'.size) (h : ∀ (i : Nat) (x y : Value), a[i]? = some x → a'[i]? = some y → VR ρ x y) : VRL ρ a.toList a'.toList :=
  ⟨by simpa using ha, fun i x y hx hy => h i x y (by simpa using hx) (by simpa using hy)⟩

/-! ### what has no address in it is what it is -/
theorem VR.ground {ρ : Rho} : ∀ (n : Nat) {v v' : Value}, Ev.ground n v = true → VR ρ v v' → v' = v := by
  intro n
  induction n with
  | zero => intro v v' hg h; cases h <;> simp [Ev.ground, bad] at hg <;> first | rfl | simp_all
  | succ n ih =>
    have key : ∀ (a a' : Array Value), a.size = a'.size → (∀ (i : Nat) (x y : Value), a[i]? = some x → a'[i]? = some y → VR ρ x y) → a.toList.all (Ev.ground n) = true → a' = a := by
      intro a a' hs h hg
      apply Array.ext hs.symm
      intro i h1 h2
      have h3 := h i a[i] a'[i] (by simp [h2]) (by simp [h1])
      refine ih ?_ h3
      rw [List.all_eq_true] at hg
      exact hg _ (by simp)
    intro v v' hg h
    cases h with
    | any v => simp [Ev.ground, bad] at hg
    | nan k b b' h h' => simp [Ev.ground, h] at hg
    | ptr => simp [Ev.ground] at hg
    | ptrI => simp [Ev.ground] at hg
    | sliceI => simp [Ev.ground] at hg
    | sliceE => simp [Ev.ground] at hg
    | sliceN => simp [Ev.ground] at hg
    | sliceZ => simp [Ev.ground] at hg
    | sliceX => simp [Ev.ground] at hg
    | slice => simp [Ev.ground] at hg
    | map => simp [Ev.ground] at hg
    | func fn a a' b b' ha hb h1 h2 =>
      simp only [Ev.ground, Bool.and_eq_true] at hg
      rw [key a a' ha h1 hg.1, key b b' hb h2 hg.2]
    | iface t v v' h => simp only [Ev.ground] at hg; rw [ih hg h]
    | agg a a' ha h => simp only [Ev.ground] at hg; rw [key a a' ha h hg]
    | tuple a a' ha h => simp only [Ev.ground] at hg; rw [key a a' ha h hg]
    | _ => rfl
theorem VR.refl {ρ : Rho} : ∀ (n : Nat) {v : Value}, Ev.ground n v = true → VR ρ v v := by
  intro n
  induction n with
  | zero =>
    intro v hg
    cases v with
    | bool b => exact .bool b
    | int k n => exact .int k n
    | float k b => exact .float k b
    | string s => exact .string s
    | pointer a => cases a with | none => exact .ptrNil | some a => simp [Ev.ground] at hg
    | slice a n c => cases a with
      | none => cases n <;> cases c <;> first | exact .sliceNil | simp [Ev.ground] at hg
      | some a => simp [Ev.ground] at hg
    | map r => cases r with | none => exact .mapNil | some r => simp [Ev.ground] at hg
    | nilFunc => exact .nilFunc
    | nilIface => exact .nilIface
    | _ => simp [Ev.ground] at hg
  | succ n ih =>
    have key : ∀ (a : Array Value), a.toList.all (Ev.ground n) = true → ∀ (i : Nat) (x y : Value), a[i]? = some x → a[i]? = some y → VR ρ x y := by
      intro a hg i x y hx hy
      rw [hx] at hy; cases hy
      rw [List.all_eq_true] at hg
      exact ih (hg x (by simpa using Array.mem_of_getElem? hx))
    intro v hg
    cases v with
    | bool b => exact .bool b
    | int k n => exact .int k n
    | float k b => exact .float k b
    | string s => exact .string s
    | pointer a => cases a with | none => exact .ptrNil | some a => simp [Ev.ground] at hg
    | slice a n c => cases a with
      | none => cases n <;> cases c <;> first | exact .sliceNil | simp [Ev.ground] at hg
      | some a => simp [Ev.ground] at hg
    | map r => cases r with | none => exact .mapNil | some r => simp [Ev.ground] at hg
    | nilFunc => exact .nilFunc
    | nilIface => exact .nilIface
    | func fn a b =>
      simp only [Ev.ground, Bool.and_eq_true] at hg
      exact .func fn a a b b rfl rfl (key a hg.1) (key b hg.2)
    | iface t v => simp only [Ev.ground] at hg; exact .iface t v v (ih hg)
    | agg a => simp only [Ev.ground] at hg; exact .agg a a rfl (key a hg)
    | tuple a => simp only [Ev.ground] at hg; exact .tuple a a rfl (key a hg)
    | _ => simp [Ev.ground] at hg

theorem refl1_VR {ρ : Rho} {v : Value} (h : refl1 v = true) : VR ρ v v := by
  cases v with
  | float k b => exact .float k b
  | _ => exact VR.refl 1 h

/-! ### memory -/
/-- blocks that are written no more -/
def Frz (ρ : Rho) (b : Nat) : Prop := ∃ a s, ρ a = some s ∧ s.fz b
theorem Frz.mono {ρ ρ' : Rho} (hs : Sub ρ ρ') {b : Nat} (h : Frz ρ b) : Frz ρ' b := by
  obtain ⟨a, s, h1, h2⟩ := h
  exact ⟨a, s, hs a s h1, h2⟩
theorem Frz.upd_inv {ρ : Rho} {n : Nat} {s : Spot} {b : Nat} (h : Frz (upd ρ n (some s)) b) : Frz ρ b ∨ s.fz b := by
  obtain ⟨a, t, h1, h2⟩ := h
  by_cases ha : a = n
  · subst ha; rw [upd_same] at h1; cases h1; exact .inr h2
  · rw [upd_ne _ _ ha] at h1; exact .inl ⟨a, t, h1, h2⟩
def nofz (_ : Nat) : Prop := False
theorem Frz.upd_no {ρ : Rho} {n : Nat} {s : Spot} (hz : ∀ b, ¬ s.fz b) {b : Nat} (h : Frz (upd ρ n (some s)) b) : Frz ρ b := by
  rcases h.upd_inv with h | h
  · exact h
  · exact absurd h (hz b)
def noRho : Rho := fun _ => none
theorem noRho_sub (ρ : Rho) : Sub noRho ρ := fun a s h => by cases h
/-- what is told of a cell holds of what stands there -/
def TR (w : World) (F : Nat → Prop) : Td → Value → Prop
  | .sc x, y => VR noRho x y
  | .fr es n c e, y => (n = 0 ∧ c = 1 ∧ y = .slice none 0 0) ∨ (n = 0 ∧ c = 0 ∧ ∃ a c', y = .slice (some a) 0 c') ∨
      (0 < n ∧ ∃ b o c', y = .slice (some ⟨b, o, none⟩) n c' ∧ n ≤ c' ∧ F b ∧ ∀ i, i < n → ∀ j, j < es → ∃ z, w.cell? ⟨b, o + i * es + j, none⟩ = some z ∧ z.oneCell' = true ∧ TR w F (e i j) z)
theorem TR.kept {w w' : World} {F F' : Nat → Prop} (hF : ∀ b, F b → F' b) (hw : ∀ b, F b → w'.heap[b]? = w.heap[b]?) : ∀ {t : Td} {y : Value}, TR w F t y → TR w' F' t y := by
  intro t
  induction t with
  | sc x => intro y h; exact h
  | fr es n c e ih =>
    intro y h
    rcases h with h | h | ⟨h0, b, o, c', h1, h2, h3, h4⟩
    · exact .inl h
    · exact .inr (.inl h)
    · refine .inr (.inr ⟨h0, b, o, c', h1, h2, hF b h3, fun i hi j hj => ?_⟩)
      obtain ⟨z, z1, z2, z3⟩ := h4 i hi j hj
      refine ⟨z, ?_, z2, ih i j z3⟩
      unfold World.cell? at z1 ⊢
      simp only at z1 ⊢
      rw [hw b h3]; exact z1
/-- no cell of the row may not be written -/
def FrOk (n : Nat) (fr : Nat × Nat) : Prop := fr = (0, 0) ∨ n ≤ fr.1
theorem FrOk.free {n : Nat} {fr : Nat × Nat} (h : FrOk n fr) : ∀ k, k < n → ¬ (fr.1 ≤ k ∧ k < fr.2) := by
  intro k hk
  rcases h with h | h
  · subst h; simp
  · omega
def ObjR (ρ : Rho) (o : AObj) (s : Spot) (w : World) : Prop := match o with
  | .cells cs ex es => s.void = false ∧ s.ex = ex ∧ s.es = es ∧ ∃ C t fr, w.heap[s.blk]? = some (.cells C t fr) ∧ C.size = s.room ∧ FrOk C.size fr ∧ s.base + cs.length ≤ s.room ∧
      ∀ (i : Nat) (x : Value), cs[i]? = some x → ∃ y, C[s.base + i]? = some y ∧ VR ρ x y
  | .old cs ex es => s.void = false ∧ s.ex = ex ∧ s.es = es ∧ Frz ρ s.blk ∧ ∃ C t fr, w.heap[s.blk]? = some (.cells C t fr) ∧ s.base + cs.length ≤ C.size ∧
      ∀ (i : Nat) (x : Value), cs[i]? = some x → ∃ y, C[s.base + i]? = some y ∧ VR ρ x y
  | .row k es lo n elem => s.es = es ∧ (s.void = true → n ≤ lo) ∧
      (k = .mine → s.ex = false ∧ lo = 0 ∧ (s.void = false → ∃ C t fr, w.heap[s.blk]? = some (.cells C t fr) ∧ C.size = s.room ∧ FrOk C.size fr ∧ s.base + n * es ≤ s.room)) ∧
      (k = .still → s.void = false → Frz ρ s.blk) ∧
      ∀ (i : Nat), lo ≤ i → i < n → ∀ (j : Nat), j < es → ∃ y, w.cell? ⟨s.blk, s.base + i * s.es + j, none⟩ = some y ∧ y.oneCell' = true ∧ TR w (Frz ρ) (elem i j) y
  | .map es clock => s.void = false ∧ ∃ E, w.heap[s.blk]? = some (.map E clock) ∧ E.size = es.length ∧ ∀ (i : Nat) (e : MapEntry), es[i]? = some e → ∃ e', E[i]? = some e' ∧ e'.key = e.key ∧ e'.born = e.born ∧ Ev.ground 3 e.key = true ∧ VR ρ e.val e'.val
  | .omap kk vk es => s.void = false ∧ (es.all fun p => keyFit kk p.1 && valFit vk p.2) = true ∧ ∃ E clock, w.heap[s.blk]? = some (.map E clock) ∧ E.toList.map (fun e => (e.key, e.val)) = es
  | .iter str pos => s.void = false ∧ w.heap[s.blk]? = some (.stringIter str pos)
theorem ObjR.kept {ρ ρ' : Rho} {o : AObj} {s : Spot} {w w' : World} (h : ObjR ρ o s w) (hs : Sub ρ ρ') (hw : s.void = false → w'.heap[s.blk]? = w.heap[s.blk]?) (hF : ∀ b, Frz ρ b → w'.heap[b]? = w.heap[b]?) : ObjR ρ' o s w' := by
  cases o with
  | cells cs ex es =>
    obtain ⟨h0, h1, h2, C, t, fr, h3, h4, h5, h6, h7⟩ := h
    refine ⟨h0, h1, h2, C, t, fr, (hw h0).trans h3, h4, h5, h6, fun i x hx => ?_⟩
    obtain ⟨y, hy, hv⟩ := h7 i x hx
    exact ⟨y, hy, hv.mono hs⟩
  | old cs ex es =>
    obtain ⟨h0, h1, h2, hz, C, t, fr, h3, h6, h7⟩ := h
    refine ⟨h0, h1, h2, hz.mono hs, C, t, fr, (hw h0).trans h3, h6, fun i x hx => ?_⟩
    obtain ⟨y, hy, hv⟩ := h7 i x hx
    exact ⟨y, hy, hv.mono hs⟩
  | row own es lo n elem =>
    obtain ⟨h1, h2, h3, hz, h4⟩ := h
    refine ⟨h1, h2, fun ho => ?_, fun ho hv => (hz ho hv).mono hs, fun i k1 k2 j hj => ?_⟩
    · obtain ⟨a1, a2, a3⟩ := h3 ho
      refine ⟨a1, a2, fun hv => ?_⟩
      obtain ⟨C, t, fr, b1, b2⟩ := a3 hv
      exact ⟨C, t, fr, (hw hv).trans b1, b2⟩
    · obtain ⟨y, hy, h1c, hv⟩ := h4 i k1 k2 j hj
      have hvoid : s.void = false := by
        cases hq : s.void with
        | false => rfl
        | true => have := h2 hq; omega
      refine ⟨y, ?_, h1c, hv.kept (fun b => Frz.mono hs) hF⟩
      unfold World.cell? at hy ⊢
      simp only at hy ⊢
      rw [hw hvoid]; exact hy
  | map es clock =>
    obtain ⟨h0, E, h1, h2, h3⟩ := h
    refine ⟨h0, E, (hw h0).trans h1, h2, fun i e he => ?_⟩
    obtain ⟨e', a1, a2, a3, a4, a5⟩ := h3 i e he
    exact ⟨e', a1, a2, a3, a4, a5.mono hs⟩
  | omap kk vk es =>
    obtain ⟨h0, h1, E, clock, h2, h3⟩ := h
    exact ⟨h0, h1, E, clock, (hw h0).trans h2, h3⟩
  | iter str pos => exact ⟨h.1, (hw h.1).trans h.2⟩

/-- what may be written -/
def AObj.isOwn : AObj → Bool
  | .row .mine .. => true
  | .row _ .. | .old .. => false
  | _ => true
/-- a block that is something's that may be written -/
def Own (g : Mem) (ρ : Rho) (b : Nat) : Prop := ∃ a o s, g a = some o ∧ o.isOwn = true ∧ ρ a = some s ∧ s.void = false ∧ s.blk = b
/-- variables of the library's that are read: each holds some number -/
def glB : List Nat := [1]
def Gl1 (w : World) (b : Nat) : Prop := ∃ m : Int, w.cell? ⟨b, 0, none⟩ = some (.int .i64 m)
theorem Gl1.kept {w w' : World} {b : Nat} (h : Gl1 w b) (hh : w'.heap[b]? = w.heap[b]?) : Gl1 w' b := by
  obtain ⟨m, h⟩ := h
  refine ⟨m, ?_⟩
  unfold World.cell? at h ⊢
  rw [hh]; exact h
def GlA (w : World) : Prop := ∀ b ∈ glB, b < w.heap.size ∧ Gl1 w b
theorem GlA.kept {w w' : World} (h : GlA w) (hs : w.heap.size ≤ w'.heap.size) (hh : ∀ b, b < w.heap.size → w'.heap[b]? = w.heap[b]?) : GlA w' := fun b hb => ⟨Nat.lt_of_lt_of_le (h b hb).1 hs, (h b hb).2.kept (hh b (h b hb).1)⟩
/-- blocks of which it is told that they are left as they are -/
structure FOk (w : World) (F : Nat → Prop) : Prop where
  lt : ∀ b, F b → b < w.heap.size
  gl : GlA w
/-- values that are handed in -/
structure VRG (w : World) (l l' : List Value) : Prop where
  vr : VRL (fun _ => none) l l'
  gl : GlA w
structure WR (ρ : Rho) (g : Mem) (w : World) : Prop where
  blk : ∀ a s, ρ a = some s → s.void = false → s.blk < w.heap.size
  obj : ∀ a o, g a = some o → ∃ s, ρ a = some s ∧ ObjR ρ o s w
  inj : ∀ a b oa ob sa sb, g a = some oa → g b = some ob → (oa.isOwn = true ∨ ob.isOwn = true) → ρ a = some sa → ρ b = some sb → sa.void = false → sb.void = false → sa.blk = sb.blk → a = b
  fz : ∀ b, Frz ρ b → b < w.heap.size ∧ ¬ Own g ρ b
  gl : ∀ b ∈ glB, b < w.heap.size ∧ Gl1 w b ∧ ¬ Own g ρ b
theorem WR.glA {ρ : Rho} {g : Mem} {w : World} (h : WR ρ g w) : GlA w := fun b hb => ⟨(h.gl b hb).1, (h.gl b hb).2.1⟩
def Fresh (ρ : Rho) (n n' : Nat) : Prop := ∀ a, n ≤ a → a < n' → ρ a = none

structure Mv (ρ ρ' : Rho) (g g' : Mem) (n n' : Nat) (w w' : World) : Prop where
  nx : n ≤ n'
  ext : Sub ρ ρ'
  new : ∀ a s, ρ' a = some s → ρ a = some s ∨ (n ≤ a ∧ a < n')
  size : w.heap.size ≤ w'.heap.size
  frm : ∀ b, b < w.heap.size → ¬ Own g ρ b → w'.heap[b]? = w.heap[b]?
  own : ∀ b, Own g' ρ' b → w.heap.size ≤ b ∨ Own g ρ b
  os : w'.os = w.os
  tape : w'.tape = w.tape
  output : w'.output = w.output
  wr : WR ρ' g' w'
  dom : ∀ a o, g' a = some o → (∃ o', g a = some o') ∨ (n ≤ a ∧ a < n')
  ro : ∀ a o, g' a = some o → o.isOwn = false → g a = some o ∨ ∀ s, ρ' a = some s → s.void = false → Frz ρ' s.blk
  fzn : ∀ b, Frz ρ' b → Frz ρ b ∨ w.heap.size ≤ b ∨ Own g ρ b
theorem Mv.frz {ρ ρ' : Rho} {g g' : Mem} {n n' : Nat} {w w' : World} (h : Mv ρ ρ' g g' n n' w w') (hw : WR ρ g w) : ∀ b, Frz ρ b → w'.heap[b]? = w.heap[b]? := fun b hb => h.frm b (hw.fz b hb).1 (hw.fz b hb).2
theorem fz_keep {ρ ρ' : Rho} {g g' : Mem} {w w' : World} (h : WR ρ g w) (hsz : w.heap.size ≤ w'.heap.size) (hown : ∀ b, Own g' ρ' b → w.heap.size ≤ b ∨ Own g ρ b) (hfz : ∀ b, Frz ρ' b → Frz ρ b) : ∀ b, Frz ρ' b → b < w'.heap.size ∧ ¬ Own g' ρ' b := fun b hb => by
  obtain ⟨h1, h2⟩ := h.fz b (hfz b hb)
  refine ⟨by omega, fun ho => ?_⟩
  rcases hown b ho with h3 | h3
  · omega
  · exact h2 h3

theorem gl_keep {ρ ρ' : Rho} {g g' : Mem} {w w' : World} (h : WR ρ g w) (hsz : w.heap.size ≤ w'.heap.size) (hfrm : ∀ b, b < w.heap.size → ¬ Own g ρ b → w'.heap[b]? = w.heap[b]?) (hown : ∀ b, Own g' ρ' b → w.heap.size ≤ b ∨ Own g ρ b) : ∀ b ∈ glB, b < w'.heap.size ∧ Gl1 w' b ∧ ¬ Own g' ρ' b := fun b hb => by
  obtain ⟨h1, h2, h3⟩ := h.gl b hb
  refine ⟨by omega, h2.kept (hfrm b h1 h3), fun ho => ?_⟩
  rcases hown b ho with h4 | h4
  · omega
  · exact h3 h4
theorem gl_own {ρ ρ' : Rho} {g g' : Mem} {w : World} (h : WR ρ g w) (hown : ∀ b, Own g' ρ' b → Own g ρ b) : ∀ b ∈ glB, b < w.heap.size ∧ Gl1 w b ∧ ¬ Own g' ρ' b := fun b hb => by
  obtain ⟨h1, h2, h3⟩ := h.gl b hb
  exact ⟨h1, h2, fun ho => h3 (hown b ho)⟩
theorem Mv.refl {ρ : Rho} {g : Mem} {w : World} (h : WR ρ g w) (n : Nat) : Mv ρ ρ g g n n w w :=
  ⟨Nat.le_refl _, Sub.refl _, fun _ _ h => .inl h, Nat.le_refl _, fun _ _ _ => rfl, fun _ h => .inr h, rfl, rfl, rfl, h, fun a o h => .inl ⟨o, h⟩, fun _ _ h _ => .inl h, fun _ h => .inl h⟩
theorem Mv.trans {ρ ρ1 ρ2 : Rho} {g g1 g2 : Mem} {n n1 n2 : Nat} {w w1 w2 : World} (h : Mv ρ ρ1 g g1 n n1 w w1) (k : Mv ρ1 ρ2 g1 g2 n1 n2 w1 w2) : Mv ρ ρ2 g g2 n n2 w w2 where
  nx := Nat.le_trans h.nx k.nx
  ext := h.ext.trans k.ext
  new a s e := by
    have hn := h.nx; have kn := k.nx
    rcases k.new a s e with e1 | e1
    · rcases h.new a s e1 with e2 | e2
      · exact .inl e2
      · exact .inr ⟨by omega, by omega⟩
    · exact .inr ⟨by omega, by omega⟩
  size := Nat.le_trans h.size k.size
  frm b hb ho := by
    have h1 : ¬ Own g1 ρ1 b := fun h2 => by
      rcases h.own b h2 with h3 | h3
      · omega
      · exact ho h3
    rw [k.frm b (Nat.lt_of_lt_of_le hb h.size) h1, h.frm b hb ho]
  own b hb := by
    rcases k.own b hb with h1 | h1
    · exact .inl (Nat.le_trans h.size h1)
    · exact h.own b h1
  os := k.os.trans h.os
  tape := k.tape.trans h.tape
  output := k.output.trans h.output
  wr := k.wr
  dom a o e := by
    have hn := h.nx; have kn := k.nx
    rcases k.dom a o e with ⟨o', e1⟩ | e1
    · rcases h.dom a o' e1 with e2 | e2
      · exact .inl e2
      · exact .inr ⟨by omega, by omega⟩
    · exact .inr ⟨by omega, by omega⟩
  ro a o e ho := by
    rcases k.ro a o e ho with e1 | e1
    · rcases h.ro a o e1 ho with e2 | e2
      · exact .inl e2
      · obtain ⟨s1, r1, _⟩ := h.wr.obj a o e1
        refine .inr fun s hs hv => ?_
        have hq := k.ext a s1 r1
        have hq2 : s1 = s := Option.some.inj (hq.symm.trans hs)
        exact ((e2 s1 r1 (by rw [hq2]; exact hv)).mono k.ext : Frz ρ2 s1.blk) |> fun h => by rw [hq2] at h; exact h
    · exact .inr e1
  fzn b hb := by
    rcases k.fzn b hb with h1 | h1 | h1
    · exact h.fzn b h1
    · exact .inr (.inl (Nat.le_trans h.size h1))
    · exact .inr (h.own b h1)
/-- what was free stays free for those behind -/
theorem Mv.fresh {ρ ρ1 : Rho} {g g1 : Mem} {n n1 n2 : Nat} {w w1 : World} (h : Mv ρ ρ1 g g1 n n1 w w1) (hf : Fresh ρ n n2) : Fresh ρ1 n1 n2 := fun a h1 h2 => by
  cases e : ρ1 a with
  | none => rfl
  | some s =>
    have hn := h.nx
    rcases h.new a s e with e1 | e1
    · rw [hf a (by omega) h2] at e1; cases e1
    · omega
theorem Fresh.left {ρ : Rho} {n n1 n2 : Nat} (h : Fresh ρ n n2) (hn : n1 ≤ n2) : Fresh ρ n n1 := fun a h1 h2 => h a h1 (by omega)

/-- a step in which memory is left as it is, but for draws -/
theorem Mv.same {ρ : Rho} {g : Mem} {w w' : World} (h : WR ρ g w) (n : Nat) (hh : w'.heap = w.heap) (h1 : w'.os = w.os) (h2 : w'.tape = w.tape) (h3 : w'.output = w.output) : Mv ρ ρ g g n n w w' :=
  ⟨Nat.le_refl _, Sub.refl _, fun _ _ h => .inl h, by rw [hh]; exact Nat.le_refl _, fun _ _ _ => by rw [hh], fun _ h => .inr h, h1, h2, h3,
    ⟨fun a s e => by rw [hh]; exact h.blk a s e, fun a o e => by obtain ⟨s, e1, e2⟩ := h.obj a o e; exact ⟨s, e1, e2.kept (Sub.refl _) (fun _ => by rw [hh]) (fun _ _ => by rw [hh])⟩, h.inj, fun b hb => by rw [hh]; exact h.fz b hb, gl_keep h (by rw [hh]; exact Nat.le_refl _) (fun _ _ _ => by rw [hh]) fun _ h => .inr h⟩, fun a o h => .inl ⟨o, h⟩, fun _ _ h _ => .inl h, fun _ h => .inl h⟩

/-- a new object -/
theorem Mv.alloc {ρ : Rho} {g : Mem} {w w' : World} {n : Nat} (h : WR ρ g w) (hf : ρ n = none) (o : AObj) (how : o.isOwn = true) (s : Spot) (hz : ∀ b, ¬ s.fz b) (hs : s.blk = w.heap.size) (hsz : w'.heap.size = w.heap.size + 1)
    (hh : ∀ b, b < w.heap.size → w'.heap[b]? = w.heap[b]?) (ho : ObjR (upd ρ n (some s)) o s w') (h1 : w'.os = w.os) (h2 : w'.tape = w.tape) (h3 : w'.output = w.output) :
    Mv ρ (upd ρ n (some s)) g (upd g n (some o)) n (n + 1) w w' := by
  have hsub : Sub ρ (upd ρ n (some s)) := Sub.upd s hf
  have hown : ∀ b, Own (upd g n (some o)) (upd ρ n (some s)) b → w.heap.size ≤ b ∨ Own g ρ b := fun b hb => by
    obtain ⟨a, o', s', e1, e0, e2, e4, e3⟩ := hb
    by_cases ha : a = n
    · subst ha; rw [upd_same] at e2; cases e2; left; omega
    · rw [upd_ne _ _ ha] at e1 e2; exact .inr ⟨a, o', s', e1, e0, e2, e4, e3⟩
  refine ⟨by omega, hsub, fun a t e => ?_, by omega, fun b hb _ => hh b hb, hown, h1, h2, h3, ⟨fun a t e hv => ?_, fun a o' e => ?_, fun a b oa ob sa sb ea eb eo ra rb va vb heq => ?_, fz_keep h (by omega) hown (fun b hb => hb.upd_no hz), gl_keep h (by omega) (fun b hb _ => hh b hb) hown⟩, fun a o' e => ?_, fun a o' e ho' => ?_, fun b hb => .inl (hb.upd_no hz)⟩
  · by_cases ha : a = n
    · exact .inr (by omega)
    · rw [upd_ne _ _ ha] at e; exact .inl e
  · by_cases ha : a = n
    · subst ha; rw [upd_same] at e; cases e; omega
    · rw [upd_ne _ _ ha] at e; have := h.blk a t e hv; omega
  · by_cases ha : a = n
    · subst ha; rw [upd_same] at e; cases e; exact ⟨s, upd_same _ _ _, ho⟩
    · rw [upd_ne _ _ ha] at e
      obtain ⟨s', e1, e2⟩ := h.obj a o' e
      exact ⟨s', by rw [upd_ne _ _ ha]; exact e1, e2.kept hsub (fun hv => hh _ (h.blk a s' e1 hv)) (fun b hb => hh b (h.fz b hb).1)⟩
  · by_cases ha : a = n
    · by_cases hb : b = n
      · omega
      · subst ha
        rw [upd_same] at ra; cases ra
        rw [upd_ne _ _ hb] at rb
        have := h.blk b sb rb vb
        omega
    · by_cases hb : b = n
      · subst hb
        rw [upd_same] at rb; cases rb
        rw [upd_ne _ _ ha] at ra
        have := h.blk a sa ra va
        omega
      · rw [upd_ne _ _ ha] at ra ea; rw [upd_ne _ _ hb] at rb eb
        exact h.inj a b oa ob sa sb ea eb eo ra rb va vb heq
  · by_cases ha : a = n
    · exact .inr (by omega)
    · rw [upd_ne _ _ ha] at e; exact .inl ⟨o', e⟩
  · by_cases ha : a = n
    · subst ha; rw [upd_same] at e; cases e; rw [how] at ho'; cases ho'
    · rw [upd_ne _ _ ha] at e; exact .inl e
/-- a new object with nothing in it, or one that nobody writes -/
theorem Mv.void {ρ : Rho} {g : Mem} {w w' : World} {n : Nat} (h : WR ρ g w) (hf : ρ n = none) (o : AObj) (s : Spot) (hz : ∀ b, ¬ s.fz b) (hs : s.void = true ∨ (o.isOwn = false ∧ Frz ρ s.blk)) (hh : w'.heap = w.heap) (ho : ObjR (upd ρ n (some s)) o s w') (h1 : w'.os = w.os) (h2 : w'.tape = w.tape) (h3 : w'.output = w.output) :
    Mv ρ (upd ρ n (some s)) g (upd g n (some o)) n (n + 1) w w' := by
  have hsub : Sub ρ (upd ρ n (some s)) := Sub.upd s hf
  have hno : ∀ {q : Bool}, q = true → q = false → False := by intro q a b; rw [a] at b; cases b
  have hown : ∀ b, Own (upd g n (some o)) (upd ρ n (some s)) b → w.heap.size ≤ b ∨ Own g ρ b := fun b hb => by
    obtain ⟨a, o', s', e1, e0, e2, e4, e3⟩ := hb
    by_cases ha : a = n
    · subst ha; rw [upd_same] at e2; cases e2; rw [upd_same] at e1; cases e1
      rcases hs with hs | hs
      · exact (hno hs e4).elim
      · exact (hno e0 hs.1).elim
    · rw [upd_ne _ _ ha] at e1 e2; exact .inr ⟨a, o', s', e1, e0, e2, e4, e3⟩
  -- beside what may be written it does not lie
  have hcross : ∀ b ob sb, g b = some ob → ρ b = some sb → sb.void = false → s.void = false → (o.isOwn = true ∨ ob.isOwn = true) → sb.blk = s.blk → False := fun b ob sb eb rb vb vs eo heq => by
    rcases hs with hs | ⟨hs1, hs2⟩
    · exact hno hs vs
    · rcases eo with eo | eo
      · exact hno eo hs1
      · exact (h.fz _ hs2).2 ⟨b, ob, sb, eb, eo, rb, vb, heq⟩
  refine ⟨by omega, hsub, fun a t e => ?_, by rw [hh]; exact Nat.le_refl _, fun b hb _ => by rw [hh], hown, h1, h2, h3, ⟨fun a t e hv => ?_, fun a o' e => ?_, fun a b oa ob sa sb ea eb eo ra rb va vb heq => ?_, fz_keep h (by rw [hh]; exact Nat.le_refl _) hown (fun b hb => hb.upd_no hz), gl_keep h (by rw [hh]; exact Nat.le_refl _) (fun b _ _ => by rw [hh]) hown⟩, fun a o' e => ?_, fun a o' e ho' => ?_, fun b hb => .inl (hb.upd_no hz)⟩
  · by_cases ha : a = n
    · exact .inr (by omega)
    · rw [upd_ne _ _ ha] at e; exact .inl e
  · by_cases ha : a = n
    · subst ha; rw [upd_same] at e; cases e
      rcases hs with hs | hs
      · exact (hno hs hv).elim
      · rw [hh]; exact (h.fz _ hs.2).1
    · rw [upd_ne _ _ ha] at e; rw [hh]; exact h.blk a t e hv
  · by_cases ha : a = n
    · subst ha; rw [upd_same] at e; cases e; exact ⟨s, upd_same _ _ _, ho⟩
    · rw [upd_ne _ _ ha] at e
      obtain ⟨s', e1, e2⟩ := h.obj a o' e
      exact ⟨s', by rw [upd_ne _ _ ha]; exact e1, e2.kept hsub (fun _ => by rw [hh]) (fun _ _ => by rw [hh])⟩
  · by_cases ha : a = n
    · by_cases hb : b = n
      · omega
      · subst ha; rw [upd_same] at ra ea; cases ra; cases ea
        rw [upd_ne _ _ hb] at rb eb
        exact (hcross b ob sb eb rb vb va eo heq.symm).elim
    · by_cases hb : b = n
      · subst hb; rw [upd_same] at rb eb; cases rb; cases eb
        rw [upd_ne _ _ ha] at ra ea
        exact (hcross a oa sa ea ra va vb eo.symm heq).elim
      · rw [upd_ne _ _ ha] at ra ea; rw [upd_ne _ _ hb] at rb eb
        exact h.inj a b oa ob sa sb ea eb eo ra rb va vb heq
  · by_cases ha : a = n
    · exact .inr (by omega)
    · rw [upd_ne _ _ ha] at e; exact .inl ⟨o', e⟩
  · by_cases ha : a = n
    · subst ha; rw [upd_same] at e; cases e
      refine .inr fun t ht hv => ?_
      rw [upd_same] at ht; cases ht
      rcases hs with hs | hs
      · exact (hno hs hv).elim
      · exact hs.2.mono hsub
    · rw [upd_ne _ _ ha] at e; exact .inl e
/-- of an object no more is said -/
theorem Mv.drop {ρ : Rho} {g : Mem} {w : World} (n x : Nat) (h : WR ρ g w) : Mv ρ ρ g (upd g x none) n n w w := by
  have hg : ∀ a o, upd g x none a = some o → g a = some o := fun a o e => by
    by_cases ha : a = x
    · subst ha; rw [upd_same] at e; cases e
    · rw [upd_ne _ _ ha] at e; exact e
  have hown : ∀ b, Own (upd g x none) ρ b → w.heap.size ≤ b ∨ Own g ρ b := fun b ⟨a, o, s, e1, e2⟩ => .inr ⟨a, o, s, hg a o e1, e2⟩
  exact ⟨Nat.le_refl _, Sub.refl _, fun _ _ e => .inl e, Nat.le_refl _, fun _ _ _ => rfl, hown, rfl, rfl, rfl,
    ⟨h.blk, fun a o e => h.obj a o (hg a o e), fun a b oa ob sa sb ea eb => h.inj a b oa ob sa sb (hg a oa ea) (hg b ob eb), fz_keep h (Nat.le_refl _) hown (fun _ hb => hb), gl_keep h (Nat.le_refl _) (fun _ _ _ => rfl) hown⟩, fun a o e => .inl ⟨o, hg a o e⟩, fun a o e _ => .inl (hg a o e), fun _ hb => .inl hb⟩
/-- what is one's own is written no more -/
theorem Mv.froze {ρ : Rho} {g : Mem} {w : World} {n x : Nat} {o o' : AObj} {s t : Spot} (h : WR ρ g w) (hf : ρ n = none) (hx : g x = some o) (hxo : o.isOwn = true) (hs : ρ x = some s) (hxo' : o'.isOwn = false) (ht : t.void = true) (htf : ∀ b, t.fz b ↔ (s.void = false ∧ b = s.blk))
    (hor : ObjR (upd ρ n (some t)) o' s w) : Mv ρ (upd ρ n (some t)) g (upd g x (some o')) n (n + 1) w w := by
  have hsub : Sub ρ (upd ρ n (some t)) := Sub.upd t hf
  have hno : ∀ {q : Bool}, q = true → q = false → False := by intro q a b; rw [a] at b; cases b
  have hg : ∀ a o, g a = some o → a ≠ n := fun a o e he => by
    subst he
    obtain ⟨s', e1, _⟩ := h.obj a o e
    rw [hf] at e1; cases e1
  have hxn : x ≠ n := hg x o hx
  have hsame : ∀ a oa, upd g x (some o') a = some oa → (a = x ∧ oa = o') ∨ (a ≠ x ∧ g a = some oa) := fun a oa e => by
    by_cases ha : a = x
    · subst ha; rw [upd_same] at e; cases e; exact .inl ⟨rfl, rfl⟩
    · rw [upd_ne _ _ ha] at e; exact .inr ⟨ha, e⟩
  have hρ : ∀ a oa sa, upd g x (some o') a = some oa → upd ρ n (some t) a = some sa → ρ a = some sa := fun a oa sa e r => by
    have : a ≠ n := by
      rcases hsame a oa e with ⟨rfl, _⟩ | ⟨_, e2⟩
      · exact hxn
      · exact hg a oa e2
    rw [upd_ne _ _ this] at r; exact r
  have hown : ∀ b, Own (upd g x (some o')) (upd ρ n (some t)) b → Own g ρ b ∧ (s.void = false → b ≠ s.blk) := fun b ⟨a, oa, sa, e1, e0, e2, e3, e4⟩ => by
    rcases hsame a oa e1 with ⟨rfl, rfl⟩ | ⟨ha, e5⟩
    · exact (hno e0 hxo').elim
    · have e2' := hρ a oa sa e1 e2
      exact ⟨⟨a, oa, sa, e5, e0, e2', e3, e4⟩, fun hv he => ha (h.inj a x oa o sa s e5 hx (.inl e0) e2' hs e3 hv (by omega))⟩
  refine ⟨by omega, hsub, fun a r e => ?_, Nat.le_refl _, fun _ _ _ => rfl, fun b hb => .inr (hown b hb).1, rfl, rfl, rfl, ⟨fun a r e hv => ?_, fun a oa e => ?_, fun a b oa ob sa sb ea eb eo ra rb va vb heq => ?_, fun b hb => ?_, gl_keep h (Nat.le_refl _) (fun _ _ _ => rfl) fun b hb => .inr (hown b hb).1⟩, fun a oa e => ?_, fun a oa e e0 => ?_, fun b hb => ?_⟩
  · by_cases ha : a = n
    · exact .inr (by omega)
    · rw [upd_ne _ _ ha] at e; exact .inl e
  · by_cases ha : a = n
    · subst ha; rw [upd_same] at e; cases e; exact (hno ht hv).elim
    · rw [upd_ne _ _ ha] at e; exact h.blk a r e hv
  · rcases hsame a oa e with ⟨rfl, rfl⟩ | ⟨ha, e2⟩
    · exact ⟨s, by rw [upd_ne _ _ hxn]; exact hs, hor⟩
    · obtain ⟨s', e1, e3⟩ := h.obj a oa e2
      exact ⟨s', by rw [upd_ne _ _ (hg a oa e2)]; exact e1, e3.kept hsub (fun _ => rfl) (fun _ _ => rfl)⟩
  · have ra' := hρ a oa sa ea ra
    have rb' := hρ b ob sb eb rb
    rcases hsame a oa ea with ⟨rfl, rfl⟩ | ⟨ha, ea'⟩
    · rcases hsame b ob eb with ⟨rfl, rfl⟩ | ⟨hb, eb'⟩
      · rfl
      · exact h.inj a b o ob sa sb hx eb' (.inl hxo) ra' rb' va vb heq
    · rcases hsame b ob eb with ⟨rfl, rfl⟩ | ⟨hb, eb'⟩
      · exact h.inj a b oa o sa sb ea' hx (.inr hxo) ra' rb' va vb heq
      · exact h.inj a b oa ob sa sb ea' eb' eo ra' rb' va vb heq
  · rcases hb.upd_inv with h1 | h1
    · exact ⟨(h.fz b h1).1, fun h2 => (h.fz b h1).2 (hown b h2).1⟩
    · obtain ⟨h2, rfl⟩ := (htf b).1 h1
      exact ⟨h.blk x s hs h2, fun h3 => (hown _ h3).2 h2 rfl⟩
  · rcases hsame a oa e with ⟨rfl, rfl⟩ | ⟨ha, e2⟩
    · exact .inl ⟨o, hx⟩
    · exact .inl ⟨oa, e2⟩
  · rcases hsame a oa e with ⟨rfl, rfl⟩ | ⟨ha, e2⟩
    · refine .inr fun r hr hv => ?_
      rw [upd_ne _ _ hxn, hs] at hr; cases hr
      exact ⟨n, t, upd_same _ _ _, (htf _).2 ⟨hv, rfl⟩⟩
    · exact .inl e2
  · rcases hb.upd_inv with h1 | h1
    · exact .inl h1
    · obtain ⟨h2, rfl⟩ := (htf b).1 h1
      exact .inr (.inr ⟨x, o, s, hx, hxo, hs, h2, rfl⟩)
/-- an object is written -/
theorem Mv.write {ρ : Rho} {g : Mem} {w w' : World} (n : Nat) {x : Nat} {o : AObj} {s : Spot} (h : WR ρ g w) (hx : g x = some o) (hxo : o.isOwn = true) (hs : ρ x = some s) (hsv : s.void = false) (o' : AObj) (hxo' : o'.isOwn = true) (ho : ObjR ρ o' s w') (hz : w'.heap.size = w.heap.size)
    (hh : ∀ b, b ≠ s.blk → w'.heap[b]? = w.heap[b]?) (h1 : w'.os = w.os) (h2 : w'.tape = w.tape) (h3 : w'.output = w.output) :
    Mv ρ ρ g (upd g x (some o')) n n w w' := by
  have hown : ∀ b, Own (upd g x (some o')) ρ b → w.heap.size ≤ b ∨ Own g ρ b := fun b hb => by
    right
    obtain ⟨a, o1, s1, e1, e0, e2, e3⟩ := hb
    by_cases ha : a = x
    · subst ha; exact ⟨a, o, s1, hx, hxo, e2, e3⟩
    · rw [upd_ne _ _ ha] at e1; exact ⟨a, o1, s1, e1, e0, e2, e3⟩
  have hFz : ∀ b, Frz ρ b → w'.heap[b]? = w.heap[b]? := fun b hb => hh b fun e => (h.fz b hb).2 ⟨x, o, s, hx, hxo, hs, hsv, e.symm⟩
  refine ⟨Nat.le_refl _, Sub.refl _, fun a t e => .inl e, by omega, fun b _ hb => hh b fun e => hb ⟨x, o, s, hx, hxo, hs, hsv, e.symm⟩, hown, h1, h2, h3, ⟨fun a t e => ?_, fun a o1 e => ?_, fun a b oa ob sa sb ea eb eo ra rb va vb heq => ?_, fz_keep h (by omega) hown (fun _ hb => hb), gl_keep h (by omega) (fun b _ hb => hh b fun e => hb ⟨x, o, s, hx, hxo, hs, hsv, e.symm⟩) hown⟩, fun a o1 e => ?_, fun a o1 e ho1 => ?_, fun _ hb => .inl hb⟩
  · rw [hz]; exact h.blk a t e
  · by_cases ha : a = x
    · subst ha; rw [upd_same] at e; cases e; exact ⟨s, hs, ho⟩
    · rw [upd_ne _ _ ha] at e
      obtain ⟨s1, e1, e2⟩ := h.obj a o1 e
      refine ⟨s1, e1, e2.kept (Sub.refl _) (fun hv => hh _ fun heq => ha (h.inj a x o1 o s1 s e hx (.inr hxo) e1 hs hv hsv heq)) hFz⟩
  · have key : ∀ c oc, upd g x (some o') c = some oc → ∃ oc', g c = some oc' ∧ oc'.isOwn = oc.isOwn := fun c oc e => by
      by_cases hc : c = x
      · subst hc; rw [upd_same] at e; cases e; exact ⟨o, hx, by rw [hxo, hxo']⟩
      · rw [upd_ne _ _ hc] at e; exact ⟨oc, e, rfl⟩
    obtain ⟨oa', ea', eaq⟩ := key a oa ea
    obtain ⟨ob', eb', ebq⟩ := key b ob eb
    exact h.inj a b oa' ob' sa sb ea' eb' (by rw [eaq, ebq]; exact eo) ra rb va vb heq
  · by_cases ha : a = x
    · subst ha; exact .inl ⟨o, hx⟩
    · rw [upd_ne _ _ ha] at e; exact .inl ⟨o1, e⟩
  · by_cases ha : a = x
    · subst ha; rw [upd_same] at e; cases e; rw [hxo'] at ho1; cases ho1
    · rw [upd_ne _ _ ha] at e; exact .inl e

/-- an object goes; another one, at another place or in its block, comes -/
theorem Mv.turn {ρ : Rho} {g : Mem} {w w' : World} {n x : Nat} {o : AObj} {sx : Spot} (h : WR ρ g w) (hf : ρ n = none) (hx : g x = some o) (hxo : o.isOwn = true) (hsx : ρ x = some sx) (hsv : sx.void = false) (o' : AObj) (hxo' : o'.isOwn = true) (s : Spot) (hz : ∀ b, ¬ s.fz b)
    (hs : (s.blk = w.heap.size ∧ w'.heap.size = w.heap.size + 1 ∧ ∀ b, b < w.heap.size → w'.heap[b]? = w.heap[b]?) ∨ (s.blk = sx.blk ∧ w'.heap.size = w.heap.size ∧ ∀ b, b ≠ sx.blk → w'.heap[b]? = w.heap[b]?))
    (ho : ObjR (upd ρ n (some s)) o' s w') (h1 : w'.os = w.os) (h2 : w'.tape = w.tape) (h3 : w'.output = w.output) :
    Mv ρ (upd ρ n (some s)) g (upd (upd g x none) n (some o')) n (n + 1) w w' := by
  have hsub : Sub ρ (upd ρ n (some s)) := Sub.upd s hf
  have hxn : x ≠ n := fun e => by subst e; rw [hf] at hsx; cases hsx
  have hbx := h.blk x sx hsx hsv
  have hgn : ∀ a o1, upd (upd g x none) n (some o') a = some o1 → a ≠ n → g a = some o1 ∧ a ≠ x := fun a o1 e ha => by
    rw [upd_ne _ _ ha] at e
    by_cases hax : a = x
    · subst hax; rw [upd_same] at e; cases e
    · rw [upd_ne _ _ hax] at e; exact ⟨e, hax⟩
  have hsz : w.heap.size ≤ w'.heap.size := by rcases hs with ⟨_, h4, _⟩ | ⟨_, h4, _⟩ <;> omega
  have hfrm : ∀ b, b < w.heap.size → ¬ Own g ρ b → w'.heap[b]? = w.heap[b]? := fun b hb hno => by
    rcases hs with ⟨_, _, h4⟩ | ⟨_, _, h4⟩
    · exact h4 b hb
    · exact h4 b fun e => hno ⟨x, o, sx, hx, hxo, hsx, hsv, e.symm⟩
  have hown : ∀ b, Own (upd (upd g x none) n (some o')) (upd ρ n (some s)) b → w.heap.size ≤ b ∨ Own g ρ b := fun b hb => by
    obtain ⟨a, o1, s1, e1, e0, e2, e4, e3⟩ := hb
    by_cases ha : a = n
    · subst ha; rw [upd_same] at e2; cases e2
      rcases hs with ⟨h4, _, _⟩ | ⟨h4, _, _⟩
      · left; omega
      · exact .inr ⟨x, o, sx, hx, hxo, hsx, hsv, by omega⟩
    · obtain ⟨e5, _⟩ := hgn a o1 e1 ha
      rw [upd_ne _ _ ha] at e2; exact .inr ⟨a, o1, s1, e5, e0, e2, e4, e3⟩
  refine ⟨by omega, hsub, fun a t e => ?_, hsz, hfrm, hown, h1, h2, h3, ⟨fun a t e hv => ?_, fun a o1 e => ?_, fun a b oa ob sa sb ea eb eo ra rb va vb heq => ?_, fz_keep h hsz hown (fun b hb => hb.upd_no hz), gl_keep h hsz hfrm hown⟩, fun a o1 e => ?_, fun a o1 e ho1 => ?_, fun b hb => .inl (hb.upd_no hz)⟩
  · by_cases ha : a = n
    · exact .inr (by omega)
    · rw [upd_ne _ _ ha] at e; exact .inl e
  · by_cases ha : a = n
    · subst ha; rw [upd_same] at e; cases e
      rcases hs with ⟨h4, h5, _⟩ | ⟨h4, h5, _⟩ <;> omega
    · rw [upd_ne _ _ ha] at e; have := h.blk a t e hv
      rcases hs with ⟨_, h5, _⟩ | ⟨_, h5, _⟩ <;> omega
  · by_cases ha : a = n
    · subst ha; rw [upd_same] at e; cases e; exact ⟨s, upd_same _ _ _, ho⟩
    · obtain ⟨e4, hax⟩ := hgn a o1 e ha
      obtain ⟨s1, e1, e2⟩ := h.obj a o1 e4
      refine ⟨s1, by rw [upd_ne _ _ ha]; exact e1, e2.kept hsub (fun hv => ?_) (fun b hb => hfrm b (h.fz b hb).1 (h.fz b hb).2)⟩
      rcases hs with ⟨_, _, h4⟩ | ⟨_, _, h4⟩
      · exact h4 _ (h.blk a s1 e1 hv)
      · exact h4 _ fun heq => hax (h.inj a x o1 o s1 sx e4 hx (.inr hxo) e1 hsx hv hsv heq)
  · have hne : ∀ c oc sc, upd (upd g x none) n (some o') c = some oc → c ≠ n → upd ρ n (some s) c = some sc → sc.void = false → sc.blk ≠ s.blk := fun c oc sc ec hc rc vc heq => by
      obtain ⟨e4, hcx⟩ := hgn c oc ec hc
      rw [upd_ne _ _ hc] at rc
      rcases hs with ⟨h4, _, _⟩ | ⟨h4, _, _⟩
      · have := h.blk c sc rc vc; omega
      · exact hcx (h.inj c x oc o sc sx e4 hx (.inr hxo) rc hsx vc hsv (by omega))
    by_cases ha : a = n
    · by_cases hb : b = n
      · omega
      · subst ha
        have ra' := ra
        rw [upd_same] at ra'; cases ra'
        exact absurd heq.symm (hne b ob sb eb hb rb vb)
    · by_cases hb : b = n
      · subst hb
        have rb' := rb
        rw [upd_same] at rb'; cases rb'
        exact absurd heq (hne a oa sa ea ha ra va)
      · obtain ⟨e4, _⟩ := hgn a oa ea ha
        obtain ⟨e5, _⟩ := hgn b ob eb hb
        rw [upd_ne _ _ ha] at ra; rw [upd_ne _ _ hb] at rb
        exact h.inj a b oa ob sa sb e4 e5 eo ra rb va vb heq
  · by_cases ha : a = n
    · exact .inr (by omega)
    · exact .inl ⟨o1, (hgn a o1 e ha).1⟩
  · by_cases ha : a = n
    · subst ha; rw [upd_same] at e; cases e; rw [hxo'] at ho1; cases ho1
    · exact .inl (hgn a o1 e ha).1
end Go.Proofs.YtpogcoolgnjejaaGreatDoor.Ev
/-
  What the evaluator says of single operations holds of their runs: frames, and operations that leave memory alone.
-/
set_option linter.unusedVariables false
set_option linter.unusedSimpArgs false
namespace Go.Proofs.YtpogcoolgnjejaaGreatDoor.Ev
open Go

theorem bnd_ok {α β : Type} {x : Rs α} {f : α → Rs β} {b : β} (h : x.bnd f = .ok b) : ∃ a, x = .ok a ∧ f a = .ok b := by
  cases x with
  | ok a => exact ⟨a, rfl, h⟩
  | er s p => simp [Rs.bnd] at h
theorem of_ok {α : Type} {why : String} {x : Option α} {a : α} (h : Rs.of why x = .ok a) : x = some a := by
  cases x with
  | some b => simp [Rs.of] at h; rw [h]
  | none => simp [Rs.of] at h
theorem cond_ok {α : Type} {c : Bool} {x : Rs α} {s p : String} {r : α} (h : cond c x (.er s p) = .ok r) : c = true ∧ x = .ok r := by
  cases c with
  | true => exact ⟨rfl, h⟩
  | false => simp at h

def DefR (ρ : Rho) (d : ADef) (d' : Deferred) : Prop := ∃ cap' args', d' = { target := .fn d.fn cap', args := args' } ∧ VRL ρ d.cap cap'.toList ∧ VRL ρ d.args args'.toList
theorem DefR.mono {ρ ρ' : Rho} (hs : Sub ρ ρ') {d : ADef} {d' : Deferred} (h : DefR ρ d d') : DefR ρ' d d' := by
  obtain ⟨c, a, e, h1, h2⟩ := h
  exact ⟨c, a, e, h1.mono hs, h2.mono hs⟩
def DefsR (ρ : Rho) : List ADef → List Deferred → Prop
  | [], [] => True
  | d :: l, d' :: l' => DefR ρ d d' ∧ DefsR ρ l l'
  | _, _ => False
theorem DefsR.mono {ρ ρ' : Rho} (hs : Sub ρ ρ') : ∀ {l : List ADef} {l' : List Deferred}, DefsR ρ l l' → DefsR ρ' l l'
  | [], [], _ => trivial
  | d :: l, d' :: l', h => ⟨h.1.mono hs, DefsR.mono hs h.2⟩
  | [], _ :: _, h => h.elim
  | _ :: _, [], h => h.elim

structure FrR (ρ : Rho) (f : AFr) (a : Act) : Prop where
  size : a.tmps.size = f.n
  tmp : ∀ t v, f.tmps.get t = some v → ∃ v', a.tmps[t]? = some v' ∧ VR ρ v v'
  defs : DefsR ρ f.defers a.defers
theorem FrR.mono {ρ ρ' : Rho} (hs : Sub ρ ρ') {f : AFr} {a : Act} (h : FrR ρ f a) : FrR ρ' f a :=
  ⟨h.size, fun t v e => by obtain ⟨v', e1, e2⟩ := h.tmp t v e; exact ⟨v', e1, e2.mono hs⟩, h.defs.mono hs⟩
theorem FrR.ev {ρ : Rho} {f : AFr} {a : Act} (h : FrR ρ f a) (x : Operand) : VR ρ (f.ev x) (a.eval x) := by
  cases x with
  | tmp t =>
    simp only [AFr.ev, AFr.tmp, Act.eval]
    split
    · rename_i v hv
      obtain ⟨v', e1, e2⟩ := h.tmp t v hv
      simp only [Array.getD_eq_getD_getElem?, e1, Option.getD_some]
      exact e2
    · exact .any _
  | const v =>
    simp only [AFr.ev, Act.eval]
    cases hg : ground 3 v with
    | true => exact VR.refl 3 hg
    | false => exact .any _
  | global g => exact .any _
  | func f => exact .func _ _ _ _ _ rfl rfl (fun i x y h => by simp at h) (fun i x y h => by simp at h)
theorem FrR.evs {ρ : Rho} {f : AFr} {a : Act} (h : FrR ρ f a) (l : List Operand) : VRL ρ (l.map f.ev) (l.map a.eval) := by
  induction l with
  | nil => exact VRL.nil ρ
  | cons x l ih => exact VRL.cons (h.ev x) ih
theorem FrR.put {ρ : Rho} {f : AFr} {a : Act} (h : FrR ρ f a) {d : Option Nat} {v v' : Value} (hv : VR ρ v v') : FrR ρ (f.put d v) (a.put d v') := by
  cases d with
  | none => exact h
  | some d =>
    simp only [AFr.put, Act.put]
    cases hb : Nat.blt d f.n with
    | true =>
      have hd : d < f.n := by simpa using hb
      simp only [cond_true]
      refine ⟨by simp [h.size], fun t u e => ?_, h.defs⟩
      rw [set_get] at e
      by_cases ht : t = d
      · subst ht
        rw [upd_same] at e; cases e
        exact ⟨v', by simp [h.size, hd], hv⟩
      · rw [upd_ne _ _ ht] at e
        obtain ⟨u', e1, e2⟩ := h.tmp t u e
        exact ⟨u', by simp only [Array.getElem?_setIfInBounds_ne (Ne.symm ht)]; exact e1, e2⟩
    | false =>
      have hd : ¬ d < f.n := fun h2 => by
        have h3 : Nat.blt d f.n = true := by simpa using h2
        rw [h3] at hb; cases hb
      simp only [cond_false]
      have : a.tmps.setIfInBounds d v' = a.tmps := by
        apply Array.ext (by simp)
        intro i h1 h2
        simp only [Array.getElem_setIfInBounds h2]
        rw [if_neg (by have := h.size; omega)]
      rw [this]
      exact h

/-- from one memory to the other: numbers do not fall; what lies below 'lo' is as it was; nothing comes but under new numbers -/
def LoS (st st' : ASt) : Prop := st.next ≤ st'.next ∧ st'.lo ≤ st.lo ∧ (∀ x, x < st.next → x < st'.lo → st'.h.get x = st.h.get x) ∧ ∀ x o, st'.h.get x = some o → (∃ o', st.h.get x = some o') ∨ (st.next ≤ x ∧ x < st'.next)
theorem LoS.refl (st : ASt) : LoS st st := ⟨Nat.le_refl _, Nat.le_refl _, fun _ _ _ => rfl, fun x o h => .inl ⟨o, h⟩⟩
theorem LoS.trans {a b c : ASt} (h : LoS a b) (k : LoS b c) : LoS a c := by
  obtain ⟨h1, h2, h3, h4⟩ := h; obtain ⟨k1, k2, k3, k4⟩ := k
  refine ⟨by omega, by omega, fun x e1 e2 => (k3 x (by omega) e2).trans (h3 x e1 (by omega)), fun x o e => ?_⟩
  rcases k4 x o e with ⟨o', e1⟩ | e1
  · rcases h4 x o' e1 with e2 | e2
    · exact .inl e2
    · exact .inr ⟨by omega, by omega⟩
  · exact .inr ⟨by omega, by omega⟩
theorem minN_le (a b : Nat) : minN a b ≤ a ∧ minN a b ≤ b := by
  unfold minN
  cases h : Nat.ble a b with
  | true => have : a ≤ b := Nat.le_of_ble_eq_true h; exact ⟨Nat.le_refl _, this⟩
  | false => have : ¬ a ≤ b := fun h2 => by rw [Nat.ble_eq_true_of_le h2] at h; cases h
             exact ⟨by simp; omega, by simp⟩
theorem LoS.new (st : ASt) (o : AObj) : LoS st (st.new o) := by
  refine ⟨by simp [ASt.new], Nat.le_refl _, fun x h1 _ => by simp only [ASt.new, set_get]; rw [upd_ne _ _ (by omega)], fun x o' e => ?_⟩
  simp only [ASt.new, set_get] at e ⊢
  by_cases hx : x = st.next
  · exact .inr (by omega)
  · rw [upd_ne _ _ hx] at e; exact .inl ⟨o', e⟩
theorem LoS.set (st : ASt) (a : Nat) (o : Option AObj) (h : o = none ∨ ∃ o', st.h.get a = some o') : LoS st (st.set a o) := by
  have := minN_le st.lo a
  refine ⟨Nat.le_refl _, this.1, fun x h1 h2 => ?_, fun x o' e => ?_⟩
  · simp only [ASt.set] at h2
    simp only [ASt.set, set_get]; rw [upd_ne _ _ (by omega)]
  · simp only [ASt.set, set_get] at e
    by_cases hx : x = a
    · subst hx
      rcases h with rfl | h
      · rw [upd_same] at e; cases e
      · exact .inl h
    · rw [upd_ne _ _ hx] at e; exact .inl ⟨o', e⟩

def ValR (P : Program) (o : Oper) (a : Act) (w : World) (ρ : Rho) (st st' : ASt) (v : Value) : Prop :=
  ∃ ρ' v' w', ((execOp a.eval o).run P w = .ok (.value v') w' ∨ ((execOp a.eval o).run P w = .ok .skip w' ∧ v' = undef)) ∧ VR ρ' v v' ∧ Mv ρ ρ' st.h.get st'.h.get st.next st'.next w w'
def OpR (P : Program) (o : Oper) (f : AFr) (st : ASt) : AN → Prop
  | .val v st' => LoS st st' ∧ ∀ ρ w a, FrR ρ f a → WR ρ st.h.get w → Fresh ρ st.next st'.next → ValR P o a w ρ st st' v
  | .enter g args => ∀ ρ w a, FrR ρ f a → WR ρ st.h.get w → ∃ args', (execOp a.eval o).run P w = .ok (.enter g args') w ∧ VRL ρ args args'.toList
  | .defer d => ∀ ρ w a, FrR ρ f a → WR ρ st.h.get w → ∃ d', (execOp a.eval o).run P w = .ok (.defer d') w ∧ DefR ρ d d'
  | .panic v => ∀ ρ w a, FrR ρ f a → WR ρ st.h.get w → ∃ v', (execOp a.eval o).run P w = .halt (.panic v') w ∧ VR ρ v v'

/-- an operation that leaves the world alone -/
theorem OpR.quiet {P : Program} {o : Oper} {f : AFr} {st : ASt} {v : Value} (h : ∀ ρ w a, FrR ρ f a → WR ρ st.h.get w → ∃ v', (execOp a.eval o).run P w = .ok (.value v') w ∧ VR ρ v v') : OpR P o f st (.val v st) :=
  ⟨LoS.refl st, fun ρ w a hf hw _ => by obtain ⟨v', h1, h2⟩ := h ρ w a hf hw; exact ⟨ρ, v', w, .inl h1, h2, Mv.refl hw _⟩⟩

theorem pureRun_ok {α : Type} {P : Program} : ∀ {s : Sem α} {a : α}, pureRun P s = .ok a → ∀ w, s.run P w = .ok a w := by
  intro s
  induction s with
  | pure b => intro a h w; simp only [pureRun, Pr.ok.injEq] at h; subst h; rfl
  | program k ih => intro a h w; exact ih P h w
  | mark m k ih => intro a h w; exact ih h w
  | halt e => intro a h w; cases e <;> simp [pureRun] at h
  | _ => intros; rename_i h w; simp [pureRun] at h
theorem pureRun_panic {α : Type} {P : Program} : ∀ {s : Sem α} {v : Value}, pureRun P s = .panic v → ∀ w, s.run P w = .halt (.panic v) w := by
  intro s
  induction s with
  | pure b => intro a h w; simp [pureRun] at h
  | program k ih => intro a h w; exact ih P h w
  | mark m k ih => intro a h w; exact ih h w
  | halt e =>
    intro a h w
    cases e with
    | panic v => simp only [pureRun, Pr.panic.injEq] at h; subst h; rfl
    | _ => simp [pureRun] at h
  | _ => intros; rename_i h w; simp [pureRun] at h

/-! ### what is asked of types -/
theorem undL_ok {P : Program} {t : TypeId} {d : TypeDesc} (h : undL P t = .ok d) : P.underlying t = some d := by
  unfold undL at h
  split at h
  · rename_i d' e; cases h; exact e
  · cases h
theorem run_und {P : Program} {t : TypeId} {d : TypeDesc} (h : undL P t = .ok d) (w : World) : (underlying t).run P w = .ok d w := by
  simp [underlying, undL_ok h]
theorem sizeL_ok {P : Program} {t : TypeId} {n : Nat} (h : sizeL P t = .ok n) : ∃ i, P.info? t = some i ∧ i.size = n := by
  unfold sizeL at h
  split at h
  · rename_i i e; cases h; exact ⟨i, e, rfl⟩
  · cases h
theorem run_sizeL {P : Program} {t : TypeId} {n : Nat} (h : sizeL P t = .ok n) (w : World) : (sizeOf t).run P w = .ok n w := by
  obtain ⟨i, e, rfl⟩ := sizeL_ok h
  simp [sizeOf, typeInfo, e]
theorem run_zeroL {P : Program} {t : TypeId} {l : List Value} (h : zeroL P t = .ok l) : ∃ z, z.cells.toList = l ∧ l.all (ground 2) = true ∧ ∀ w, (zeroValue t).run P w = .ok z w := by
  unfold zeroL at h
  split at h
  · rename_i i e
    split at h
    · rename_i z ez
      obtain ⟨h1, h2⟩ := cond_ok h
      cases h2
      exact ⟨z, rfl, h1, fun w => by simp [zeroValue, typeInfo, e, ez]⟩
    · cases h
  · cases h
theorem ground_list {ρ : Rho} {n : Nat} {l : List Value} (h : l.all (ground n) = true) : VRL ρ l l := by
  rw [List.all_eq_true] at h
  exact ⟨rfl, fun i x y hx hy => by rw [hx] at hy; cases hy; exact VR.refl n (h x (List.mem_of_getElem? hx))⟩
theorem run_aggL {P : Program} {t : TypeId} {b : Bool} (h : aggL P t = .ok b) (w : World) : (isAgg t).run P w = .ok b w := by
  unfold aggL at h
  obtain ⟨d, h1, h2⟩ := bnd_ok h
  have h3 := run_und h1 w
  cases d <;> simp at h2 <;> subst h2 <;> simp [isAgg, h3]
/-- the value of these cells -/
theorem shutL_run {P : Program} {t : TypeId} {cs : List Value} {v : Value} (h : shutL P t cs = .ok v) : (aggL P t = .ok true ∧ v = .agg cs.toArray) ∨ (aggL P t = .ok false ∧ cs = [v]) := by
  unfold shutL at h
  obtain ⟨b, h1, h2⟩ := bnd_ok h
  split at h2
  · cases h2; exact .inl ⟨h1, rfl⟩
  · cases h2; exact .inr ⟨h1, rfl⟩
  · cases h2
theorem cellsL_rel {ρ : Rho} {v v' : Value} (h : VR ρ v v') (h1 : (cellsL v).all oneC = true) : VRL ρ (cellsL v) v'.cells.toList ∧ ∀ x ∈ v'.cells.toList, x.oneCell' = true := by
  have one : ∀ {x y : Value}, VR ρ x y → oneC x = true → y.oneCell' = true := by
    intro x y hxy hx
    cases hxy <;> first | rfl | simp [oneC, bad] at hx
  have single : ∀ {x y : Value}, VR ρ x y → oneC x = true → cellsL x = [x] → y.cells = #[y] → VRL ρ (cellsL x) y.cells.toList ∧ ∀ z ∈ y.cells.toList, z.oneCell' = true := by
    intro x y hxy hx e1 e2
    rw [e1, e2]
    exact ⟨VRL.cons hxy (VRL.nil ρ), fun z hz => by simp at hz; subst hz; exact one hxy hx⟩
  cases h with
  | agg a a' ha h =>
    simp only [cellsL, Value.cells] at h1 ⊢
    have hl := VRL.of_arrays ha h
    refine ⟨hl, fun x hx => ?_⟩
    obtain ⟨i, hi⟩ := List.getElem?_of_mem hx
    have h2 : i < a.toList.length := by
      have := (List.getElem?_eq_some_iff.1 hi).1
      simp at this ⊢; omega
    have h3 := hl.2 i _ x (List.getElem?_eq_getElem h2) hi
    rw [List.all_eq_true] at h1
    exact one h3 (h1 _ (List.getElem_mem h2))
  | any v => simp [cellsL, bad, oneC] at h1
  | tuple => simp [cellsL, oneC] at h1
  | sliceE a i c' x s h hx => exact single (.sliceE a i c' x s h hx) rfl rfl rfl
  | sliceN a i => exact single (.sliceN a i) rfl rfl rfl
  | sliceZ a i x => exact single (.sliceZ a i x) rfl rfl rfl
  | _ => exact single (by constructor <;> assumption) rfl rfl rfl

/-! ### operations that leave memory alone -/
theorem op_move {P : Program} {o : Oper} {f : AFr} {st : ASt} {x : Operand} (h : o.op = .move x ∨ o.op = .assign x) : OpR P o f st (.val (f.ev x) st) :=
  OpR.quiet fun ρ w a hf hw => ⟨a.eval x, by rcases h with h | h <;> simp [execOp, h], hf.ev x⟩
theorem op_pick {P : Program} {o : Oper} {f : AFr} {st : ASt} {c x y : Operand} {b : Bool} (h : o.op = .pick c x y) (hb : f.ev c = .bool b) : OpR P o f st (.val (cond b (f.ev x) (f.ev y)) st) :=
  OpR.quiet fun ρ w a hf hw => by
    have hc := hf.ev c
    rw [hb] at hc
    cases b with
    | true => exact ⟨a.eval x, by cases hc' : a.eval c <;> (rw [hc'] at hc; cases hc) ; simp [execOp, h, hc', asBool], hf.ev x⟩
    | false => exact ⟨a.eval y, by cases hc' : a.eval c <;> (rw [hc'] at hc; cases hc) ; simp [execOp, h, hc', asBool], hf.ev y⟩
theorem op_makeFunc {P : Program} {o : Oper} {f : AFr} {st : ASt} {fn : Fn} {p q : Array Operand} (h : o.op = .makeFunc fn p q) : OpR P o f st (.val (.func fn (p.toList.map f.ev).toArray (q.toList.map f.ev).toArray) st) :=
  OpR.quiet fun ρ w a hf hw => by
    refine ⟨.func fn (p.map a.eval) (q.map a.eval), by simp [execOp, h, Instr.makeFunc], .func _ _ _ _ _ (by simp) (by simp) ?_ ?_⟩
    · intro i x y hx hy
      exact (hf.evs p.toList).2 i x y (by simpa using hx) (by simpa using hy)
    · intro i x y hx hy
      exact (hf.evs q.toList).2 i x y (by simpa using hx) (by simpa using hy)
theorem op_makeInterface {P : Program} {o : Oper} {f : AFr} {st : ASt} {t : TypeId} {x : Operand} {d : TypeDesc} (h : o.op = .makeInterface t x) (hd : undL P t = .ok d) (hn : ∀ m, d ≠ .interface m) : OpR P o f st (.val (.iface t (f.ev x)) st) :=
  OpR.quiet fun ρ w a hf hw => by
    refine ⟨.iface t (a.eval x), ?_, .iface _ _ _ (hf.ev x)⟩
    simp only [execOp, h, Instr.makeInterface, Sem.run_bind, run_und hd, Result.andThen_ok]
    cases d <;> first | exact absurd rfl (hn _) | simp
theorem op_extract {P : Program} {o : Oper} {f : AFr} {st : ASt} {t : Operand} {i : Nat} {vs : Array Value} {v : Value} (h : o.op = .extract t i) (ht : f.ev t = .tuple vs) (hv : vs.toList[i]? = some v) : OpR P o f st (.val v st) :=
  OpR.quiet fun ρ w a hf hw => by
    have hc := hf.ev t
    rw [ht] at hc
    generalize hT : a.eval t = T at hc
    cases hc with
    | tuple a1 a2 hs hh =>
      obtain ⟨y, hy, hvy⟩ := (VRL.of_arrays hs hh).get hv
      refine ⟨y, ?_, hvy⟩
      have hy' : a2[i]? = some y := by simpa using hy
      simp [execOp, h, hT, Instr.extract, hy']
end Go.Proofs.YtpogcoolgnjejaaGreatDoor.Ev
