/-
  The evaluator once more, with steps that are small for the kernel: what it says is what the evaluator says. (Printed by tools/fast.py.)
-/
import Derived.Test.YtpogcoolgnjejaaGreatDoorGe
set_option linter.unusedVariables false
set_option linter.unusedSimpArgs false
namespace Go.Proofs.YtpogcoolgnjejaaGreatDoor.Ev
open Go
noncomputable section fast
/-! ### places in tables -/
inductive Pth where
  | e
  | l (p : Pth)
  | r (p : Pth)
  | z
def pathF (n : Nat) : Nat → Pth := @Nat.rec (fun _ => Nat → Pth) (fun _ => .z) (fun _ ih k => @Bool.rec (fun _ => (Nat → Pth) → Nat → Pth) (fun ih k => @Bool.rec (fun _ => (Nat → Pth) → Nat → Pth) (fun ih k => .r (ih (Nat.sub (Nat.div k (nat_lit 2)) (nat_lit 1)))) (fun ih k => .l (ih (Nat.div k (nat_lit 2)))) (Nat.beq (Nat.mod k (nat_lit 2)) (nat_lit 1)) ih k) (fun _ _ => .e) (Nat.beq k (nat_lit 0)) ih k) n
theorem pathF_succ (n k : Nat) : pathF (n + 1) k = cond (Nat.beq k 0) .e (cond (Nat.beq (k % 2) 1) (.l (pathF n (k / 2))) (.r (pathF n (k / 2 - 1)))) := by
  have h : pathF (n + 1) k = @Bool.rec (fun _ => (Nat → Pth) → Nat → Pth) (fun ih k => @Bool.rec (fun _ => (Nat → Pth) → Nat → Pth) (fun ih k => .r (ih (k / 2 - 1))) (fun ih k => .l (ih (k / 2))) (Nat.beq (k % 2) 1) ih k) (fun _ _ => .e) (Nat.beq k 0) (pathF n) k := rfl
  rw [h]
  cases Nat.beq k 0 with
  | true => rfl
  | false =>
    show @Bool.rec (fun _ => (Nat → Pth) → Nat → Pth) (fun ih k => .r (ih (k / 2 - 1))) (fun ih k => .l (ih (k / 2))) (Nat.beq (k % 2) 1) (pathF n) k = cond (Nat.beq (k % 2) 1) _ _
    cases Nat.beq (k % 2) 1 <;> rfl
def pathS (m : Nat) : Pth := pathF (Nat.add (Nat.log2 (Nat.succ m)) (nat_lit 2)) (Nat.succ m)
def pathQ (k : Nat) : Pth := @Nat.rec (fun _ => Pth) .e (fun m _ => pathS m) k
theorem pathQ_eq (k : Nat) : pathQ k = pathF (Nat.log2 k + 2) k := by
  cases k with
  | zero => rfl
  | succ m => rfl

/-- what stands at a place -/
def vGetP (q : Pth) : Tr Value → Option Value := @Pth.rec (fun _ => Tr Value → Option Value) (fun t => @Tr.rec Value (fun _ => Option Value) none (fun v _ _ _ _ => v) t) (fun _ ih t => @Tr.rec Value (fun _ => (Tr Value → Option Value) → Option Value) (fun _ => none) (fun _ l _ _ _ ih => ih l) t ih) (fun _ ih t => @Tr.rec Value (fun _ => (Tr Value → Option Value) → Option Value) (fun _ => none) (fun _ _ r _ _ ih => ih r) t ih) (fun _ => none) q
theorem vGetP_eq : ∀ (n k : Nat) (t : Tr Value), k + 1 < 2 ^ n → vGetP (pathF n k) t = t.get k := by
  intro n
  induction n with
  | zero => intro k t h; simp at h
  | succ n ih =>
    intro k t h
    rw [pathF_succ]
    cases h0 : Nat.beq k 0 with
    | true =>
      simp only [cond_true]
      cases t with
      | leaf => rfl
      | node v l r => rw [Tr.get, h0]; rfl
    | false =>
      simp only [cond_false]
      have hk : k ≠ 0 := Nat.ne_of_beq_eq_false h0
      rw [Nat.pow_succ] at h
      cases h1 : Nat.beq (k % 2) 1 with
      | true =>
        have := Nat.eq_of_beq_eq_true h1
        simp only [cond_true]
        cases t with
        | leaf => rfl
        | node v l r =>
          rw [Tr.get, h0, h1]
          exact ih (k / 2) l (by omega)
      | false =>
        have := Nat.ne_of_beq_eq_false h1
        simp only [cond_false]
        cases t with
        | leaf => rfl
        | node v l r =>
          rw [Tr.get, h0, h1]
          exact ih (k / 2 - 1) r (by omega)
def vGet (t : Tr Value) (k : Nat) : Option Value := vGetP (pathQ k) t
theorem vGet_eq (t : Tr Value) (k : Nat) : vGet t k = t.get k := by
  unfold vGet
  rw [pathQ_eq]
  refine vGetP_eq _ k t ?_
  have := Nat.lt_log2_self (n := k)
  rw [Nat.pow_succ]
  omega
def vPut (q : Pth) : Tr Value → Option Value → Tr Value := @Pth.rec (fun _ => Tr Value → Option Value → Tr Value) (fun t x => @Tr.rec Value (fun _ => Option Value → Tr Value) (fun x => .node x .leaf .leaf) (fun _ l r _ _ x => .node x l r) t x)
  (fun _ ih t x => @Tr.rec Value (fun _ => (Tr Value → Option Value → Tr Value) → Option Value → Tr Value) (fun ih x => .node none (ih .leaf x) .leaf) (fun v l r _ _ ih x => .node v (ih l x) r) t ih x)
  (fun _ ih t x => @Tr.rec Value (fun _ => (Tr Value → Option Value → Tr Value) → Option Value → Tr Value) (fun ih x => .node none .leaf (ih .leaf x)) (fun v l r _ _ ih x => .node v l (ih r x)) t ih x) (fun t _ => t) q
theorem vPut_eq : ∀ (n k : Nat) (t : Tr Value) (x : Option Value), vPut (pathF n k) t x = Tr.put n t k x := by
  intro n
  induction n with
  | zero => intro k t x; cases t <;> rfl
  | succ n ih =>
    intro k t x
    rw [pathF_succ]
    cases h0 : Nat.beq k 0 with
    | true =>
      simp only [cond_true]
      cases t <;> (rw [Tr.put, h0]; rfl)
    | false =>
      simp only [cond_false]
      cases h1 : Nat.beq (k % 2) 1 with
      | true =>
        simp only [cond_true]
        cases t with
        | leaf =>
          rw [Tr.put, h0, h1]
          show Tr.node none (vPut (pathF n (k / 2)) .leaf x) .leaf = _
          rw [ih]; rfl
        | node v l r =>
          rw [Tr.put, h0, h1]
          show Tr.node v (vPut (pathF n (k / 2)) l x) r = _
          rw [ih]; rfl
      | false =>
        simp only [cond_false]
        cases t with
        | leaf =>
          rw [Tr.put, h0, h1]
          show Tr.node none .leaf (vPut (pathF n (k / 2 - 1)) .leaf x) = _
          rw [ih]; rfl
        | node v l r =>
          rw [Tr.put, h0, h1]
          show Tr.node v l (vPut (pathF n (k / 2 - 1)) r x) = _
          rw [ih]; rfl
def vSet (t : Tr Value) (k : Nat) (x : Option Value) : Tr Value := vPut (pathQ k) t x
theorem vSet_eq (t : Tr Value) (k : Nat) (x : Option Value) : vSet t k x = t.set k x := by
  unfold vSet
  rw [pathQ_eq]
  exact vPut_eq _ _ _ _

/-- what stands at a place -/
def hGetP (q : Pth) : Tr AObj → Option AObj := @Pth.rec (fun _ => Tr AObj → Option AObj) (fun t => @Tr.rec AObj (fun _ => Option AObj) none (fun v _ _ _ _ => v) t) (fun _ ih t => @Tr.rec AObj (fun _ => (Tr AObj → Option AObj) → Option AObj) (fun _ => none) (fun _ l _ _ _ ih => ih l) t ih) (fun _ ih t => @Tr.rec AObj (fun _ => (Tr AObj → Option AObj) → Option AObj) (fun _ => none) (fun _ _ r _ _ ih => ih r) t ih) (fun _ => none) q
theorem hGetP_eq : ∀ (n k : Nat) (t : Tr AObj), k + 1 < 2 ^ n → hGetP (pathF n k) t = t.get k := by
  intro n
  induction n with
  | zero => intro k t h; simp at h
  | succ n ih =>
    intro k t h
    rw [pathF_succ]
    cases h0 : Nat.beq k 0 with
    | true =>
      simp only [cond_true]
      cases t with
      | leaf => rfl
      | node v l r => rw [Tr.get, h0]; rfl
    | false =>
      simp only [cond_false]
      have hk : k ≠ 0 := Nat.ne_of_beq_eq_false h0
      rw [Nat.pow_succ] at h
      cases h1 : Nat.beq (k % 2) 1 with
      | true =>
        have := Nat.eq_of_beq_eq_true h1
        simp only [cond_true]
        cases t with
        | leaf => rfl
        | node v l r =>
          rw [Tr.get, h0, h1]
          exact ih (k / 2) l (by omega)
      | false =>
        have := Nat.ne_of_beq_eq_false h1
        simp only [cond_false]
        cases t with
        | leaf => rfl
        | node v l r =>
          rw [Tr.get, h0, h1]
          exact ih (k / 2 - 1) r (by omega)
def hGet (t : Tr AObj) (k : Nat) : Option AObj := hGetP (pathQ k) t
theorem hGet_eq (t : Tr AObj) (k : Nat) : hGet t k = t.get k := by
  unfold hGet
  rw [pathQ_eq]
  refine hGetP_eq _ k t ?_
  have := Nat.lt_log2_self (n := k)
  rw [Nat.pow_succ]
  omega
def hPut (q : Pth) : Tr AObj → Option AObj → Tr AObj := @Pth.rec (fun _ => Tr AObj → Option AObj → Tr AObj) (fun t x => @Tr.rec AObj (fun _ => Option AObj → Tr AObj) (fun x => .node x .leaf .leaf) (fun _ l r _ _ x => .node x l r) t x)
  (fun _ ih t x => @Tr.rec AObj (fun _ => (Tr AObj → Option AObj → Tr AObj) → Option AObj → Tr AObj) (fun ih x => .node none (ih .leaf x) .leaf) (fun v l r _ _ ih x => .node v (ih l x) r) t ih x)
  (fun _ ih t x => @Tr.rec AObj (fun _ => (Tr AObj → Option AObj → Tr AObj) → Option AObj → Tr AObj) (fun ih x => .node none .leaf (ih .leaf x)) (fun v l r _ _ ih x => .node v l (ih r x)) t ih x) (fun t _ => t) q
theorem hPut_eq : ∀ (n k : Nat) (t : Tr AObj) (x : Option AObj), hPut (pathF n k) t x = Tr.put n t k x := by
  intro n
  induction n with
  | zero => intro k t x; cases t <;> rfl
  | succ n ih =>
    intro k t x
    rw [pathF_succ]
    cases h0 : Nat.beq k 0 with
    | true =>
      simp only [cond_true]
      cases t <;> (rw [Tr.put, h0]; rfl)
    | false =>
      simp only [cond_false]
      cases h1 : Nat.beq (k % 2) 1 with
      | true =>
        simp only [cond_true]
        cases t with
        | leaf =>
          rw [Tr.put, h0, h1]
          show Tr.node none (hPut (pathF n (k / 2)) .leaf x) .leaf = _
          rw [ih]; rfl
        | node v l r =>
          rw [Tr.put, h0, h1]
          show Tr.node v (hPut (pathF n (k / 2)) l x) r = _
          rw [ih]; rfl
      | false =>
        simp only [cond_false]
        cases t with
        | leaf =>
          rw [Tr.put, h0, h1]
          show Tr.node none .leaf (hPut (pathF n (k / 2 - 1)) .leaf x) = _
          rw [ih]; rfl
        | node v l r =>
          rw [Tr.put, h0, h1]
          show Tr.node v l (hPut (pathF n (k / 2 - 1)) r x) = _
          rw [ih]; rfl
def hSet (t : Tr AObj) (k : Nat) (x : Option AObj) : Tr AObj := hPut (pathQ k) t x
theorem hSet_eq (t : Tr AObj) (k : Nat) (x : Option AObj) : hSet t k x = t.set k x := by
  unfold hSet
  rw [pathQ_eq]
  exact hPut_eq _ _ _ _

/-- what stands at a place -/
def uGetP (q : Pth) : Tr Unit → Option Unit := @Pth.rec (fun _ => Tr Unit → Option Unit) (fun t => @Tr.rec Unit (fun _ => Option Unit) none (fun v _ _ _ _ => v) t) (fun _ ih t => @Tr.rec Unit (fun _ => (Tr Unit → Option Unit) → Option Unit) (fun _ => none) (fun _ l _ _ _ ih => ih l) t ih) (fun _ ih t => @Tr.rec Unit (fun _ => (Tr Unit → Option Unit) → Option Unit) (fun _ => none) (fun _ _ r _ _ ih => ih r) t ih) (fun _ => none) q
theorem uGetP_eq : ∀ (n k : Nat) (t : Tr Unit), k + 1 < 2 ^ n → uGetP (pathF n k) t = t.get k := by
  intro n
  induction n with
  | zero => intro k t h; simp at h
  | succ n ih =>
    intro k t h
    rw [pathF_succ]
    cases h0 : Nat.beq k 0 with
    | true =>
      simp only [cond_true]
      cases t with
      | leaf => rfl
      | node v l r => rw [Tr.get, h0]; rfl
    | false =>
      simp only [cond_false]
      have hk : k ≠ 0 := Nat.ne_of_beq_eq_false h0
      rw [Nat.pow_succ] at h
      cases h1 : Nat.beq (k % 2) 1 with
      | true =>
        have := Nat.eq_of_beq_eq_true h1
        simp only [cond_true]
        cases t with
        | leaf => rfl
        | node v l r =>
          rw [Tr.get, h0, h1]
          exact ih (k / 2) l (by omega)
      | false =>
        have := Nat.ne_of_beq_eq_false h1
        simp only [cond_false]
        cases t with
        | leaf => rfl
        | node v l r =>
          rw [Tr.get, h0, h1]
          exact ih (k / 2 - 1) r (by omega)
def uGet (t : Tr Unit) (k : Nat) : Option Unit := uGetP (pathQ k) t
theorem uGet_eq (t : Tr Unit) (k : Nat) : uGet t k = t.get k := by
  unfold uGet
  rw [pathQ_eq]
  refine uGetP_eq _ k t ?_
  have := Nat.lt_log2_self (n := k)
  rw [Nat.pow_succ]
  omega
def uPut (q : Pth) : Tr Unit → Option Unit → Tr Unit := @Pth.rec (fun _ => Tr Unit → Option Unit → Tr Unit) (fun t x => @Tr.rec Unit (fun _ => Option Unit → Tr Unit) (fun x => .node x .leaf .leaf) (fun _ l r _ _ x => .node x l r) t x)
  (fun _ ih t x => @Tr.rec Unit (fun _ => (Tr Unit → Option Unit → Tr Unit) → Option Unit → Tr Unit) (fun ih x => .node none (ih .leaf x) .leaf) (fun v l r _ _ ih x => .node v (ih l x) r) t ih x)
  (fun _ ih t x => @Tr.rec Unit (fun _ => (Tr Unit → Option Unit → Tr Unit) → Option Unit → Tr Unit) (fun ih x => .node none .leaf (ih .leaf x)) (fun v l r _ _ ih x => .node v l (ih r x)) t ih x) (fun t _ => t) q
theorem uPut_eq : ∀ (n k : Nat) (t : Tr Unit) (x : Option Unit), uPut (pathF n k) t x = Tr.put n t k x := by
  intro n
  induction n with
  | zero => intro k t x; cases t <;> rfl
  | succ n ih =>
    intro k t x
    rw [pathF_succ]
    cases h0 : Nat.beq k 0 with
    | true =>
      simp only [cond_true]
      cases t <;> (rw [Tr.put, h0]; rfl)
    | false =>
      simp only [cond_false]
      cases h1 : Nat.beq (k % 2) 1 with
      | true =>
        simp only [cond_true]
        cases t with
        | leaf =>
          rw [Tr.put, h0, h1]
          show Tr.node none (uPut (pathF n (k / 2)) .leaf x) .leaf = _
          rw [ih]; rfl
        | node v l r =>
          rw [Tr.put, h0, h1]
          show Tr.node v (uPut (pathF n (k / 2)) l x) r = _
          rw [ih]; rfl
      | false =>
        simp only [cond_false]
        cases t with
        | leaf =>
          rw [Tr.put, h0, h1]
          show Tr.node none .leaf (uPut (pathF n (k / 2 - 1)) .leaf x) = _
          rw [ih]; rfl
        | node v l r =>
          rw [Tr.put, h0, h1]
          show Tr.node v l (uPut (pathF n (k / 2 - 1)) r x) = _
          rw [ih]; rfl
def uSet (t : Tr Unit) (k : Nat) (x : Option Unit) : Tr Unit := uPut (pathQ k) t x
theorem uSet_eq (t : Tr Unit) (k : Nat) (x : Option Unit) : uSet t k x = t.set k x := by
  unfold uSet
  rw [pathQ_eq]
  exact uPut_eq _ _ _ _

/-! ### values -/
def ptrOf : Value → Option Addr := @Value.rec (fun _ => Option Addr) (fun _ => PUnit.{1}) (fun _ => PUnit.{1}) (fun _ => none) (fun _ _ => none) (fun _ _ => none) (fun _ _ _ => none) (fun _ => none) (fun a => a) (fun _ _ _ => none) (fun _ => none) (fun _ => none) (fun _ _ _ _ _ => none) (none) (fun _ _ _ => none) (none) (fun _ _ => none) (fun _ _ => none) (fun _ _ => PUnit.unit) PUnit.unit (fun _ _ _ _ => PUnit.unit)
def boolOf : Value → Option Bool := @Value.rec (fun _ => Option Bool) (fun _ => PUnit.{1}) (fun _ => PUnit.{1}) (fun b => some b) (fun _ _ => none) (fun _ _ => none) (fun _ _ _ => none) (fun _ => none) (fun _ => none) (fun _ _ _ => none) (fun _ => none) (fun _ => none) (fun _ _ _ _ _ => none) (none) (fun _ _ _ => none) (none) (fun _ _ => none) (fun _ _ => none) (fun _ _ => PUnit.unit) PUnit.unit (fun _ _ _ _ => PUnit.unit)
def intOf : Value → Option (IntKind × Int) := @Value.rec (fun _ => Option (IntKind × Int)) (fun _ => PUnit.{1}) (fun _ => PUnit.{1}) (fun _ => none) (fun k n => some (k, n)) (fun _ _ => none) (fun _ _ _ => none) (fun _ => none) (fun _ => none) (fun _ _ _ => none) (fun _ => none) (fun _ => none) (fun _ _ _ _ _ => none) (none) (fun _ _ _ => none) (none) (fun _ _ => none) (fun _ _ => none) (fun _ _ => PUnit.unit) PUnit.unit (fun _ _ _ _ => PUnit.unit)
def oneF : Value → Bool := @Value.rec (fun _ => Bool) (fun _ => PUnit.{1}) (fun _ => PUnit.{1}) (fun _ => true) (fun _ _ => true) (fun _ _ => true) (fun _ _ _ => true) (fun _ => true) (fun _ => true) (fun _ _ _ => true) (fun _ => true) (fun r => false) (fun _ _ _ _ _ => true) (true) (fun _ _ _ => true) (true) (fun cs _ => false) (fun vs _ => false) (fun _ _ => PUnit.unit) PUnit.unit (fun _ _ _ _ => PUnit.unit)
def cellsF : Value → List Value := @Value.rec (fun _ => List Value) (fun _ => PUnit.{1}) (fun _ => PUnit.{1}) (fun b => [.bool b]) (fun k n => [.int k n]) (fun k b => [.float k b]) (fun k a b => [.complex k a b]) (fun s => [.string s]) (fun a => [.pointer a]) (fun a n c => [.slice a n c]) (fun r => [.map r]) (fun r => [.chan r]) (fun f a b _ _ => [.func f a b]) [.nilFunc] (fun t v _ => [.iface t v]) [.nilIface] (fun cs _ => cs.toList) (fun vs _ => [.tuple vs]) (fun _ _ => PUnit.unit) PUnit.unit (fun _ _ _ _ => PUnit.unit)
theorem oneF_eq (v : Value) : oneF v = oneC v := by cases v <;> rfl
theorem cellsF_eq (v : Value) : cellsF v = cellsL v := by cases v <;> rfl
theorem ptrOf_some {v : Value} {a : Addr} (h : ptrOf v = some a) : v = .pointer (some a) := by
  cases v <;> first | (cases h; done) | (have h : _ = some a := h; subst h; rfl)
theorem ptrOf_none {v : Value} (h : ptrOf v = none) : ∀ a, v ≠ .pointer (some a) := by
  intro a e; subst e; cases h
theorem boolOf_some {v : Value} {b : Bool} (h : boolOf v = some b) : v = .bool b := by
  cases v <;> cases h; rfl
theorem boolOf_none {v : Value} (h : boolOf v = none) : ∀ b, v ≠ .bool b := by
  intro a e; subst e; cases h
theorem intOf_some {v : Value} {p : IntKind × Int} (h : intOf v = some p) : v = .int p.1 p.2 := by
  cases v <;> cases h; rfl
/-! ### lists -/
def takeF (n : Nat) : List Value → Option (List Value) := @Nat.rec (fun _ => List Value → Option (List Value)) (fun _ => some []) (fun _ ih l => @List.rec Value (fun _ => (List Value → Option (List Value)) → Option (List Value)) (fun _ => none) (fun v l _ ih => @Option.rec (List Value) (fun _ => Option (List Value)) none (fun r => some (v :: r)) (ih l)) l ih) n
theorem takeF_eq (n : Nat) (l : List Value) : takeF n l = takeL n l := by
  induction n generalizing l with
  | zero => rfl
  | succ n ih =>
    cases l with
    | nil => rfl
    | cons v l =>
      have h : takeF (n + 1) (v :: l) = @Option.rec (List Value) (fun _ => Option (List Value)) none (fun r => some (v :: r)) (takeF n l) := rfl
      rw [h, ih, takeL]
      cases takeL n l <;> rfl
def dropF (n : Nat) : List Value → List Value := @Nat.rec (fun _ => List Value → List Value) (fun l => l) (fun _ ih l => @List.rec Value (fun _ => (List Value → List Value) → List Value) (fun _ => []) (fun _ l _ ih => ih l) l ih) n
theorem dropF_eq (n : Nat) (l : List Value) : dropF n l = dropL n l := by
  induction n generalizing l with
  | zero => cases l <;> rfl
  | succ n ih =>
    cases l with
    | nil => rfl
    | cons v l =>
      have h : dropF (n + 1) (v :: l) = dropF n l := rfl
      rw [h, ih, dropL]
def lay0 (vs : List Value) : List Value → Option (List Value) := @List.rec Value (fun _ => List Value → Option (List Value)) (fun l => some l) (fun v _ ih l => @List.rec Value (fun _ => Value → (List Value → Option (List Value)) → Option (List Value)) (fun _ _ => none) (fun _ l _ v ih => @Option.rec (List Value) (fun _ => Option (List Value)) none (fun r => some (v :: r)) (ih l)) l v ih) vs
theorem lay0_eq (vs l : List Value) : lay0 vs l = layL 0 vs l := by
  induction vs generalizing l with
  | nil => cases l <;> rfl
  | cons v vs ih =>
    cases l with
    | nil => rfl
    | cons x l =>
      have h : lay0 (v :: vs) (x :: l) = @Option.rec (List Value) (fun _ => Option (List Value)) none (fun r => some (v :: r)) (lay0 vs l) := rfl
      rw [h, ih]
      conv => rhs; unfold layL
      cases layL 0 vs l <;> rfl
def layF (n : Nat) : List Value → List Value → Option (List Value) := @Nat.rec (fun _ => List Value → List Value → Option (List Value)) lay0 (fun _ ih vs l => @List.rec Value (fun _ => List Value → (List Value → List Value → Option (List Value)) → Option (List Value)) (fun l _ => some l) (fun v vs _ l ih => @List.rec Value (fun _ => List Value → (List Value → List Value → Option (List Value)) → Option (List Value)) (fun _ _ => none) (fun x l _ vs ih => @Option.rec (List Value) (fun _ => Option (List Value)) none (fun r => some (x :: r)) (ih vs l)) l (v :: vs) ih) vs l ih) n
theorem layF_eq (n : Nat) (vs l : List Value) : layF n vs l = layL n vs l := by
  induction n generalizing vs l with
  | zero => exact lay0_eq vs l
  | succ n ih =>
    cases vs with
    | nil => cases l <;> rfl
    | cons v vs =>
      cases l with
      | nil => rfl
      | cons x l =>
        have h : layF (n + 1) (v :: vs) (x :: l) = @Option.rec (List Value) (fun _ => Option (List Value)) none (fun r => some (x :: r)) (layF n (v :: vs) l) := rfl
        rw [h, ih]
        conv => rhs; unfold layL
        cases layL n (v :: vs) l <;> rfl
def allOne (l : List Value) : Bool := @List.rec Value (fun _ => Bool) true (fun v _ ih => @Bool.rec (fun _ => Bool) false ih (oneF v)) l
theorem allOne_eq (l : List Value) : allOne l = l.all oneC := by
  induction l with
  | nil => rfl
  | cons v l ih =>
    have h : allOne (v :: l) = @Bool.rec (fun _ => Bool) false (allOne l) (oneF v) := rfl
    rw [h, ih, oneF_eq, List.all_cons]
    cases oneC v <;> rfl
def lenF (l : List Value) : Nat := @List.rec Value (fun _ => Nat) (nat_lit 0) (fun _ _ ih => Nat.succ ih) l
theorem lenF_eq (l : List Value) : lenF l = l.length := by
  induction l with
  | nil => rfl
  | cons v l ih => exact congrArg Nat.succ ih

/-- all of it, or what is taken -/
def takeW (n : Nat) (l : List Value) : Option (List Value) := @Bool.rec (fun _ => Nat → List Value → Option (List Value)) takeF (fun _ l => some l) (Nat.beq (lenF l) n) n l
theorem takeL_all : ∀ (l : List Value), takeL l.length l = some l := by
  intro l
  induction l with
  | nil => rfl
  | cons v l ih => simp only [List.length_cons, takeL, ih]
theorem takeW_eq (n : Nat) (l : List Value) : takeW n l = takeL n l := by
  unfold takeW
  cases h : Nat.beq (lenF l) n with
  | false => exact takeF_eq n l
  | true =>
    have := Nat.eq_of_beq_eq_true h
    rw [lenF_eq] at this
    subst this
    exact (takeL_all l).symm
theorem layL_all : ∀ (vs l : List Value), vs.length = l.length → layL 0 vs l = some vs := by
  intro vs
  induction vs with
  | nil => intro l h; cases l with
    | nil => rfl
    | cons => simp at h
  | cons v vs ih => intro l h; cases l with
    | nil => simp at h
    | cons x l =>
      have := ih l (by simpa using h)
      unfold layL
      rw [this]
/-- all of it, or what is laid -/
def layW (n : Nat) (vs l : List Value) : Option (List Value) := @Nat.rec (fun _ => List Value → List Value → Option (List Value)) (fun vs l => @Bool.rec (fun _ => List Value → List Value → Option (List Value)) lay0 (fun vs _ => some vs) (Nat.beq (lenF vs) (lenF l)) vs l) (fun m _ vs l => layF (Nat.succ m) vs l) n vs l
theorem layW_eq (n : Nat) (vs l : List Value) : layW n vs l = layL n vs l := by
  cases n with
  | zero =>
    show @Bool.rec (fun _ => List Value → List Value → Option (List Value)) lay0 (fun vs _ => some vs) (Nat.beq (lenF vs) (lenF l)) vs l = _
    cases h : Nat.beq (lenF vs) (lenF l) with
    | false => exact lay0_eq vs l
    | true =>
      have := Nat.eq_of_beq_eq_true h
      rw [lenF_eq, lenF_eq] at this
      exact (layL_all vs l this).symm
  | succ m => exact layF_eq (m + 1) vs l

/-! ### frames -/
def tmpF (f : AFr) (t : Nat) : Value := @Option.rec Value (fun _ => Value) bad (fun v => v) (vGet f.tmps t)
theorem tmpF_eq (f : AFr) (t : Nat) : tmpF f t = f.tmp t := by
  unfold tmpF AFr.tmp
  rw [vGet_eq]
  cases f.tmps.get t <;> rfl
def evF (f : AFr) (x : Operand) : Value := @Operand.rec (fun _ => AFr → Value) (fun t f => @Option.rec Value (fun _ => Value) bad (fun v => v) (vGetP (pathQ t) f.tmps)) (fun v _ => @Bool.rec (fun _ => Value) bad v (ground (nat_lit 3) v)) (fun _ _ => bad) (fun g _ => .func (.func g) #[] #[]) x f
theorem evF_eq (f : AFr) (x : Operand) : evF f x = f.ev x := by
  cases x with
  | tmp t => exact tmpF_eq f t
  | const v =>
    show @Bool.rec (fun _ => Value) bad v (ground 3 v) = cond (ground 3 v) v bad
    cases ground 3 v <;> rfl
  | global g => rfl
  | func g => rfl
theorem evE (f : AFr) : evF f = f.ev := funext (evF_eq f)
/-- with a number that is told -/
def frN (n : Nat) (t : Tr Value) (ds : List ADef) : AFr := @Nat.rec (fun _ => Tr Value → List ADef → AFr) (fun t ds => AFr.mk (nat_lit 0) t ds) (fun m _ t ds => AFr.mk (Nat.succ m) t ds) n t ds
theorem frN_eq (n : Nat) (t : Tr Value) (ds : List ADef) : frN n t ds = AFr.mk n t ds := by cases n <;> rfl
def putF (f : AFr) (d : Option Nat) (v : Value) : AFr := @Option.rec Nat (fun _ => AFr → Value → AFr) (fun f _ => f) (fun d f v => @AFr.rec (fun _ => Nat → Value → AFr) (fun n t ds d v => @Bool.rec (fun _ => AFr) (AFr.mk n t ds) (AFr.mk n (vPut (pathQ d) t (some v)) ds) (Nat.ble (Nat.succ d) n)) f d v) d f v
theorem putF_eq (f : AFr) (d : Option Nat) (v : Value) : putF f d v = f.put d v := by
  cases d with
  | none => rfl
  | some d =>
    obtain ⟨n, t, ds⟩ := f
    have hp : vPut (pathQ d) t (some v) = t.set d (some v) := vSet_eq t d (some v)
    show @Bool.rec (fun _ => AFr) (AFr.mk n t ds) (AFr.mk n (vPut (pathQ d) t (some v)) ds) (Nat.ble (Nat.succ d) n) = cond (Nat.ble (Nat.succ d) n) _ _
    rw [hp]
    cases Nat.ble (Nat.succ d) n <;> rfl
def Rs.bd {α β : Type} (x : Rs α) (k : α → Rs β) : Rs β := @Rs.rec α (fun _ => Rs β) k (fun s p => .er s p) x
theorem bd_eq {α β : Type} (x : Rs α) (k : α → Rs β) : x.bd k = x.bnd k := by cases x <;> rfl
def cnd {α : Type} (b : Bool) (x y : α) : α := @Bool.rec (fun _ => α) y x b
theorem cnd_eq {α : Type} (b : Bool) (x y : α) : cnd b x y = cond b x y := by cases b <;> rfl

def stL (n : Nat) (h : Tr AObj) (lo : Nat) : ASt := @Nat.rec (fun _ => Nat → Tr AObj → ASt) (fun n h => ASt.mk n h (nat_lit 0)) (fun m _ n h => ASt.mk n h (Nat.succ m)) lo n h
theorem stL_eq (n : Nat) (h : Tr AObj) (lo : Nat) : stL n h lo = ASt.mk n h lo := by cases lo <;> rfl
def minG (a b : Nat) : Nat := @Bool.rec (fun _ => Nat) b a (Nat.ble a b)
theorem minG_eq (a b : Nat) : minG a b = minN a b := by unfold minG minN; cases Nat.ble a b <;> rfl
def stN (n : Nat) (h : Tr AObj) (lo : Nat) : ASt := @Nat.rec (fun _ => Tr AObj → Nat → ASt) (fun h lo => stL (nat_lit 0) h lo) (fun m _ h lo => stL (Nat.succ m) h lo) n h lo
theorem stN_eq (n : Nat) (h : Tr AObj) (lo : Nat) : stN n h lo = ASt.mk n h lo := by cases n <;> exact stL_eq _ _ _
def setA (st : ASt) (a : Nat) (o : AObj) : ASt := @ASt.rec (fun _ => Nat → AObj → ASt) (fun n h lo a o => stN n (hSet h a (some o)) (minG lo a)) st a o
theorem setA_eq (st : ASt) (a : Nat) (o : AObj) : setA st a o = st.set a (some o) := by
  obtain ⟨n, h, lo⟩ := st
  show stN n (hSet h a (some o)) (minG lo a) = _
  rw [stN_eq, hSet_eq, minG_eq]; rfl
def newA (st : ASt) (o : AObj) : ASt := @ASt.rec (fun _ => AObj → ASt) (fun n h lo o => stN (Nat.succ n) (hSet h n (some o)) lo) st o
theorem newA_eq (st : ASt) (o : AObj) : newA st o = st.new o := by
  obtain ⟨n, h, lo⟩ := st
  show stN (Nat.succ n) (hSet h n (some o)) lo = _
  rw [stN_eq, hSet_eq]; rfl
def normS (st : ASt) : ASt := @ASt.rec (fun _ => ASt) stN st
theorem normS_eq (st : ASt) : normS st = st := by
  obtain ⟨n, h, lo⟩ := st
  exact stN_eq n h lo
/-! ### operations -/
/-- an operation alone -/
def opO (op : Op) : Oper := ⟨none, op, 0, "", #[], none⟩
theorem aOp_opO (P : Program) (f : AFr) (st : ASt) (o : Oper) : aOp P f st o = aOp P f st (opO o.op) := rfl
def okAx (v : Value) (st : ASt) : Rs AN := .ok (.val v st)

/-! each operation by itself -/
def gMove (x : Operand) (ev : Operand → Value) (P : Program) (st : ASt) : Rs AN := .ok (.val (ev x) st)
def gAssign (x : Operand) (ev : Operand → Value) (P : Program) (st : ASt) : Rs AN := .ok (.val (ev x) st)
def gPick (c : Operand) (a : Operand) (b : Operand) (ev : Operand → Value) (P : Program) (st : ASt) : Rs AN := match ev c with
    | .bool b' => .ok (.val (cnd b' (ev a) (ev b)) st)
    | _ => .er "pick"
def gAlloc (t : TypeId) (ev : Operand → Value) (P : Program) (st : ASt) : Rs AN := (zeroL P t).bd fun z => .ok (.val (.pointer (some ⟨st.next, 0, none⟩)) (newA st (.cells z true 0)))
def gBox (_q0 : TypeId) (x : Operand) (ev : Operand → Value) (P : Program) (st : ASt) : Rs AN := cnd ((cellsL (ev x)).all oneC) (.ok (.val (.pointer (some ⟨st.next, 0, none⟩)) (newA st (.cells (cellsL (ev x)) true 0)))) (.er "box")
def gBuild (t : TypeId) (ps : Array (Nat × Operand)) (ev : Operand → Value) (P : Program) (st : ASt) : Rs AN := (zeroL P t).bd fun z => (undL P t).bd fun d => match d with
    | .struct fs => (placesL P fs.toList).bd fun pl => (fillL (fun i => pl[i]?) z ((ps.toList.map fun (i, x) => (i, ev x)))).bd fun cs => .ok (.val (.agg cs.toArray) st)
    | .array _ e => (sizeL P e).bd fun n => (fillL (fun i => some (i * n, n)) z ((ps.toList.map fun (i, x) => (i, ev x)))).bd fun cs => .ok (.val (.agg cs.toArray) st)
    | _ => .er "build"
def gBuildSlice (t : TypeId) (len : Nat) (ps : Array (Nat × Operand)) (ev : Operand → Value) (P : Program) (st : ASt) : Rs AN := (undL P t).bd fun d => match d with
    | .slice e => (sizeL P e).bd fun n => (zeroL P e).bd fun z => cnd (Nat.beq z.length n && Nat.ble (len * n) 16777216) ((fillL (fun i => some (i * n, n)) (repL z len) ((ps.toList.map fun (i, x) => (i, ev x)))).bd fun cs =>
      .ok (.val (.slice (some ⟨st.next, 0, none⟩) len len) (newA st (.cells cs true n)))) (.er "buildSlice: size")
    | _ => .er "buildSlice"
def gInsert (t : TypeId) (m : Operand) (k : Operand) (x : Operand) (ev : Operand → Value) (P : Program) (st : ASt) : Rs AN := (undL P t).bd fun d => match d with
    | .map kt _ => (undL P kt).bd fun _ => match ev m with
      | .map (some r) => match hGet st.h r with
        | some (.map es clock) => (keyOk P kt false (ev k)).bd fun _ => (findL P kt (ev k) es 0).bd fun q => match q with
          | some (i, e) => cnd (Instr.sameBits 10000 e.key (ev k)) (.ok (.val undef (st.set r (some (.map (es.set i { e with key := ev k, val := ev x }) clock))))) (.er "update: bits")
          | none => .ok (.val undef (st.set r (some (.map (es ++ [{ key := ev k, val := ev x, born := clock }]) (clock + 1)))))
        | some (.omap kk vk es) => (putO P kt kk vk es (ev k) (ev x)).bd fun o => .ok (.val undef (st.set r (some o)))
        | _ => .er "update: map"
      | _ => .er "update"
    | _ => .er "update: type"
def gLoad (t : TypeId) (a : Operand) (ev : Operand → Value) (P : Program) (st : ASt) : Rs AN := match ev a with
    | .pointer (some a) => (sizeL P t).bd fun n => (st.read a n).bd fun l => (shutL P t l.1).bd fun v => .ok (.val v l.2)
    | _ => .er "load"
def gStore (t : TypeId) (a : Operand) (x : Operand) (ev : Operand → Value) (P : Program) (st : ASt) : Rs AN := match ev a with
    | .pointer (some a) => (sizeL P t).bd fun n => cnd (Nat.beq (cellsL (ev x)).length n) ((st.write a (cellsL (ev x))).bd fun st' => .ok (.val undef st')) (.er "store: size")
    | _ => .er "store"
def gNilCheck (x : Operand) (ev : Operand → Value) (P : Program) (st : ASt) : Rs AN := match ev x with
    | .pointer (some a) => .ok (.val (.pointer (some a)) st)
    | .iface t v => .ok (.val (.iface t v) st)
    | .func (.func g) a b => .ok (.val (.func (.func g) a b) st)
    | .slice a n c => .ok (.val (.slice a n c) st)
    | .map r => .ok (.val (.map r) st)
    | _ => .er "nilCheck"
def gBinOp (op : BinOp) (t : TypeId) (x : Operand) (y : Operand) (_q4 : TypeId) (ev : Operand → Value) (P : Program) (st : ASt) : Rs AN := match aFloat op (ev x) (ev y) with
   | some v => .ok (.val v st)
   | none => (aBin P op t x y (ev x) (ev y)).bd fun r => match r with
    | .ok v => .ok (.val v st)
    | .panic v => .ok (.panic v)
    | .no => .er "bin"
def gUnOp (op : UnOp) (_q1 : TypeId) (x : Operand) (ev : Operand → Value) (P : Program) (st : ASt) : Rs AN := match aNegF op (ev x) with
   | some v => .ok (.val v st)
   | none => cnd (ground 1 (ev x)) (match pureRun P (Op.unary op (ev x)) with | .ok v => cnd (refl1 v) (.ok (.val v st)) (.er "unary: nan") | _ => .er "unary") (.er "unary: ground")
def gConvert (s : TypeId) (d : TypeId) (x : Operand) (ev : Operand → Value) (P : Program) (st : ASt) : Rs AN := aConv P st s d (ev x)
def gMakeInterface (t : TypeId) (x : Operand) (ev : Operand → Value) (P : Program) (st : ASt) : Rs AN := (undL P t).bd fun d => match d with
    | .interface _ => .er "makeInterface"
    | _ => .ok (.val (.iface t (ev x)) st)
def gMakeFunc (fn : Fn) (a : Array Operand) (b : Array Operand) (ev : Operand → Value) (P : Program) (st : ASt) : Rs AN := .ok (.val (.func fn (a.toList.map ev).toArray (b.toList.map ev).toArray) st)
def gMakeMap (t : TypeId) (r : Option Operand) (ev : Operand → Value) (P : Program) (st : ASt) : Rs AN := match r with
    | none => .ok (.val (.map (some st.next)) (newA st (.map [] 0)))
    | some x => match ev x with
      | .int _ _ => (undL P t).bd fun d => match d with
        | .map _ _ => .ok (.val (.map (some st.next)) (newA st (.map [] 0)))
        | _ => .er "makeMap"
      | _ => .er "makeMap"
def gMakeSlice (t : TypeId) (l : Operand) (c : Operand) (ev : Operand → Value) (P : Program) (st : ASt) : Rs AN := match ev l, ev c with
    | .int _ (.ofNat l'), .int _ (.ofNat c') => (undL P t).bd fun d => match d with
      | .slice e => (zeroL P e).bd fun z => (sizeL P e).bd fun n => (bytesL P e).bd fun b => cnd (rowMk c)
        (cnd (Nat.beq l' c' && Nat.ble c' 1000000 && Nat.ble b 1000000 && Nat.beq z.length n && z.all zOk) (.ok (.val (.slice (some ⟨st.next, 0, some 0⟩) l' 0) (newA st (.row .mine n 0 l' fun _ j => nthT (z.map zT) j)))) (.er "makeRow"))
        (cnd (Nat.ble l' c' && Nat.ble c' 1000000 && Nat.ble b 1000000 && Nat.beq z.length n) (.ok (.val (.slice (some ⟨st.next, 0, none⟩) l' c') (newA st (.cells (repL z c') true n)))) (.er "makeSlice"))
      | _ => .er "makeSlice"
    | _, _ => .er "makeSlice"
def gSlice (t : TypeId) (x : Operand) (lo : Option Operand) (hi : Option Operand) (mx : Option Operand) (ev : Operand → Value) (P : Program) (st : ASt) : Rs AN := match mx with
    | none => (aSlice P st t (ev x) (lo.map ev) (hi.map ev)).bd fun v => .ok (.val v st)
    | some m => match ev m, hi.map ev, lo with
      | .int _ (.ofNat 0), some (.int _ (.ofNat 0)), none => (undL P t).bd fun d => match d, ev x with
        | .slice e, .slice (some ⟨b0, 0, some i0⟩) _ _ => (sizeL P e).bd fun _ => .ok (.val (.slice (some ⟨b0, 1, some i0⟩) 0 0) st)
        | .slice e, .slice none 0 0 => (sizeL P e).bd fun _ => .ok (.val (.slice none 0 0) st)
        | .slice e, .slice (some ⟨b0, o0, none⟩) _ _ => (sizeL P e).bd fun _ => .ok (.val (.slice (some ⟨b0, 1, some 0⟩) 0 0) st)
        | _, _ => .er "slice: of three"
      | _, _, _ => .er "slice: of three"
def gFieldAddr (s : TypeId) (x : Operand) (i : Nat) (ev : Operand → Value) (P : Program) (st : ASt) : Rs AN := match ev x with
    | .pointer (some ⟨b0, o0, none⟩) => (fieldOf P s i).bd fun fd => (sizeL P fd.type).bd fun n => cnd (Nat.beq n 0) (.er "fieldAddr: 0") (.ok (.val (.pointer (some ((⟨b0, o0, none⟩ : Addr).add fd.offset))) st))
    | .pointer (some ⟨b0, o0, some i0⟩) => (fieldOf P s i).bd fun fd => (sizeL P fd.type).bd fun n => cnd (Nat.beq n 0) (.er "fieldAddr: 0") (.ok (.val (.pointer (some ⟨b0, o0 + fd.offset, some i0⟩)) st))
    | _ => .er "fieldAddr"
def gField (t : TypeId) (x : Operand) (i : Nat) (ev : Operand → Value) (P : Program) (st : ASt) : Rs AN := match ev x with
    | .agg cs => (fieldOf P t i).bd fun fd => (partL P fd.type cs.toList fd.offset).bd fun v => .ok (.val v st)
    | _ => .er "field"
def gIndexAddr (t : TypeId) (x : Operand) (i : Operand) (ev : Operand → Value) (P : Program) (st : ASt) : Rs AN := match ev i with
    | .int _ (.ofNat i) => (undL P t).bd fun d => match d, ev x with
      | .slice e, .slice (some ⟨b0, o0, none⟩) n _ => (sizeL P e).bd fun s => cnd (Nat.blt i n) (.ok (.val (.pointer (some ((⟨b0, o0, none⟩ : Addr).add (i * s)))) st)) (.er "index")
      | .slice e, .slice (some ⟨b0, 0, some i0⟩) n _ => (sizeL P e).bd fun s => match hGet st.h b0 with
        | some (.row _ es _ _ _) => cnd (Nat.beq es s) (cnd (Nat.blt i n) (.ok (.val (.pointer (some ⟨b0, 0, some (i0 + i)⟩)) st)) (.er "index")) (.er "index: size")
        | _ => .er "index: row"
      | .array n e, .pointer (some ⟨b0, o0, none⟩) => (sizeL P e).bd fun s => cnd (Nat.blt i n) (.ok (.val (.pointer (some ((⟨b0, o0, none⟩ : Addr).add (i * s)))) st)) (.er "index")
      | .array n e, .pointer (some ⟨b0, o0, some i0⟩) => (sizeL P e).bd fun s => cnd (Nat.blt i n) (.ok (.val (.pointer (some ⟨b0, o0 + i * s, some i0⟩)) st)) (.er "index")
      | _, _ => .er "indexAddr"
    | _ => .er "indexAddr: int"
def gIndex (t : TypeId) (x : Operand) (i : Operand) (ev : Operand → Value) (P : Program) (st : ASt) : Rs AN := match ev i, ev x with
    | .int _ (.ofNat i), .string s => (undL P t).bd fun d => match d with
      | .string => match s.data.toList[i]? with
        | some b => .ok (.val (.int .u8 b.toNat) st)
        | none => .er "index: string"
      | _ => .er "index: string"
    | .int _ (.ofNat i), .agg cs => (undL P t).bd fun d => match d with
      | .array n e => (sizeL P e).bd fun s => cnd (Nat.blt i n) ((partL P e cs.toList (i * s)).bd fun v => .ok (.val v st)) (.er "index")
      | _ => .er "index"
    | _, _ => .er "index"
def gLookup (t : TypeId) (x : Operand) (i : Operand) (ok : Bool) (ev : Operand → Value) (P : Program) (st : ASt) : Rs AN := (undL P t).bd fun d => match d with
    | .map kt et => match omapOf st (ev x) with
      | some (kk, vk, es) => (lookO P kt et kk vk es (ev i) ok).bd fun v => .ok (.val v st)
      | none => (undL P kt).bd fun _ => (mapEs st (ev x)).bd fun es => (keyOk P kt es.isEmpty (ev i)).bd fun _ => (findL P kt (ev i) es 0).bd fun r => (zeroV P et).bd fun z =>
        .ok (.val (cnd ok (.tuple #[foundV r z, .bool r.isSome]) (foundV r z)) st)
    | _ => .er "lookup: type"
def gMapUpdate (t : TypeId) (m : Operand) (k : Operand) (x : Operand) (ev : Operand → Value) (P : Program) (st : ASt) : Rs AN := (undL P t).bd fun d => match d with
    | .map kt _ => (undL P kt).bd fun _ => match ev m with
      | .map (some r) => match hGet st.h r with
        | some (.map es clock) => (keyOk P kt false (ev k)).bd fun _ => (findL P kt (ev k) es 0).bd fun q => match q with
          | some (i, e) => cnd (Instr.sameBits 10000 e.key (ev k)) (.ok (.val undef (st.set r (some (.map (es.set i { e with key := ev k, val := ev x }) clock))))) (.er "update: bits")
          | none => .ok (.val undef (st.set r (some (.map (es ++ [{ key := ev k, val := ev x, born := clock }]) (clock + 1)))))
        | some (.omap kk vk es) => (putO P kt kk vk es (ev k) (ev x)).bd fun o => .ok (.val undef (st.set r (some o)))
        | _ => .er "update: map"
      | _ => .er "update"
    | _ => .er "update: type"
def gTypeAssert (x : Operand) (xt : TypeId) (t : TypeId) (ok : Bool) (ev : Operand → Value) (P : Program) (st : ASt) : Rs AN := (undL P t).bd fun d => match d, ev x with
    | .interface _, _ => .er "typeAssert: interface"
    | _, .nilIface => cnd ok ((zeroV P t).bd fun z => .ok (.val (.tuple #[z, .bool false]) st)) (.er "typeAssert: nil")
    | _, .iface t' v => cnd (Nat.beq t' t) (.ok (.val (cnd ok (.tuple #[v, .bool true]) v) st))
      (cnd ok ((zeroV P t).bd fun z => .ok (.val (.tuple #[z, .bool false]) st)) (.er "typeAssert: fails"))
    | _, _ => .er "typeAssert"
def gExtract (t : Operand) (i : Nat) (ev : Operand → Value) (P : Program) (st : ASt) : Rs AN := match ev t with
    | .tuple vs => (Rs.of "extract" vs.toList[i]?).bd fun v => .ok (.val v st)
    | _ => .er "extract"
def gCall (c : Call) (ev : Operand → Value) (P : Program) (st : ASt) : Rs AN := match c.callee with
    | .builtin b => aBuiltin P st b c.argTypes.toList (c.args.toList.map ev)
    | .value g => match ev g with
      | .func fn a b => aInvoke P fn (a.toList ++ c.args.toList.map ev) b.toList st
      | _ => .er "call: value"
    | .invoke _ _ => .er "invoke"
def gDefer (c : Call) (ev : Operand → Value) (P : Program) (st : ASt) : Rs AN := match c.callee with
    | .value g => match ev g with
      | .func fn a b => .ok (.defer ⟨fn, b.toList, a.toList ++ c.args.toList.map ev⟩)
      | _ => .er "defer"
    | _ => .er "defer"
def gPanic (x : Operand) (ev : Operand → Value) (P : Program) (st : ASt) : Rs AN := match ev x with
    | .iface t v => .ok (.panic (.iface t v))
    | _ => .er "panic"
theorem gMove_eq (a0 : Operand) (P : Program) (f : AFr) (st : ASt) : gMove a0 f.ev P st = aOp P f st (opO (.move a0)) := by
  unfold gMove
  try simp only [cnd_eq, bd_eq, newA_eq, hGet_eq]
  rfl
theorem gAssign_eq (a0 : Operand) (P : Program) (f : AFr) (st : ASt) : gAssign a0 f.ev P st = aOp P f st (opO (.assign a0)) := by
  unfold gAssign
  try simp only [cnd_eq, bd_eq, newA_eq, hGet_eq]
  rfl
theorem gPick_eq (a0 : Operand) (a1 : Operand) (a2 : Operand) (P : Program) (f : AFr) (st : ASt) : gPick a0 a1 a2 f.ev P st = aOp P f st (opO (.pick a0 a1 a2)) := by
  unfold gPick
  try simp only [cnd_eq, bd_eq, newA_eq, hGet_eq]
  rfl
theorem gAlloc_eq (a0 : TypeId) (P : Program) (f : AFr) (st : ASt) : gAlloc a0 f.ev P st = aOp P f st (opO (.alloc a0)) := by
  unfold gAlloc
  try simp only [cnd_eq, bd_eq, newA_eq, hGet_eq]
  rfl
theorem gBox_eq (a0 : TypeId) (a1 : Operand) (P : Program) (f : AFr) (st : ASt) : gBox a0 a1 f.ev P st = aOp P f st (opO (.box a0 a1)) := by
  unfold gBox
  try simp only [cnd_eq, bd_eq, newA_eq, hGet_eq]
  rfl
theorem gBuild_eq (a0 : TypeId) (a1 : Array (Nat × Operand)) (P : Program) (f : AFr) (st : ASt) : gBuild a0 a1 f.ev P st = aOp P f st (opO (.build a0 a1)) := by
  unfold gBuild
  try simp only [cnd_eq, bd_eq, newA_eq, hGet_eq]
  rfl
theorem gBuildSlice_eq (a0 : TypeId) (a1 : Nat) (a2 : Array (Nat × Operand)) (P : Program) (f : AFr) (st : ASt) : gBuildSlice a0 a1 a2 f.ev P st = aOp P f st (opO (.buildSlice a0 a1 a2)) := by
  unfold gBuildSlice
  try simp only [cnd_eq, bd_eq, newA_eq, hGet_eq]
  rfl
theorem gInsert_eq (a0 : TypeId) (a1 : Operand) (a2 : Operand) (a3 : Operand) (P : Program) (f : AFr) (st : ASt) : gInsert a0 a1 a2 a3 f.ev P st = aOp P f st (opO (.insert a0 a1 a2 a3)) := by
  unfold gInsert
  try simp only [cnd_eq, bd_eq, newA_eq, hGet_eq]
  rfl
theorem gLoad_eq (a0 : TypeId) (a1 : Operand) (P : Program) (f : AFr) (st : ASt) : gLoad a0 a1 f.ev P st = aOp P f st (opO (.load a0 a1)) := by
  unfold gLoad
  try simp only [cnd_eq, bd_eq, newA_eq, hGet_eq]
  rfl
theorem gStore_eq (a0 : TypeId) (a1 : Operand) (a2 : Operand) (P : Program) (f : AFr) (st : ASt) : gStore a0 a1 a2 f.ev P st = aOp P f st (opO (.store a0 a1 a2)) := by
  unfold gStore
  try simp only [cnd_eq, bd_eq, newA_eq, hGet_eq]
  rfl
theorem gNilCheck_eq (a0 : Operand) (P : Program) (f : AFr) (st : ASt) : gNilCheck a0 f.ev P st = aOp P f st (opO (.nilCheck a0)) := by
  unfold gNilCheck
  try simp only [cnd_eq, bd_eq, newA_eq, hGet_eq]
  rfl
theorem gBinOp_eq (a0 : BinOp) (a1 : TypeId) (a2 : Operand) (a3 : Operand) (a4 : TypeId) (P : Program) (f : AFr) (st : ASt) : gBinOp a0 a1 a2 a3 a4 f.ev P st = aOp P f st (opO (.binOp a0 a1 a2 a3 a4)) := by
  unfold gBinOp
  try simp only [cnd_eq, bd_eq, newA_eq, hGet_eq]
  rfl
theorem gUnOp_eq (a0 : UnOp) (a1 : TypeId) (a2 : Operand) (P : Program) (f : AFr) (st : ASt) : gUnOp a0 a1 a2 f.ev P st = aOp P f st (opO (.unOp a0 a1 a2)) := by
  unfold gUnOp
  try simp only [cnd_eq, bd_eq, newA_eq, hGet_eq]
  rfl
theorem gConvert_eq (a0 : TypeId) (a1 : TypeId) (a2 : Operand) (P : Program) (f : AFr) (st : ASt) : gConvert a0 a1 a2 f.ev P st = aOp P f st (opO (.convert a0 a1 a2)) := by
  unfold gConvert
  try simp only [cnd_eq, bd_eq, newA_eq, hGet_eq]
  rfl
theorem gMakeInterface_eq (a0 : TypeId) (a1 : Operand) (P : Program) (f : AFr) (st : ASt) : gMakeInterface a0 a1 f.ev P st = aOp P f st (opO (.makeInterface a0 a1)) := by
  unfold gMakeInterface
  try simp only [cnd_eq, bd_eq, newA_eq, hGet_eq]
  rfl
theorem gMakeFunc_eq (a0 : Fn) (a1 : Array Operand) (a2 : Array Operand) (P : Program) (f : AFr) (st : ASt) : gMakeFunc a0 a1 a2 f.ev P st = aOp P f st (opO (.makeFunc a0 a1 a2)) := by
  unfold gMakeFunc
  try simp only [cnd_eq, bd_eq, newA_eq, hGet_eq]
  rfl
theorem gMakeMap_eq (a0 : TypeId) (a1 : Option Operand) (P : Program) (f : AFr) (st : ASt) : gMakeMap a0 a1 f.ev P st = aOp P f st (opO (.makeMap a0 a1)) := by
  unfold gMakeMap
  try simp only [cnd_eq, bd_eq, newA_eq, hGet_eq]
  rfl
theorem gMakeSlice_eq (a0 : TypeId) (a1 : Operand) (a2 : Operand) (P : Program) (f : AFr) (st : ASt) : gMakeSlice a0 a1 a2 f.ev P st = aOp P f st (opO (.makeSlice a0 a1 a2)) := by
  unfold gMakeSlice
  try simp only [cnd_eq, bd_eq, newA_eq, hGet_eq]
  rfl
theorem gSlice_eq (a0 : TypeId) (a1 : Operand) (a2 : Option Operand) (a3 : Option Operand) (a4 : Option Operand) (P : Program) (f : AFr) (st : ASt) : gSlice a0 a1 a2 a3 a4 f.ev P st = aOp P f st (opO (.slice a0 a1 a2 a3 a4)) := by
  unfold gSlice
  try simp only [cnd_eq, bd_eq, newA_eq, hGet_eq]
  rfl
theorem gFieldAddr_eq (a0 : TypeId) (a1 : Operand) (a2 : Nat) (P : Program) (f : AFr) (st : ASt) : gFieldAddr a0 a1 a2 f.ev P st = aOp P f st (opO (.fieldAddr a0 a1 a2)) := by
  unfold gFieldAddr
  try simp only [cnd_eq, bd_eq, newA_eq, hGet_eq]
  rfl
theorem gField_eq (a0 : TypeId) (a1 : Operand) (a2 : Nat) (P : Program) (f : AFr) (st : ASt) : gField a0 a1 a2 f.ev P st = aOp P f st (opO (.field a0 a1 a2)) := by
  unfold gField
  try simp only [cnd_eq, bd_eq, newA_eq, hGet_eq]
  rfl
theorem gIndexAddr_eq (a0 : TypeId) (a1 : Operand) (a2 : Operand) (P : Program) (f : AFr) (st : ASt) : gIndexAddr a0 a1 a2 f.ev P st = aOp P f st (opO (.indexAddr a0 a1 a2)) := by
  unfold gIndexAddr
  try simp only [cnd_eq, bd_eq, newA_eq, hGet_eq]
  rfl
theorem gIndex_eq (a0 : TypeId) (a1 : Operand) (a2 : Operand) (P : Program) (f : AFr) (st : ASt) : gIndex a0 a1 a2 f.ev P st = aOp P f st (opO (.index a0 a1 a2)) := by
  unfold gIndex
  try simp only [cnd_eq, bd_eq, newA_eq, hGet_eq]
  rfl
theorem gLookup_eq (a0 : TypeId) (a1 : Operand) (a2 : Operand) (a3 : Bool) (P : Program) (f : AFr) (st : ASt) : gLookup a0 a1 a2 a3 f.ev P st = aOp P f st (opO (.lookup a0 a1 a2 a3)) := by
  unfold gLookup
  try simp only [cnd_eq, bd_eq, newA_eq, hGet_eq]
  rfl
theorem gMapUpdate_eq (a0 : TypeId) (a1 : Operand) (a2 : Operand) (a3 : Operand) (P : Program) (f : AFr) (st : ASt) : gMapUpdate a0 a1 a2 a3 f.ev P st = aOp P f st (opO (.mapUpdate a0 a1 a2 a3)) := by
  unfold gMapUpdate
  try simp only [cnd_eq, bd_eq, newA_eq, hGet_eq]
  rfl
theorem gTypeAssert_eq (a0 : Operand) (a1 : TypeId) (a2 : TypeId) (a3 : Bool) (P : Program) (f : AFr) (st : ASt) : gTypeAssert a0 a1 a2 a3 f.ev P st = aOp P f st (opO (.typeAssert a0 a1 a2 a3)) := by
  unfold gTypeAssert
  try simp only [cnd_eq, bd_eq, newA_eq, hGet_eq]
  rfl
theorem gExtract_eq (a0 : Operand) (a1 : Nat) (P : Program) (f : AFr) (st : ASt) : gExtract a0 a1 f.ev P st = aOp P f st (opO (.extract a0 a1)) := by
  unfold gExtract
  try simp only [cnd_eq, bd_eq, newA_eq, hGet_eq]
  rfl
theorem gCall_eq (a0 : Call) (P : Program) (f : AFr) (st : ASt) : gCall a0 f.ev P st = aOp P f st (opO (.call a0)) := by
  unfold gCall
  try simp only [cnd_eq, bd_eq, newA_eq, hGet_eq]
  rfl
theorem gDefer_eq (a0 : Call) (P : Program) (f : AFr) (st : ASt) : gDefer a0 f.ev P st = aOp P f st (opO (.defer a0)) := by
  unfold gDefer
  try simp only [cnd_eq, bd_eq, newA_eq, hGet_eq]
  rfl
theorem gPanic_eq (a0 : Operand) (P : Program) (f : AFr) (st : ASt) : gPanic a0 f.ev P st = aOp P f st (opO (.panic a0)) := by
  unfold gPanic
  try simp only [cnd_eq, bd_eq, newA_eq, hGet_eq]
  rfl

/-! ### numbers -/
def lim (k : IntKind) : Nat := @IntKind.rec (fun _ => Nat) (nat_lit 128) (nat_lit 32768) (nat_lit 2147483648) (nat_lit 9223372036854775808) (nat_lit 256) (nat_lit 65536) (nat_lit 4294967296) (nat_lit 18446744073709551616) k
def nlim (k : IntKind) : Nat := @IntKind.rec (fun _ => Nat) (nat_lit 128) (nat_lit 32768) (nat_lit 2147483648) (nat_lit 9223372036854775808) (nat_lit 0) (nat_lit 0) (nat_lit 0) (nat_lit 0) k
theorem wrapSm {k : IntKind} {n : Int} (h1 : -(nlim k : Int) ≤ n) (h2 : n < (lim k : Int)) : k.wrap n = n := by
  unfold IntKind.wrap
  cases k <;> simp only [nlim, lim] at h1 h2 <;> simp [IntKind.bits, IntKind.signed] <;> omega
def wrapF (k : IntKind) (n : Int) : Int := @Int.rec (fun _ => IntKind → Int) (fun m k => @Bool.rec (fun _ => Int) (k.wrap (Int.ofNat m)) (Int.ofNat m) (Nat.ble (Nat.succ m) (lim k))) (fun m k => @Bool.rec (fun _ => Int) (k.wrap (Int.negSucc m)) (Int.negSucc m) (Nat.ble (Nat.succ m) (nlim k))) n k
theorem wrapF_eq (k : IntKind) (n : Int) : wrapF k n = k.wrap n := by
  cases n with
  | ofNat m =>
    show @Bool.rec (fun _ => Int) (k.wrap (Int.ofNat m)) (Int.ofNat m) (Nat.ble (Nat.succ m) (lim k)) = _
    cases h : Nat.ble (Nat.succ m) (lim k) with
    | false => rfl
    | true =>
      have := ble_le h
      show Int.ofNat m = _
      have h3 : Int.ofNat m = (m : Int) := rfl
      have h4 : k.wrap (Int.ofNat m) = Int.ofNat m := wrapSm (by rw [h3]; omega) (by rw [h3]; omega)
      exact h4.symm
  | negSucc m =>
    show @Bool.rec (fun _ => Int) (k.wrap (Int.negSucc m)) (Int.negSucc m) (Nat.ble (Nat.succ m) (nlim k)) = _
    cases h : Nat.ble (Nat.succ m) (nlim k) with
    | false => rfl
    | true =>
      have := ble_le h
      show Int.negSucc m = _
      have h4 : k.wrap (Int.negSucc m) = Int.negSucc m := wrapSm (by rw [Int.negSucc_eq]; omega) (by rw [Int.negSucc_eq]; omega)
      exact h4.symm
def subNN (m n : Nat) : Int := @Nat.rec (fun _ => Nat → Nat → Int) (fun m n => Int.ofNat (Nat.sub m n)) (fun k _ _ _ => Int.negSucc k) (Nat.sub n m) m n
theorem subNN_eq (m n : Nat) : subNN m n = Int.subNatNat m n := by
  unfold subNN Int.subNatNat
  show @Nat.rec (fun _ => Nat → Nat → Int) (fun m n => Int.ofNat (Nat.sub m n)) (fun k _ _ _ => Int.negSucc k) (n - m) m n = _
  cases n - m <;> rfl
def addI (a b : Int) : Int := @Int.rec (fun _ => Int → Int) (fun m b => @Int.rec (fun _ => Nat → Int) (fun n m => Int.ofNat (Nat.add m n)) (fun n m => subNN m (Nat.succ n)) b m) (fun m b => @Int.rec (fun _ => Nat → Int) (fun n m => subNN n (Nat.succ m)) (fun n m => Int.negSucc (Nat.succ (Nat.add m n))) b m) a b
theorem addI_eq (a b : Int) : addI a b = a + b := by
  cases a <;> cases b
  · rfl
  · exact subNN_eq _ _
  · exact subNN_eq _ _
  · rfl
def negN (m : Nat) : Int := @Nat.rec (fun _ => Int) (Int.ofNat (nat_lit 0)) (fun k _ => Int.negSucc k) m
theorem negN_eq (m : Nat) : negN m = Int.negOfNat m := by cases m <;> rfl
def negI (a : Int) : Int := @Int.rec (fun _ => Int) negN (fun m => Int.ofNat (Nat.succ m)) a
theorem negI_eq (a : Int) : negI a = -a := by
  cases a with
  | ofNat m => exact negN_eq m
  | negSucc m => rfl
def subI (a b : Int) : Int := addI a (negI b)
theorem subI_eq (a b : Int) : subI a b = a - b := by unfold subI; rw [addI_eq, negI_eq]; rfl
def mulI (a b : Int) : Int := @Int.rec (fun _ => Int → Int) (fun m b => @Int.rec (fun _ => Nat → Int) (fun n m => Int.ofNat (Nat.mul m n)) (fun n m => negN (Nat.mul m (Nat.succ n))) b m) (fun m b => @Int.rec (fun _ => Nat → Int) (fun n m => negN (Nat.mul (Nat.succ m) n)) (fun n m => Int.ofNat (Nat.mul (Nat.succ m) (Nat.succ n))) b m) a b
theorem mulI_eq (a b : Int) : mulI a b = a * b := by
  cases a <;> cases b
  · rfl
  · exact negN_eq _
  · exact negN_eq _
  · rfl
def notF (b : Bool) : Bool := @Bool.rec (fun _ => Bool) true false b
theorem notF_eq (b : Bool) : notF b = !b := by cases b <;> rfl
def ltI (a b : Int) : Bool := @Int.rec (fun _ => Int → Bool) (fun m b => @Int.rec (fun _ => Nat → Bool) (fun n m => Nat.ble (Nat.succ m) n) (fun _ _ => false) b m) (fun m b => @Int.rec (fun _ => Nat → Bool) (fun _ _ => true) (fun n m => Nat.ble (Nat.succ n) m) b m) a b
theorem ble_dec (m n : Nat) : Nat.ble m n = decide (m ≤ n) := by
  rw [Bool.eq_iff_iff, decide_eq_true_iff]
  exact ⟨ble_le, Nat.ble_eq_true_of_le⟩
theorem ltI_eq (a b : Int) : ltI a b = decide (a < b) := by
  cases a with
  | ofNat m => cases b with
    | ofNat n =>
      show Nat.ble (Nat.succ m) n = _
      rw [ble_dec]
      have : (Int.ofNat m < Int.ofNat n) ↔ (Nat.succ m ≤ n) := by show ((m : Int) < (n : Int)) ↔ _; omega
      simp only [this]
    | negSucc n =>
      show false = _
      have : ¬ (Int.ofNat m < Int.negSucc n) := by rw [Int.negSucc_eq]; show ¬ ((m : Int) < _); omega
      simp only [this, decide_false]
  | negSucc m => cases b with
    | ofNat n =>
      show true = _
      have : Int.negSucc m < Int.ofNat n := by rw [Int.negSucc_eq]; show _ < (n : Int); omega
      simp only [this, decide_true]
    | negSucc n =>
      show Nat.ble (Nat.succ n) m = _
      rw [ble_dec]
      have : (Int.negSucc m < Int.negSucc n) ↔ (Nat.succ n ≤ m) := by rw [Int.negSucc_eq, Int.negSucc_eq]; omega
      simp only [this]
def eqI (a b : Int) : Bool := @Int.rec (fun _ => Int → Bool) (fun m b => @Int.rec (fun _ => Nat → Bool) (fun n m => Nat.beq m n) (fun _ _ => false) b m) (fun m b => @Int.rec (fun _ => Nat → Bool) (fun _ _ => false) (fun n m => Nat.beq m n) b m) a b
theorem beq_dec (m n : Nat) : Nat.beq m n = decide (m = n) := by
  rw [Bool.eq_iff_iff, decide_eq_true_iff]
  exact ⟨Nat.eq_of_beq_eq_true, fun h => by subst h; exact Nat.beq_refl m⟩
theorem eqI_eq (a b : Int) : eqI a b = (a == b) := by
  have h : (a == b) = decide (a = b) := by rw [Bool.eq_iff_iff, decide_eq_true_iff, beq_iff_eq]
  rw [h]
  cases a with
  | ofNat m => cases b with
    | ofNat n =>
      show Nat.beq m n = _
      rw [beq_dec]
      have : (Int.ofNat m = Int.ofNat n) ↔ (m = n) := by show ((m : Int) = (n : Int)) ↔ _; omega
      simp only [this]
    | negSucc n =>
      show false = _
      simp
  | negSucc m => cases b with
    | ofNat n =>
      show false = _
      simp
    | negSucc n =>
      show Nat.beq m n = _
      rw [beq_dec]
      have : (Int.negSucc m = Int.negSucc n) ↔ (m = n) := by rw [Int.negSucc_eq, Int.negSucc_eq]; omega
      simp only [this]
def kdN (k : IntKind) : Nat := @IntKind.rec (fun _ => Nat) (nat_lit 0) (nat_lit 1) (nat_lit 2) (nat_lit 3) (nat_lit 4) (nat_lit 5) (nat_lit 6) (nat_lit 7) k
theorem kdN_eq {a b : IntKind} (h : Nat.beq (kdN a) (kdN b) = true) : a = b := by
  cases a <;> cases b <;> first | rfl | cases h

/-! each operation by itself, in small steps -/
def oMove (x : Operand) (P : Program) (f : AFr) (st : ASt) : Rs AN := .ok (.val (evF f x) st)
theorem oMove_eq (x : Operand) (P : Program) (f : AFr) (st : ASt) : oMove x P f st = gMove x f.ev P st := by unfold oMove gMove; rw [evE]
def oAssign (x : Operand) (P : Program) (f : AFr) (st : ASt) : Rs AN := .ok (.val (evF f x) st)
theorem oAssign_eq (x : Operand) (P : Program) (f : AFr) (st : ASt) : oAssign x P f st = gAssign x f.ev P st := by unfold oAssign gAssign; rw [evE]
def isIf (d : TypeDesc) : Bool := match d with
  | .interface _ => true
  | _ => false
def oMakeInterface (t : TypeId) (x : Operand) (P : Program) (f : AFr) (st : ASt) : Rs AN := Rs.bd (undL P t) (fun d => @Bool.rec (fun _ => Rs AN) (.ok (.val (.iface t (evF f x)) st)) (.er "makeInterface") (isIf d))
theorem oMakeInterface_eq (t : TypeId) (x : Operand) (P : Program) (f : AFr) (st : ASt) : oMakeInterface t x P f st = gMakeInterface t x f.ev P st := by
  unfold oMakeInterface gMakeInterface; simp only [cnd_eq, bd_eq]
  rw [evE]
  congr 1
  funext d
  cases d <;> rfl
def oPick (c : Operand) (a : Operand) (b : Operand) (P : Program) (f : AFr) (st : ASt) : Rs AN := @Option.rec Bool (fun _ => Rs AN) (.er "pick") (fun q => .ok (.val (@Bool.rec (fun _ => Value) (evF f b) (evF f a) q) st)) (boolOf (evF f c))
theorem oPick_eq (c : Operand) (a : Operand) (b : Operand) (P : Program) (f : AFr) (st : ASt) : oPick c a b P f st = gPick c a b f.ev P st := by
  unfold oPick gPick; simp only [cnd_eq, bd_eq]
  rw [evE]
  cases h : boolOf (f.ev c) with
  | none =>
    have := boolOf_none h
    split
    · rename_i b' hb; exact absurd hb (this b')
    · rfl
  | some q =>
    rw [boolOf_some h]
    cases q <;> rfl
/-- cells as a value -/
def sh1 (st : ASt) (cs : List Value) : Rs AN := @List.rec Value (fun _ => ASt → Rs AN) (fun _ => .er "shut") (fun v l _ st => @List.rec Value (fun _ => Value → ASt → Rs AN) (fun v st => .ok (.val v st)) (fun _ _ _ _ _ => .er "shut") l v st) cs st
def shF (P : Program) (t : TypeId) (st : ASt) (cs : List Value) : Rs AN := Rs.bd (aggL P t) (fun b => @Bool.rec (fun _ => Rs AN) (sh1 st cs) (.ok (.val (.agg cs.toArray) st)) b)
theorem shF_eq (P : Program) (t : TypeId) (st : ASt) (cs : List Value) : shF P t st cs = (shutL P t cs).bnd fun v => .ok (.val v st) := by
  unfold shF shutL
  rw [bd_eq]
  cases aggL P t with
  | er s p => rfl
  | ok b =>
    cases b with
    | true => rfl
    | false =>
      cases cs with
      | nil => rfl
      | cons v l => cases l <;> rfl
def rdC (P : Program) (t : TypeId) (st : ASt) (a : Addr) (n : Nat) (cs : List Value) : Rs AN := @Option.rec Nat (fun _ => Rs AN) (@Option.rec (List Value) (fun _ => Rs AN) (.er "read") (shF P t st) (takeW n (dropF a.off cs))) (fun _ => .er "spot") a.spot
def rdS (P : Program) (t : TypeId) (st : ASt) (a : Addr) (n : Nat) : Rs AN := (st.read a n).bnd fun l => (shutL P t l.1).bnd fun v => .ok (.val v l.2)
def rdF (P : Program) (t : TypeId) (st : ASt) (a : Addr) (n : Nat) : Rs AN := @Option.rec AObj (fun _ => Program → TypeId → ASt → Addr → Nat → Rs AN) (fun _ _ _ _ _ => .er "read: no cells")
  (fun o => @AObj.rec (fun _ => Program → TypeId → ASt → Addr → Nat → Rs AN) (fun cs _ _ P t st a n => rdC P t st a n cs) (fun cs _ _ P t st a n => rdC P t st a n cs) (fun _ _ _ _ _ P t st a n => rdS P t st a n) (fun _ _ _ _ _ _ _ => .er "read: no cells") (fun _ _ _ _ _ _ _ _ => .er "read: no cells") (fun _ _ _ _ _ _ _ => .er "read: no cells") o) (hGet st.h a.block) P t st a n
theorem rdF_eq (P : Program) (t : TypeId) (st : ASt) (a : Addr) (n : Nat) : rdF P t st a n = rdS P t st a n := by
  have key : ∀ (cs : List Value), st.readC a n = (match a.spot with | none => Rs.of "read" (takeL n (dropL a.off cs)) | some _ => .er "spot") → isRow (st.h.get a.block) = false → rdC P t st a n cs = rdS P t st a n := by
    intro cs h1 h2
    unfold rdC rdS ASt.read
    rw [h2, h1, takeW_eq, dropF_eq]
    cases a.spot with
    | some i => rfl
    | none =>
      simp only [cond_false]
      cases takeL n (dropL a.off cs) with
      | none => rfl
      | some l => exact shF_eq P t st l
  unfold rdF
  rw [hGet_eq]
  cases h : st.h.get a.block with
  | none =>
    unfold rdS ASt.read ASt.readC
    simp only [h]
    rfl
  | some o =>
    cases o with
    | cells cs ex es => exact key cs (by unfold ASt.readC; rw [h]; rfl) (by rw [h]; rfl)
    | old cs ex es => exact key cs (by unfold ASt.readC; rw [h]; rfl) (by rw [h]; rfl)
    | row => rfl
    | map => unfold rdS ASt.read ASt.readC; simp only [h]; rfl
    | omap => unfold rdS ASt.read ASt.readC; simp only [h]; rfl
    | iter => unfold rdS ASt.read ASt.readC; simp only [h]; rfl
def oLoad (t : TypeId) (a : Operand) (P : Program) (f : AFr) (st : ASt) : Rs AN := @Option.rec Addr (fun _ => Rs AN) (.er "load") (fun ad => Rs.bd (sizeL P t) (rdF P t st ad)) (ptrOf (evF f a))
theorem oLoad_eq (t : TypeId) (a : Operand) (P : Program) (f : AFr) (st : ASt) : oLoad t a P f st = gLoad t a f.ev P st := by
  unfold oLoad gLoad; simp only [cnd_eq, bd_eq]
  rw [evE]
  cases h : ptrOf (f.ev a) with
  | none =>
    have := ptrOf_none h
    split
    · rename_i b' hb; exact absurd hb (this b')
    · rfl
  | some ad =>
    rw [ptrOf_some h]
    try simp only [cnd_eq, bd_eq, cnd_eq]
    congr 1
    funext n
    exact rdF_eq P t st ad n
def wrC (st : ASt) (a : Addr) (vs cs : List Value) (ex : Bool) (es : Nat) : Rs AN := @Option.rec Nat (fun _ => Rs AN) (@Option.rec (List Value) (fun _ => Rs AN) (.er "write") (fun cs' => @Bool.rec (fun _ => Rs AN) (.er "write: values") (.ok (.val undef (setA st a.block (.cells cs' ex es)))) (allOne vs)) (layW a.off vs cs)) (fun _ => .er "write") a.spot
def wrS (st : ASt) (a : Addr) (vs : List Value) : Rs AN := (st.write a vs).bnd fun st' => .ok (.val undef st')
def wrF (st : ASt) (a : Addr) (vs : List Value) : Rs AN := @Option.rec AObj (fun _ => ASt → Addr → List Value → Rs AN) (fun _ _ _ => .er "write: no cells")
  (fun o => @AObj.rec (fun _ => ASt → Addr → List Value → Rs AN) (fun cs ex es st a vs => wrC st a vs cs ex es) (fun _ _ _ _ _ _ => .er "write: no cells") (fun _ _ _ _ _ st a vs => wrS st a vs) (fun _ _ _ _ _ => .er "write: no cells") (fun _ _ _ _ _ _ => .er "write: no cells") (fun _ _ _ _ _ => .er "write: no cells") o) (hGet st.h a.block) st a vs
theorem wrF_eq (st : ASt) (a : Addr) (vs : List Value) : wrF st a vs = wrS st a vs := by
  unfold wrF
  rw [hGet_eq]
  cases h : st.h.get a.block with
  | none => unfold wrS ASt.write ASt.writeC; simp only [h]; rfl
  | some o =>
    cases o with
    | cells cs ex es =>
      show wrC st a vs cs ex es = _
      unfold wrC wrS ASt.write ASt.writeC
      rw [h, layW_eq, allOne_eq]
      simp only [isRow, cond_false]
      cases a.spot with
      | some i => cases layL a.off vs cs <;> rfl
      | none =>
        cases layL a.off vs cs with
        | none => rfl
        | some cs' =>
          simp only [setA_eq]
          cases vs.all oneC <;> rfl
    | old cs ex es => unfold wrS ASt.write ASt.writeC; simp only [h]; rfl
    | row => rfl
    | map => unfold wrS ASt.write ASt.writeC; simp only [h]; rfl
    | omap => unfold wrS ASt.write ASt.writeC; simp only [h]; rfl
    | iter => unfold wrS ASt.write ASt.writeC; simp only [h]; rfl
def oStore (t : TypeId) (a : Operand) (x : Operand) (P : Program) (f : AFr) (st : ASt) : Rs AN := @Option.rec Addr (fun _ => Rs AN) (.er "store") (fun ad => Rs.bd (sizeL P t) (fun n => @Bool.rec (fun _ => Rs AN) (.er "store: size") (wrF st ad (cellsF (evF f x))) (Nat.beq (lenF (cellsF (evF f x))) n))) (ptrOf (evF f a))
theorem oStore_eq (t : TypeId) (a : Operand) (x : Operand) (P : Program) (f : AFr) (st : ASt) : oStore t a x P f st = gStore t a x f.ev P st := by
  unfold oStore gStore; simp only [cnd_eq, bd_eq]
  rw [evE]
  cases h : ptrOf (f.ev a) with
  | none =>
    have := ptrOf_none h
    split
    · rename_i b' hb; exact absurd hb (this b')
    · rfl
  | some ad =>
    rw [ptrOf_some h]
    simp only [cnd_eq, bd_eq, lenF_eq, cellsF_eq, wrF_eq]
    congr 1
    funext n
    cases Nat.beq (cellsL (f.ev x)).length n <;> rfl

def binI (op : BinOp) (k : IntKind) (a b : Int) (st : ASt) (slow : Rs AN) : Rs AN := @BinOp.rec (fun _ => IntKind → Int → Int → ASt → Rs AN → Rs AN) (fun k a b st slow => .ok (.val (.int k (wrapF k (addI a b))) st)) (fun k a b st slow => .ok (.val (.int k (wrapF k (subI a b))) st)) (fun k a b st slow => .ok (.val (.int k (wrapF k (mulI a b))) st)) (fun k a b st slow => slow) (fun k a b st slow => slow) (fun k a b st slow => slow) (fun k a b st slow => slow) (fun k a b st slow => slow) (fun k a b st slow => slow) (fun k a b st slow => slow) (fun k a b st slow => slow) (fun k a b st slow => .ok (.val (.bool (eqI a b)) st)) (fun k a b st slow => .ok (.val (.bool (notF (eqI a b))) st)) (fun k a b st slow => .ok (.val (.bool (ltI a b)) st)) (fun k a b st slow => .ok (.val (.bool (notF (ltI b a))) st)) (fun k a b st slow => .ok (.val (.bool (ltI b a)) st)) (fun k a b st slow => .ok (.val (.bool (notF (ltI a b))) st)) op k a b st slow
def arithOpG (op : BinOp) : Bool := match op with
  | .add | .sub | .mul | .quo => true
  | _ => false
def ariG (k : FloatKind) (op : BinOp) (a b : Nat) : Nat := match op with
  | .add => (k.format.add a b).getD (qnan k)
  | .sub => (k.format.sub a b).getD (qnan k)
  | .mul => (k.format.mul a b).getD (qnan k)
  | .quo => (k.format.div a b).getD (qnan k)
  | _ => 0
/-- arithmetic of floating-point numbers, open ones too -/
def fltG (op : BinOp) (x y : Value) (st : ASt) (slow : Rs AN) : Rs AN := match x, y with
  | .float k a, .float k' b => cond (sameF k k') (match op with
    | .add => .ok (.val (.float k (ariG k .add a b)) st)
    | .sub => .ok (.val (.float k (ariG k .sub a b)) st)
    | .mul => .ok (.val (.float k (ariG k .mul a b)) st)
    | .quo => .ok (.val (.float k (ariG k .quo a b)) st)
    | _ => slow) slow
  | _, _ => slow
theorem fltG_eq (op : BinOp) (t : TypeId) (x y : Operand) (u : TypeId) (P : Program) (f : AFr) (st : ASt) : fltG op (f.ev x) (f.ev y) st (gBinOp op t x y u f.ev P st) = gBinOp op t x y u f.ev P st := by
  have key : ∀ k a b, arithOpG op = true → aFloat op (.float k a) (.float k b) = some (.float k (ariG k op a b)) := by
    intro k a b hop
    have hs : sameF k k = true := by cases k <;> rfl
    cases hn : (nanB k a || nanB k b) with
    | true =>
      obtain ⟨n1, n2, n3, n4, _⟩ := arith_nan hn
      cases op <;> simp [arithOpG] at hop <;> simp only [aFloat, hs, cond_true, hn, ariG, n1, n2, n3, n4, Option.getD_none]
    | false =>
      cases op <;> simp [arithOpG] at hop <;> simp only [aFloat, hs, cond_true, hn, cond_false, arithF, ariG] <;> split <;> simp_all
  unfold fltG
  split
  · rename_i k a k' b hx hy
    cases hk : sameF k k' with
    | false => rfl
    | true =>
      have e : k = k' := by cases k <;> cases k' <;> first | rfl | cases hk
      subst e
      simp only [cond_true]
      have fin : arithOpG op = true → (Rs.ok (AN.val (.float k (ariG k op a b)) st) : Rs AN) = gBinOp op t x y u f.ev P st := fun h => by
        unfold gBinOp
        rw [hx, hy, key k a b h]
      cases op <;> first | rfl | exact fin rfl
  · rfl
def oBinOp (op : BinOp) (t : TypeId) (x y : Operand) (u : TypeId) (P : Program) (f : AFr) (st : ASt) : Rs AN :=
  @Option.rec (IntKind × Int) (fun _ => Rs AN) (fltG op (evF f x) (evF f y) st (gBinOp op t x y u (evF f) P st)) (fun p => @Option.rec (IntKind × Int) (fun _ => Rs AN) (gBinOp op t x y u (evF f) P st) (fun q => @Bool.rec (fun _ => Rs AN) (gBinOp op t x y u (evF f) P st) (binI op p.1 p.2 q.2 st (gBinOp op t x y u (evF f) P st)) (Nat.beq (kdN p.1) (kdN q.1))) (intOf (evF f y))) (intOf (evF f x))
theorem gBin_int {op : BinOp} {t : TypeId} {x y : Operand} {u : TypeId} {P : Program} {f : AFr} {st : ASt} {k : IntKind} {a b : Int} {v : Value} (h1 : f.ev x = .int k a) (h2 : f.ev y = .int k b)
    (hop : pureRun P (do eqGuard op t x y (.int k a) (.int k b); binOp op t (.int k a) (.int k b)) = .ok v) (hv : refl1 v = true) : gBinOp op t x y u f.ev P st = .ok (.val v st) := by
  unfold gBinOp
  rw [h1, h2]
  have hf : aFloat op (.int k a) (.int k b) = none := rfl
  rw [hf]
  simp only
  unfold aBin
  simp only [ground, Bool.and_self, cond_true, hop, hv, Rs.bnd]
  rfl
theorem oBinOp_eq (op : BinOp) (t : TypeId) (x y : Operand) (u : TypeId) (P : Program) (f : AFr) (st : ASt) : oBinOp op t x y u P f st = gBinOp op t x y u f.ev P st := by
  unfold oBinOp
  rw [evE]
  cases h1 : intOf (f.ev x) with
  | none => exact fltG_eq op t x y u P f st
  | some p =>
    cases h2 : intOf (f.ev y) with
    | none => rfl
    | some q =>
      cases hk : Nat.beq (kdN p.1) (kdN q.1) with
      | false => simp only [hk]
      | true =>
        simp only [hk]
        obtain ⟨k, a⟩ := p
        obtain ⟨k', b⟩ := q
        have e := kdN_eq hk
        simp only at e
        subst e
        have h1 := intOf_some h1
        have h2 := intOf_some h2
        simp only at h1 h2 ⊢
        cases op
        case add =>
          rw [gBin_int (v := .int k (k.wrap (a + b))) h1 h2 (by simp [eqGuard, binOp, Op.intArith]; rfl) rfl]
          show Rs.ok (AN.val (.int k (wrapF k (addI a b))) st) = _
          rw [wrapF_eq, addI_eq]
        case sub =>
          rw [gBin_int (v := .int k (k.wrap (a - b))) h1 h2 (by simp [eqGuard, binOp, Op.intArith]; rfl) rfl]
          show Rs.ok (AN.val (.int k (wrapF k (subI a b))) st) = _
          rw [wrapF_eq, subI_eq]
        case mul =>
          rw [gBin_int (v := .int k (k.wrap (a * b))) h1 h2 (by simp [eqGuard, binOp, Op.intArith]; rfl) rfl]
          show Rs.ok (AN.val (.int k (wrapF k (mulI a b))) st) = _
          rw [wrapF_eq, mulI_eq]
        case eql =>
          rw [gBin_int (v := .bool (a == b)) h1 h2 (by simp [eqGuard, binOp, Op.intCmp]; rfl) rfl]
          show Rs.ok (AN.val (.bool (eqI a b)) st) = _
          rw [eqI_eq]
        case neq =>
          rw [gBin_int (v := .bool (a != b)) h1 h2 (by simp [eqGuard, binOp, Op.intCmp]; rfl) rfl]
          show Rs.ok (AN.val (.bool (notF (eqI a b))) st) = _
          rw [notF_eq, eqI_eq]; rfl
        case lss =>
          rw [gBin_int (v := .bool (decide (a < b))) h1 h2 (by simp [eqGuard, binOp, Op.intCmp]; rfl) rfl]
          show Rs.ok (AN.val (.bool (ltI a b)) st) = _
          rw [ltI_eq]
        case leq =>
          rw [gBin_int (v := .bool (decide (a ≤ b))) h1 h2 (by simp [eqGuard, binOp, Op.intCmp]; rfl) rfl]
          show Rs.ok (AN.val (.bool (notF (ltI b a))) st) = _
          rw [notF_eq, ltI_eq]
          congr 3
          rw [Bool.eq_iff_iff, decide_eq_true_iff, Bool.not_eq_true', decide_eq_false_iff_not]
          omega
        case gtr =>
          rw [gBin_int (v := .bool (decide (a > b))) h1 h2 (by simp [eqGuard, binOp, Op.intCmp]; rfl) rfl]
          show Rs.ok (AN.val (.bool (ltI b a)) st) = _
          rw [ltI_eq]
        case geq =>
          rw [gBin_int (v := .bool (decide (a ≥ b))) h1 h2 (by simp [eqGuard, binOp, Op.intCmp]; rfl) rfl]
          show Rs.ok (AN.val (.bool (notF (ltI a b))) st) = _
          rw [notF_eq, ltI_eq]
          congr 3
          rw [Bool.eq_iff_iff, decide_eq_true_iff, Bool.not_eq_true', decide_eq_false_iff_not]
          omega
        all_goals rfl
def addF (a : Addr) (n : Nat) : Addr := @Bool.rec (fun _ => Addr) (Addr.mk a.block (Nat.add a.off n) none) a (Nat.beq n (nat_lit 0))
theorem addF_eq (a : Addr) (n : Nat) : addF a n = a.add n := by
  unfold addF Addr.add
  show @Bool.rec (fun _ => Addr) (Addr.mk a.block (Nat.add a.off n) none) a (Nat.beq n 0) = _
  rw [beq_dec]
  by_cases h : n = 0
  · simp only [h, decide_true, if_true]
  · simp only [h, decide_false, if_false]; rfl
def oFieldAddr (s : TypeId) (x : Operand) (i : Nat) (P : Program) (f : AFr) (st : ASt) : Rs AN := @Option.rec Addr (fun _ => Rs AN) (gFieldAddr s x i (evF f) P st) (fun ad => @Option.rec Nat (fun _ => Rs AN) (Rs.bd (fieldOf P s i) (fun fd => Rs.bd (sizeL P fd.type) (fun n => @Bool.rec (fun _ => Rs AN) (.ok (.val (.pointer (some (addF ad fd.offset))) st)) (.er "fieldAddr: 0") (Nat.beq n (nat_lit 0))))) (fun _ => gFieldAddr s x i (evF f) P st) ad.spot) (ptrOf (evF f x))
theorem oFieldAddr_eq (s : TypeId) (x : Operand) (i : Nat) (P : Program) (f : AFr) (st : ASt) : oFieldAddr s x i P f st = gFieldAddr s x i f.ev P st := by
  unfold oFieldAddr
  rw [evE]
  cases h : ptrOf (f.ev x) with
  | none => rfl
  | some ad =>
    obtain ⟨b, o, sp⟩ := ad
    cases sp with
    | some i => rfl
    | none =>
      unfold gFieldAddr
      rw [ptrOf_some h]
      simp only [cnd_eq, bd_eq, addF_eq]
      congr 1
      funext fd
      congr 1
      funext n
      show @Bool.rec (fun _ => Rs AN) _ _ (Nat.beq n 0) = _
      cases Nat.beq n 0 <;> rfl
def sliOf : Value → Option (Addr × Nat) := @Value.rec (fun _ => Option (Addr × Nat)) (fun _ => PUnit.{1}) (fun _ => PUnit.{1}) (fun _ => none) (fun _ _ => none) (fun _ _ => none) (fun _ _ _ => none) (fun _ => none) (fun _ => none) (fun a n c => @Option.rec Addr (fun _ => Nat → Option (Addr × Nat)) (fun _ => none) (fun a n => some (a, n)) a n) (fun _ => none) (fun _ => none) (fun _ _ _ _ _ => none) (none) (fun _ _ _ => none) (none) (fun _ _ => none) (fun _ _ => none) (fun _ _ => PUnit.unit) PUnit.unit (fun _ _ _ _ => PUnit.unit)
theorem sliOf_some {v : Value} {p : Addr × Nat} (h : sliOf v = some p) : ∃ c, v = .slice (some p.1) p.2 c := by
  cases v with
  | slice a n c => cases a with
    | none => cases h
    | some a => cases h; exact ⟨c, rfl⟩
  | _ => cases h
def elemOf (P : Program) (t : TypeId) : Option TypeId := match undL P t with
  | .ok (.slice e) => some e
  | _ => none
theorem elemOf_some {P : Program} {t e : TypeId} (h : elemOf P t = some e) : undL P t = .ok (.slice e) := by
  unfold elemOf at h
  split at h
  · rename_i e' h1; cases h; exact h1
  · cases h
def oIndexAddr (t : TypeId) (x i : Operand) (P : Program) (f : AFr) (st : ASt) : Rs AN :=
  @Option.rec (IntKind × Int) (fun _ => Rs AN) (gIndexAddr t x i (evF f) P st) (fun p => @Int.rec (fun _ => Rs AN) (fun m => @Option.rec (Addr × Nat) (fun _ => Rs AN) (gIndexAddr t x i (evF f) P st)
    (fun s => @Option.rec Nat (fun _ => Rs AN) (@Option.rec Nat (fun _ => Rs AN) (gIndexAddr t x i (evF f) P st) (fun e => Rs.bd (sizeL P e) (fun sz => @Bool.rec (fun _ => Rs AN) (.er "index") (.ok (.val (.pointer (some (addF s.1 (Nat.mul m sz)))) st)) (Nat.ble (Nat.succ m) s.2))) (elemOf P t)) (fun _ => gIndexAddr t x i (evF f) P st) s.1.spot) (sliOf (evF f x))) (fun _ => gIndexAddr t x i (evF f) P st) p.2) (intOf (evF f i))
theorem oIndexAddr_eq (t : TypeId) (x i : Operand) (P : Program) (f : AFr) (st : ASt) : oIndexAddr t x i P f st = gIndexAddr t x i f.ev P st := by
  unfold oIndexAddr
  rw [evE]
  cases h : intOf (f.ev i) with
  | none => rfl
  | some p =>
    obtain ⟨k, n⟩ := p
    cases n with
    | negSucc m => rfl
    | ofNat m =>
      cases h2 : sliOf (f.ev x) with
      | none => rfl
      | some s =>
        obtain ⟨⟨b, o, sp⟩, n⟩ := s
        cases sp with
        | some i => rfl
        | none =>
          cases h3 : elemOf P t with
          | none => simp only [h3]
          | some e =>
            simp only [h3]
            obtain ⟨c, hx⟩ := sliOf_some h2
            unfold gIndexAddr
            rw [intOf_some h, elemOf_some h3, hx]
            simp only [cnd_eq, bd_eq, addF_eq, Rs.bnd]
            cases sizeL P e with
            | er s p => rfl
            | ok sz =>
              simp only
              show @Bool.rec (fun _ => Rs AN) _ _ (Nat.blt m n) = _
              cases Nat.blt m n <;> rfl
def nthF (n : Nat) : List Value → Option Value := @Nat.rec (fun _ => List Value → Option Value) (fun l => @List.rec Value (fun _ => Option Value) none (fun v _ _ => some v) l) (fun _ ih l => @List.rec Value (fun _ => (List Value → Option Value) → Option Value) (fun _ => none) (fun _ l _ ih => ih l) l ih) n
theorem nthF_eq (n : Nat) (l : List Value) : nthF n l = l[n]? := by
  induction n generalizing l with
  | zero => cases l <;> rfl
  | succ n ih =>
    cases l with
    | nil => rfl
    | cons v l =>
      have h : nthF (n + 1) (v :: l) = nthF n l := rfl
      rw [h, ih, List.getElem?_cons_succ]
def tupOf : Value → Option (Array Value) := @Value.rec (fun _ => Option (Array Value)) (fun _ => PUnit.{1}) (fun _ => PUnit.{1}) (fun _ => none) (fun _ _ => none) (fun _ _ => none) (fun _ _ _ => none) (fun _ => none) (fun _ => none) (fun _ _ _ => none) (fun _ => none) (fun _ => none) (fun _ _ _ _ _ => none) (none) (fun _ _ _ => none) (none) (fun _ _ => none) (fun vs _ => some vs) (fun _ _ => PUnit.unit) PUnit.unit (fun _ _ _ _ => PUnit.unit)
theorem tupOf_some {v : Value} {p : Array Value} (h : tupOf v = some p) : v = .tuple p := by
  cases v <;> cases h; rfl
def oExtract (t : Operand) (i : Nat) (P : Program) (f : AFr) (st : ASt) : Rs AN := @Option.rec (Array Value) (fun _ => Rs AN) (gExtract t i (evF f) P st) (fun vs => @Option.rec Value (fun _ => Rs AN) (gExtract t i (evF f) P st) (fun v => .ok (.val v st)) (nthF i vs.toList)) (tupOf (evF f t))
theorem oExtract_eq (t : Operand) (i : Nat) (P : Program) (f : AFr) (st : ASt) : oExtract t i P f st = gExtract t i f.ev P st := by
  unfold oExtract
  rw [evE]
  cases h : tupOf (f.ev t) with
  | none => rfl
  | some vs =>
    cases h2 : nthF i vs.toList with
    | none => simp only [h2]
    | some v =>
      simp only [h2]
      rw [nthF_eq] at h2
      unfold gExtract
      rw [tupOf_some h]
      simp only [h2, Rs.of, Rs.bnd]
      rfl
def oNilCheck (x : Operand) (P : Program) (f : AFr) (st : ASt) : Rs AN := @Option.rec Addr (fun _ => Rs AN) (gNilCheck x (evF f) P st) (fun a => .ok (.val (.pointer (some a)) st)) (ptrOf (evF f x))
theorem oNilCheck_eq (x : Operand) (P : Program) (f : AFr) (st : ASt) : oNilCheck x P f st = gNilCheck x f.ev P st := by
  unfold oNilCheck
  rw [evE]
  cases h : ptrOf (f.ev x) with
  | none => rfl
  | some a =>
    unfold gNilCheck
    rw [ptrOf_some h]
/-- arguments -/
def evsF (f : AFr) (l : List Operand) : List Value := @List.rec Operand (fun _ => AFr → List Value) (fun _ => []) (fun x _ ih f => evF f x :: ih f) l f
theorem evsF_eq (f : AFr) (l : List Operand) : evsF f l = l.map f.ev := by
  induction l with
  | nil => rfl
  | cons x l ih =>
    have h : evsF f (x :: l) = evF f x :: evsF f l := rfl
    rw [h, ih, evF_eq]; rfl
def appF (a b : List Value) : List Value := @List.rec Value (fun _ => List Value → List Value) (fun b => b) (fun v _ ih b => v :: ih b) a b
theorem appF_eq (a b : List Value) : appF a b = a ++ b := by
  induction a with
  | nil => rfl
  | cons x l ih => exact congrArg (List.cons x) ih
def funOf : Value → Option (FuncId × Array Value × Array Value) := @Value.rec (fun _ => Option (FuncId × Array Value × Array Value)) (fun _ => PUnit.{1}) (fun _ => PUnit.{1}) (fun _ => none) (fun _ _ => none) (fun _ _ => none) (fun _ _ _ => none) (fun _ => none) (fun _ => none) (fun _ _ _ => none) (fun _ => none) (fun _ => none) (fun f a b _ _ => @Fn.rec (fun _ => Array Value → Array Value → Option (FuncId × Array Value × Array Value)) (fun g a b => some (g, a, b)) (fun _ _ _ => none) (fun _ _ _ _ => none) (fun _ _ _ _ _ _ => none) (fun _ _ _ => none) f a b) (none) (fun _ _ _ => none) (none) (fun _ _ => none) (fun _ _ => none) (fun _ _ => PUnit.unit) PUnit.unit (fun _ _ _ _ => PUnit.unit)
theorem funOf_some {v : Value} {p : FuncId × Array Value × Array Value} (h : funOf v = some p) : v = .func (.func p.1) p.2.1 p.2.2 := by
  cases v with
  | func fn a b => cases fn with
    | func g => cases h; rfl
    | _ => cases h
  | _ => cases h
/-- may it be entered? -/
def entOk (P : Program) (g : FuncId) : Bool := match P.funcs.toList[g]? with
  | some fn => match fn.body with
    | some _ => !(fn.name == "runtime.NumGoroutine")
    | none => false
  | none => false
theorem entOk_true {P : Program} {g : FuncId} (h : entOk P g = true) (args : List Value) (st : ASt) : aCall P g args st = .ok (.enter g args) := by
  unfold entOk at h
  unfold aCall
  split at h
  · rename_i fn hfn
    split at h
    · rename_i b hb
      rw [hfn]
      simp only [hb]
      have : (fn.name == "runtime.NumGoroutine") = false := by simpa using h
      rw [this]
      rfl
    · cases h
  · cases h
def nrm (r : Rs AN) : Rs AN := @Rs.rec AN (fun _ => Rs AN) (fun an => @AN.rec (fun _ => Rs AN) (fun v st => .ok (.val v (normS st))) (fun g a => .ok (.enter g a)) (fun d => .ok (.defer d)) (fun v => .ok (.panic v)) an) (fun s p => .er s p) r
theorem nrm_eq (r : Rs AN) : nrm r = r := by
  cases r with
  | er s p => rfl
  | ok an =>
    cases an with
    | val v st =>
      show Rs.ok (AN.val v (normS st)) = _
      rw [normS_eq]
    | _ => rfl
/-- a write of cells -/
def wrK (st : ASt) (a : Addr) (vs cs : List Value) (ex : Bool) (es : Nat) : Rs ASt := @Option.rec Nat (fun _ => Rs ASt) (@Option.rec (List Value) (fun _ => Rs ASt) (.er "write") (fun cs' => @Bool.rec (fun _ => Rs ASt) (.er "write: values") (.ok (setA st a.block (.cells cs' ex es))) (allOne vs)) (layW a.off vs cs)) (fun _ => .er "write") a.spot
def wrL (st : ASt) (a : Addr) (vs : List Value) : Rs ASt := @Option.rec AObj (fun _ => Rs ASt) (.er "write: no cells") (fun o => @AObj.rec (fun _ => Rs ASt) (fun cs ex es => wrK st a vs cs ex es) (fun _ _ _ => .er "write: no cells") (fun _ _ _ _ _ => .er "write: no cells") (fun _ _ => .er "write: no cells") (fun _ _ _ => .er "write: no cells") (fun _ _ => .er "write: no cells") o) (hGet st.h a.block)
theorem wrL_eq (st : ASt) (a : Addr) (vs : List Value) : wrL st a vs = st.writeC a vs := by
  unfold wrL ASt.writeC
  rw [hGet_eq]
  cases st.h.get a.block with
  | none => rfl
  | some o =>
    cases o with
    | cells cs ex es =>
      show wrK st a vs cs ex es = _
      unfold wrK
      rw [layW_eq, allOne_eq]
      simp only
      cases a.spot with
      | some i => cases layL a.off vs cs <;> rfl
      | none =>
        cases layL a.off vs cs with
        | none => rfl
        | some cs' =>
          simp only [setA_eq]
          cases vs.all oneC <;> rfl
    | _ => rfl
def stG (st : ASt) (a : Nat) : ASt := @ASt.rec (fun _ => Nat → ASt) (fun n h lo a => stN n (hSet h a none) (minG lo a)) st a
theorem stG_eq (st : ASt) (a : Nat) : stG st a = st.set a none := by
  obtain ⟨n, h, lo⟩ := st
  show stN n (hSet h a none) (minG lo a) = _
  rw [stN_eq, hSet_eq, minG_eq]; rfl

/-! ### append of cells -/
def slcOf : Value → Option (Option Addr × Nat × Nat) := @Value.rec (fun _ => Option (Option Addr × Nat × Nat)) (fun _ => PUnit.{1}) (fun _ => PUnit.{1}) (fun _ => none) (fun _ _ => none) (fun _ _ => none) (fun _ _ _ => none) (fun _ => none) (fun _ => none) (fun a n c => some (a, n, c)) (fun _ => none) (fun _ => none) (fun _ _ _ _ _ => none) (none) (fun _ _ _ => none) (none) (fun _ _ => none) (fun _ _ => none) (fun _ _ => PUnit.unit) PUnit.unit (fun _ _ _ _ => PUnit.unit)
theorem slcOf_some {v : Value} {p : Option Addr × Nat × Nat} (h : slcOf v = some p) : v = .slice p.1 p.2.1 p.2.2 := by
  cases v <;> cases h; rfl
/-- no row -/
def plainA (a : Option Addr) : Bool := @Option.rec Addr (fun _ => Bool) true (fun a => @Option.rec Nat (fun _ => Bool) true (fun _ => false) a.spot) a
def rdK (cs : List Value) (a : Addr) (n : Nat) : Rs (List Value) := @Option.rec Nat (fun _ => Rs (List Value)) (@Option.rec (List Value) (fun _ => Rs (List Value)) (.er "read") (fun l => .ok l) (takeW n (dropF a.off cs))) (fun _ => .er "spot") a.spot
def rdL (st : ASt) (a : Addr) (n : Nat) : Rs (List Value) := @Option.rec AObj (fun _ => Addr → Nat → Rs (List Value)) (fun _ _ => .er "read: no cells") (fun o => @AObj.rec (fun _ => Addr → Nat → Rs (List Value)) (fun cs _ _ => rdK cs) (fun cs _ _ => rdK cs) (fun _ _ _ _ _ _ _ => .er "read: no cells") (fun _ _ _ _ => .er "read: no cells") (fun _ _ _ _ _ => .er "read: no cells") (fun _ _ _ _ => .er "read: no cells") o) (hGet st.h a.block) a n
theorem rdL_eq (st : ASt) (a : Addr) (n : Nat) : rdL st a n = st.readC a n := by
  have key : ∀ cs : List Value, rdK cs a n = (match a.spot with | none => Rs.of "read" (takeL n (dropL a.off cs)) | some _ => .er "spot") := by
    intro cs
    unfold rdK
    rw [takeW_eq, dropF_eq]
    cases a.spot with
    | some i => rfl
    | none => cases takeL n (dropL a.off cs) <;> rfl
  unfold rdL ASt.readC
  rw [hGet_eq]
  cases st.h.get a.block with
  | none => rfl
  | some o => cases o <;> first | exact key _ | rfl
/-- what is appended -/
def fstF (st : ASt) (size : Nat) (p : Option Addr × Nat × Nat) : Rs (Nat × List Value) := @Option.rec Addr (fun _ => Rs (Nat × List Value)) (.ok (nat_lit 0, [])) (fun a => Rs.bd (rdL st a (Nat.mul p.2.1 size)) (fun l => .ok (p.2.1, l))) p.1
theorem fstF_eq (st : ASt) (size : Nat) (p : Option Addr × Nat × Nat) : fstF st size p = firstL st size (.slice p.1 p.2.1 p.2.2) := by
  obtain ⟨a, n, c⟩ := p
  cases a with
  | none => rfl
  | some a =>
    show Rs.bd (rdL st a (n * size)) (fun l => .ok (n, l)) = _
    rw [rdL_eq, bd_eq]
    rfl
def apNew (st : ASt) (n size : Nat) (cs : List Value) : Rs AN := .ok (.val (.slice (some (Addr.mk st.next (nat_lit 0) none)) n n) (newA st (.cells cs false size)))
/-- a row of cells that grows -/
def apGrow (st : ASt) (size : Nat) (b : Addr) (len : Nat) (r : Nat × List Value) : Rs AN := Rs.bd (rdL st b (Nat.mul len size)) (fun old => @Option.rec AObj (fun _ => Rs AN) (.er "append: row") (fun o => @AObj.rec (fun _ => Rs AN) (fun _ ex es => @Bool.rec (fun _ => Rs AN) (@Bool.rec (fun _ => Rs AN) (.er "append: size") (apNew (stG st b.block) (Nat.add len r.1) size (appF old r.2)) (@Bool.rec (fun _ => Bool) false (allOne r.2) (Nat.beq es size))) (apNew st (Nat.add len r.1) size (appF old r.2)) ex) (fun _ _ _ => .er "append: row") (fun _ _ _ _ _ => .er "append: row") (fun _ _ => .er "append: row") (fun _ _ _ => .er "append: row") (fun _ _ => .er "append: row") o) (hGet st.h b.block))
/-- in its place -/
def apIn (st : ASt) (size : Nat) (b : Addr) (len cap : Nat) (r : Nat × List Value) : Rs AN := Rs.bd (wrL st (addF b (Nat.mul len size)) r.2) (fun st' => .ok (.val (.slice (some b) (Nat.add len r.1) cap) st'))
def apDo (st : ASt) (size : Nat) (s : Option Addr × Nat × Nat) (r : Nat × List Value) : Rs AN := @Bool.rec (fun _ => Rs AN)
  (@Option.rec Addr (fun _ => Rs AN) (apNew st r.1 size r.2) (fun b => apGrow st size b s.2.1 r) s.1)
  (@Option.rec Addr (fun _ => Rs AN) (.ok (.val (.slice none s.2.1 s.2.2) st)) (fun b => apIn st size b s.2.1 s.2.2 r) s.1) (Nat.ble (Nat.add s.2.1 r.1) s.2.2)
def apC (P : Program) (elem : TypeId) (st : ASt) (s x : Option Addr × Nat × Nat) : Rs AN := Rs.bd (sizeL P elem) (fun size => Rs.bd (bytesL P elem) (fun by_ => Rs.bd (zeroL P elem) (fun z => Rs.bd (fstF st size x) (fun r => @Bool.rec (fun _ => Rs AN) (.er "append: too long") (@Bool.rec (fun _ => Rs AN) (.er "append: too long") (apDo st size s r) (Nat.ble by_ 1000000 && Nat.beq z.length size)) (Nat.ble (Nat.add s.2.1 r.1) (nat_lit 1000000))))))

theorem apC_eq (P : Program) (t t2 elem e2 : TypeId) (ts : List TypeId) (st : ASt) (s x : Option Addr × Nat × Nat) (h1 : undL P t = .ok (.slice elem)) (h2 : undL P t2 = .ok (.slice e2)) (hs : plainA s.1 = true) (hx : plainA x.1 = true) :
    apC P elem st s x = aAppend P st (t :: t2 :: ts) [.slice s.1 s.2.1 s.2.2, .slice x.1 x.2.1 x.2.2] := by
  obtain ⟨sa, sn, sc⟩ := s
  obtain ⟨xa, xn, xc⟩ := x
  have hrow : isRowA (.slice sa sn sc) (.slice xa xn xc) = false := by
    have k1 : ∀ a n c, plainA a = true → isRowV (.slice a n c) = false := by
      intro a n c h
      cases a with
      | none => rfl
      | some a => obtain ⟨b, o, sp⟩ := a; cases sp with
        | none => rfl
        | some i => cases h
    unfold isRowA
    rw [k1 sa sn sc hs, k1 xa xn xc hx]
    cases sa with
    | none => cases sn <;> cases sc <;> rfl
    | some a => rfl
  unfold aAppend
  simp only [hrow, cond_false]
  unfold aAppendC
  simp only [h1, h2, Rs.bnd]
  unfold apC
  simp only [bd_eq]
  have hn : ∀ size, newsL P st (.slice e2) elem size (.slice xa xn xc) = firstL st size (.slice xa xn xc) := fun _ => rfl
  congr 1
  funext size
  congr 1
  funext by_
  congr 1
  funext z
  rw [hn, ← fstF_eq st size (xa, xn, xc)]
  congr 1
  funext r
  show @Bool.rec (fun _ => Rs AN) (.er "append: too long") (@Bool.rec (fun _ => Rs AN) (.er "append: too long") (apDo st size (sa, sn, sc) r) (Nat.ble by_ 1000000 && Nat.beq z.length size)) (Nat.ble (sn + r.1) 1000000) = _
  cases Nat.ble (sn + r.1) 1000000 with
  | false => rfl
  | true =>
    simp only [Bool.true_and]
    cases (Nat.ble by_ 1000000 && Nat.beq z.length size) with
    | false => rfl
    | true =>
      simp only [cond_true]
      unfold apDo
      simp only
      show @Bool.rec (fun _ => Rs AN) _ _ (Nat.ble (sn + r.1) sc) = _
      cases Nat.ble (sn + r.1) sc with
      | true =>
        simp only [cond_true]
        cases sa with
        | none => rfl
        | some b =>
          obtain ⟨b0, o0, sp⟩ := b
          cases sp with
          | some i => cases hs
          | none =>
            simp only [apIn, wrL_eq, addF_eq, bd_eq]
            rfl
      | false =>
        simp only [cond_false]
        cases sa with
        | none => simp only [apNew, newA_eq]
        | some b =>
          obtain ⟨b0, o0, sp⟩ := b
          cases sp with
          | some i => cases hs
          | none =>
            simp only [apGrow, rdL_eq, bd_eq, hGet_eq]
            congr 1
            funext old
            cases st.h.get b0 with
            | none => rfl
            | some o =>
              cases o with
              | cells cs ex es =>
                cases ex with
                | true => simp only [apNew, newA_eq, appF_eq]; rfl
                | false =>
                  simp only [allOne_eq]
                  cases Nat.beq es size with
                  | false => rfl
                  | true =>
                    cases r.2.all oneC with
                    | false => rfl
                    | true => simp only [apNew, newA_eq, appF_eq, stG_eq]; rfl
              | _ => rfl
def oApp (c : Call) (P : Program) (f : AFr) (st : ASt) : Rs AN := nrm (aAppend P st c.argTypes.toList (evsF f c.args.toList))
/-- of two slices of cells, of known types -/
def oAp2 (t t2 : TypeId) (x y : Operand) (c : Call) (P : Program) (f : AFr) (st : ASt) : Rs AN := @Option.rec Nat (fun _ => Rs AN) (oApp c P f st) (fun elem => @Option.rec Nat (fun _ => Rs AN) (oApp c P f st) (fun _ => @Option.rec (Option Addr × Nat × Nat) (fun _ => Rs AN) (oApp c P f st) (fun s => @Option.rec (Option Addr × Nat × Nat) (fun _ => Rs AN) (oApp c P f st) (fun q => @Bool.rec (fun _ => Rs AN) (oApp c P f st) (@Bool.rec (fun _ => Rs AN) (oApp c P f st) (apC P elem st s q) (plainA q.1)) (plainA s.1)) (slcOf (evF f y))) (slcOf (evF f x))) (elemOf P t2)) (elemOf P t)
def oAppend (c : Call) (P : Program) (f : AFr) (st : ASt) : Rs AN := @List.rec TypeId (fun _ => Call → Program → AFr → ASt → Rs AN) oApp (fun t l _ => @List.rec TypeId (fun _ => TypeId → Call → Program → AFr → ASt → Rs AN) (fun _ => oApp) (fun t2 _ _ t c P f st => @List.rec Operand (fun _ => Rs AN) (oApp c P f st) (fun x l _ => @List.rec Operand (fun _ => Rs AN) (oApp c P f st) (fun y l _ => @List.rec Operand (fun _ => Rs AN) (oAp2 t t2 x y c P f st) (fun _ _ _ => oApp c P f st) l) l) c.args.toList) l t) c.argTypes.toList c P f st
theorem oApp_eq (c : Call) (P : Program) (f : AFr) (st : ASt) : oApp c P f st = aAppend P st c.argTypes.toList (c.args.toList.map f.ev) := by unfold oApp; rw [nrm_eq, evsF_eq]
theorem oAppend_eq (c : Call) (P : Program) (f : AFr) (st : ASt) : oAppend c P f st = aAppend P st c.argTypes.toList (c.args.toList.map f.ev) := by
  rw [← oApp_eq]
  unfold oAppend
  cases h1 : c.argTypes.toList with
  | nil => rfl
  | cons t l =>
    cases l with
    | nil => rfl
    | cons t2 ts =>
      simp only
      cases h2 : c.args.toList with
      | nil => rfl
      | cons x l =>
        cases l with
        | nil => rfl
        | cons y l =>
          cases l with
          | cons => rfl
          | nil =>
            simp only
            unfold oAp2
            rw [evE]
            cases h3 : elemOf P t with
            | none => rfl
            | some elem =>
              cases h4 : elemOf P t2 with
              | none => rfl
              | some e2 =>
                cases h5 : slcOf (f.ev x) with
                | none => rfl
                | some s =>
                  cases h6 : slcOf (f.ev y) with
                  | none => rfl
                  | some q =>
                    cases h7 : plainA s.1 with
                    | false => simp only [h7]
                    | true =>
                      cases h8 : plainA q.1 with
                      | false => simp only [h7, h8]
                      | true =>
                        simp only [h7, h8]
                        rw [oApp_eq, h1, h2, apC_eq P t t2 elem e2 ts st s q (elemOf_some h3) (elemOf_some h4) h7 h8]
                        simp only [List.map, slcOf_some h5, slcOf_some h6]
def oLen (c : Call) (P : Program) (f : AFr) (st : ASt) : Rs AN := @List.rec TypeId (fun _ => Call → Program → AFr → ASt → Rs AN) (fun c P f st => gCall c (evF f) P st) (fun t _ _ c P f st => @List.rec Operand (fun _ => Call → Program → AFr → ASt → TypeId → Rs AN) (fun c P f st _ => gCall c (evF f) P st) (fun x l _ c P f st t => @List.rec Operand (fun _ => Call → Program → AFr → ASt → TypeId → Operand → Rs AN)
  (fun c P f st t x => @Option.rec (Addr × Nat) (fun _ => Rs AN) (gCall c (evF f) P st) (fun p => @Option.rec Nat (fun _ => Rs AN) (gCall c (evF f) P st) (fun _ => .ok (.val (.int .i64 (Int.ofNat p.2)) st)) (elemOf P t)) (sliOf (evF f x))) (fun _ _ _ c P f st _ _ => gCall c (evF f) P st) l c P f st t x) c.args.toList c P f st t) c.argTypes.toList c P f st
def bCall (b : Builtin) : Call → Program → AFr → ASt → Rs AN := @Builtin.rec (fun _ => Call → Program → AFr → ASt → Rs AN) oAppend (fun c P f st => gCall c (evF f) P st) (fun c P f st => gCall c (evF f) P st) (fun c P f st => gCall c (evF f) P st) (fun c P f st => gCall c (evF f) P st) (fun c P f st => gCall c (evF f) P st) (fun c P f st => gCall c (evF f) P st) (fun c P f st => gCall c (evF f) P st) oLen (fun c P f st => gCall c (evF f) P st) (fun c P f st => gCall c (evF f) P st) (fun c P f st => gCall c (evF f) P st) (fun c P f st => gCall c (evF f) P st) (fun c P f st => gCall c (evF f) P st) (fun c P f st => gCall c (evF f) P st) (fun c P f st => gCall c (evF f) P st) (fun c P f st => gCall c (evF f) P st) (fun c P f st => gCall c (evF f) P st) (fun c P f st => gCall c (evF f) P st) (fun c P f st => gCall c (evF f) P st) (fun c P f st => gCall c (evF f) P st) (fun c P f st => gCall c (evF f) P st) (fun c P f st => gCall c (evF f) P st) (fun c P f st => gCall c (evF f) P st) (fun c P f st => gCall c (evF f) P st) (fun c P f st => gCall c (evF f) P st) b
def oCall (c : Call) (P : Program) (f : AFr) (st : ASt) : Rs AN := @Callee.rec (fun _ => Call → Program → AFr → ASt → Rs AN) (fun g c P f st => @Option.rec (FuncId × Array Value × Array Value) (fun _ => Rs AN) (gCall c (evF f) P st) (fun q => @Bool.rec (fun _ => Rs AN) (gCall c (evF f) P st) (.ok (.enter q.1 (appF (appF q.2.1.toList (evsF f c.args.toList)) q.2.2.toList))) (entOk P q.1)) (funOf (evF f g))) (fun _ _ c P f st => gCall c (evF f) P st) bCall c.callee c P f st
theorem oCall_eq (c : Call) (P : Program) (f : AFr) (st : ASt) : oCall c P f st = gCall c f.ev P st := by
  obtain ⟨ce, args, ats⟩ := c
  cases ce with
  | invoke => rfl
  | value g =>
    unfold oCall
    simp only
    rw [evE]
    cases h : funOf (f.ev g) with
    | none => rfl
    | some q =>
      simp only
      cases h2 : entOk P q.1 with
      | false => rfl
      | true =>
        simp only
        unfold gCall
        simp only [funOf_some h, aInvoke, entOk_true h2, appF_eq, evsF_eq]
  | builtin b =>
    show bCall b _ P f st = _
    cases b
    case append =>
      show oAppend _ P f st = _
      rw [oAppend_eq]
      rfl
    case len =>
      show oLen _ P f st = _
      unfold oLen
      simp only [evE]
      cases hts : ats.toList with
      | nil => rfl
      | cons t ts =>
        cases has : args.toList with
        | nil => simp only [has]
        | cons x l =>
          cases l with
          | cons y l => simp only [has]
          | nil =>
            simp only [has]
            cases h : sliOf (f.ev x) with
            | none => rfl
            | some p =>
              cases h2 : elemOf P t with
              | none => simp only [h2]
              | some e =>
                simp only [h2]
                obtain ⟨cc, hx⟩ := sliOf_some h
                unfold gCall
                simp only [hts, has, List.map, hx, aBuiltin, aLen, elemOf_some h2, Rs.bnd]
                rfl
    all_goals (unfold bCall; dsimp only; rw [evE])
/-- an operation -/
def aOpF (P : Program) (f : AFr) (st : ASt) (op : Op) : Rs AN := @Op.rec (fun _ => Program → AFr → ASt → Rs AN) oMove oAssign oPick (fun a0 P f st => nrm (gAlloc a0 (evF f) P st)) (fun a0 a1 P f st => nrm (gBox a0 a1 (evF f) P st)) (fun a0 a1 P f st => gBuild a0 a1 (evF f) P st) (fun a0 a1 a2 P f st => nrm (gBuildSlice a0 a1 a2 (evF f) P st)) (fun a0 a1 a2 a3 P f st => nrm (gInsert a0 a1 a2 a3 (evF f) P st)) oLoad oStore (fun _ _ _ _ => .er "op") (fun _ _ _ _ => .er "op") oNilCheck oBinOp (fun a0 a1 a2 P f st => gUnOp a0 a1 a2 (evF f) P st) (fun a0 a1 a2 P f st => nrm (gConvert a0 a1 a2 (evF f) P st)) (fun _ _ _ _ _ => .er "op") oMakeInterface (fun a0 a1 a2 P f st => gMakeFunc a0 a1 a2 (evF f) P st) (fun a0 a1 P f st => nrm (gMakeMap a0 a1 (evF f) P st)) (fun _ _ _ _ _ => .er "op") (fun a0 a1 a2 P f st => nrm (gMakeSlice a0 a1 a2 (evF f) P st)) (fun a0 a1 a2 a3 a4 P f st => gSlice a0 a1 a2 a3 a4 (evF f) P st) oFieldAddr (fun a0 a1 a2 P f st => gField a0 a1 a2 (evF f) P st) oIndexAddr (fun a0 a1 a2 P f st => gIndex a0 a1 a2 (evF f) P st) (fun a0 a1 a2 a3 P f st => gLookup a0 a1 a2 a3 (evF f) P st) (fun a0 a1 a2 a3 P f st => nrm (gMapUpdate a0 a1 a2 a3 (evF f) P st)) (fun _ _ _ _ _ _ => .er "op") (fun _ _ _ _ _ _ _ => .er "op") (fun _ _ _ _ _ => .er "op") (fun _ _ _ _ _ => .er "op") (fun _ _ _ _ => .er "op") (fun a0 a1 a2 a3 P f st => gTypeAssert a0 a1 a2 a3 (evF f) P st) oExtract oCall (fun _ _ _ _ => .er "op") (fun a0 P f st => gDefer a0 (evF f) P st) (fun a0 P f st => gPanic a0 (evF f) P st) (fun _ _ _ _ _ => .er "op") (fun _ _ _ _ _ _ => .er "op") (fun _ _ _ _ _ => .er "op") op P f st
theorem aOpF_eq (P : Program) (f : AFr) (st : ASt) (o : Oper) : aOpF P f st o.op = aOp P f st o := by
  rw [aOp_opO]
  generalize o.op = op
  cases op
  case move => exact (oMove_eq _ P f st).trans (gMove_eq _ P f st)
  case assign => exact (oAssign_eq _ P f st).trans (gAssign_eq _ P f st)
  case pick => exact (oPick_eq _ _ _ P f st).trans (gPick_eq _ _ _ P f st)
  case alloc b0 =>
    show nrm (gAlloc b0 (evF f) P st) = _
    rw [nrm_eq, evE]
    exact gAlloc_eq _ P f st
  case box b0 b1 =>
    show nrm (gBox b0 b1 (evF f) P st) = _
    rw [nrm_eq, evE]
    exact gBox_eq _ _ P f st
  case build b0 b1 =>
    show gBuild b0 b1 (evF f) P st = _
    rw [evE]
    exact gBuild_eq _ _ P f st
  case buildSlice b0 b1 b2 =>
    show nrm (gBuildSlice b0 b1 b2 (evF f) P st) = _
    rw [nrm_eq, evE]
    exact gBuildSlice_eq _ _ _ P f st
  case insert b0 b1 b2 b3 =>
    show nrm (gInsert b0 b1 b2 b3 (evF f) P st) = _
    rw [nrm_eq, evE]
    exact gInsert_eq _ _ _ _ P f st
  case load => exact (oLoad_eq _ _ P f st).trans (gLoad_eq _ _ P f st)
  case store => exact (oStore_eq _ _ _ P f st).trans (gStore_eq _ _ _ P f st)
  case nilCheck => exact (oNilCheck_eq _ P f st).trans (gNilCheck_eq _ P f st)
  case binOp => exact (oBinOp_eq _ _ _ _ _ P f st).trans (gBinOp_eq _ _ _ _ _ P f st)
  case unOp b0 b1 b2 =>
    show gUnOp b0 b1 b2 (evF f) P st = _
    rw [evE]
    exact gUnOp_eq _ _ _ P f st
  case convert b0 b1 b2 =>
    show nrm (gConvert b0 b1 b2 (evF f) P st) = _
    rw [nrm_eq, evE]
    exact gConvert_eq _ _ _ P f st
  case makeInterface => exact (oMakeInterface_eq _ _ P f st).trans (gMakeInterface_eq _ _ P f st)
  case makeFunc b0 b1 b2 =>
    show gMakeFunc b0 b1 b2 (evF f) P st = _
    rw [evE]
    exact gMakeFunc_eq _ _ _ P f st
  case makeMap b0 b1 =>
    show nrm (gMakeMap b0 b1 (evF f) P st) = _
    rw [nrm_eq, evE]
    exact gMakeMap_eq _ _ P f st
  case makeSlice b0 b1 b2 =>
    show nrm (gMakeSlice b0 b1 b2 (evF f) P st) = _
    rw [nrm_eq, evE]
    exact gMakeSlice_eq _ _ _ P f st
  case slice b0 b1 b2 b3 b4 =>
    show gSlice b0 b1 b2 b3 b4 (evF f) P st = _
    rw [evE]
    exact gSlice_eq _ _ _ _ _ P f st
  case fieldAddr => exact (oFieldAddr_eq _ _ _ P f st).trans (gFieldAddr_eq _ _ _ P f st)
  case field b0 b1 b2 =>
    show gField b0 b1 b2 (evF f) P st = _
    rw [evE]
    exact gField_eq _ _ _ P f st
  case indexAddr => exact (oIndexAddr_eq _ _ _ P f st).trans (gIndexAddr_eq _ _ _ P f st)
  case index b0 b1 b2 =>
    show gIndex b0 b1 b2 (evF f) P st = _
    rw [evE]
    exact gIndex_eq _ _ _ P f st
  case lookup b0 b1 b2 b3 =>
    show gLookup b0 b1 b2 b3 (evF f) P st = _
    rw [evE]
    exact gLookup_eq _ _ _ _ P f st
  case mapUpdate b0 b1 b2 b3 =>
    show nrm (gMapUpdate b0 b1 b2 b3 (evF f) P st) = _
    rw [nrm_eq, evE]
    exact gMapUpdate_eq _ _ _ _ P f st
  case typeAssert b0 b1 b2 b3 =>
    show gTypeAssert b0 b1 b2 b3 (evF f) P st = _
    rw [evE]
    exact gTypeAssert_eq _ _ _ _ P f st
  case extract => exact (oExtract_eq _ _ P f st).trans (gExtract_eq _ _ P f st)
  case call => exact (oCall_eq _ P f st).trans (gCall_eq _ P f st)
  case defer b0 =>
    show gDefer b0 (evF f) P st = _
    rw [evE]
    exact gDefer_eq _ P f st
  case panic b0 =>
    show gPanic b0 (evF f) P st = _
    rw [evE]
    exact gPanic_eq _ P f st
  all_goals rfl
theorem gMove_cg (x : Operand) {ev ev' : Operand → Value} (P : Program) (st : ASt) (h : ∀ z ∈ (Op.move x).operands.toList, ev z = ev' z) : gMove x ev P st = gMove x ev' P st := by
  have h0 := h x (by simp [Op.operands])
  unfold gMove
  simp only [h0]
theorem gAssign_cg (x : Operand) {ev ev' : Operand → Value} (P : Program) (st : ASt) (h : ∀ z ∈ (Op.assign x).operands.toList, ev z = ev' z) : gAssign x ev P st = gAssign x ev' P st := by
  have h0 := h x (by simp [Op.operands])
  unfold gAssign
  simp only [h0]
theorem gPick_cg (c : Operand) (a : Operand) (b : Operand) {ev ev' : Operand → Value} (P : Program) (st : ASt) (h : ∀ z ∈ (Op.pick c a b).operands.toList, ev z = ev' z) : gPick c a b ev P st = gPick c a b ev' P st := by
  have h0 := h c (by simp [Op.operands])
  have h1 := h a (by simp [Op.operands])
  have h2 := h b (by simp [Op.operands])
  unfold gPick
  simp only [h0, h1, h2]
theorem gAlloc_cg (t : TypeId) {ev ev' : Operand → Value} (P : Program) (st : ASt) (h : ∀ z ∈ (Op.alloc t).operands.toList, ev z = ev' z) : gAlloc t ev P st = gAlloc t ev' P st := by
  rfl
theorem gBox_cg (t : TypeId) (x : Operand) {ev ev' : Operand → Value} (P : Program) (st : ASt) (h : ∀ z ∈ (Op.box t x).operands.toList, ev z = ev' z) : gBox t x ev P st = gBox t x ev' P st := by
  have h0 := h x (by simp [Op.operands])
  unfold gBox
  simp only [h0]
theorem gBuild_cg (t : TypeId) (ps : Array (Nat × Operand)) {ev ev' : Operand → Value} (P : Program) (st : ASt) (h : ∀ z ∈ (Op.build t ps).operands.toList, ev z = ev' z) : gBuild t ps ev P st = gBuild t ps ev' P st := by
  have hm : (ps.toList.map fun (i, x) => (i, ev x)) = (ps.toList.map fun (i, x) => (i, ev' x)) := List.map_congr_left fun p hp => by
    obtain ⟨i, x⟩ := p
    have := h x (by simp [Op.operands]; exact ⟨i, by simpa using hp⟩)
    simp only [this]
  unfold gBuild
  simp only [hm]
theorem gBuildSlice_cg (t : TypeId) (len : Nat) (ps : Array (Nat × Operand)) {ev ev' : Operand → Value} (P : Program) (st : ASt) (h : ∀ z ∈ (Op.buildSlice t len ps).operands.toList, ev z = ev' z) : gBuildSlice t len ps ev P st = gBuildSlice t len ps ev' P st := by
  have hm : (ps.toList.map fun (i, x) => (i, ev x)) = (ps.toList.map fun (i, x) => (i, ev' x)) := List.map_congr_left fun p hp => by
    obtain ⟨i, x⟩ := p
    have := h x (by simp [Op.operands]; exact ⟨i, by simpa using hp⟩)
    simp only [this]
  unfold gBuildSlice
  simp only [hm]
theorem gInsert_cg (t : TypeId) (m : Operand) (k : Operand) (x : Operand) {ev ev' : Operand → Value} (P : Program) (st : ASt) (h : ∀ z ∈ (Op.insert t m k x).operands.toList, ev z = ev' z) : gInsert t m k x ev P st = gInsert t m k x ev' P st := by
  have h0 := h m (by simp [Op.operands])
  have h1 := h k (by simp [Op.operands])
  have h2 := h x (by simp [Op.operands])
  unfold gInsert
  simp only [h0, h1, h2]
theorem gLoad_cg (t : TypeId) (a : Operand) {ev ev' : Operand → Value} (P : Program) (st : ASt) (h : ∀ z ∈ (Op.load t a).operands.toList, ev z = ev' z) : gLoad t a ev P st = gLoad t a ev' P st := by
  have h0 := h a (by simp [Op.operands])
  unfold gLoad
  simp only [h0]
theorem gStore_cg (t : TypeId) (a : Operand) (x : Operand) {ev ev' : Operand → Value} (P : Program) (st : ASt) (h : ∀ z ∈ (Op.store t a x).operands.toList, ev z = ev' z) : gStore t a x ev P st = gStore t a x ev' P st := by
  have h0 := h a (by simp [Op.operands])
  have h1 := h x (by simp [Op.operands])
  unfold gStore
  simp only [h0, h1]
theorem gNilCheck_cg (x : Operand) {ev ev' : Operand → Value} (P : Program) (st : ASt) (h : ∀ z ∈ (Op.nilCheck x).operands.toList, ev z = ev' z) : gNilCheck x ev P st = gNilCheck x ev' P st := by
  have h0 := h x (by simp [Op.operands])
  unfold gNilCheck
  simp only [h0]
theorem gBinOp_cg (op : BinOp) (t : TypeId) (x : Operand) (y : Operand) (u : TypeId) {ev ev' : Operand → Value} (P : Program) (st : ASt) (h : ∀ z ∈ (Op.binOp op t x y u).operands.toList, ev z = ev' z) : gBinOp op t x y u ev P st = gBinOp op t x y u ev' P st := by
  have h0 := h x (by simp [Op.operands])
  have h1 := h y (by simp [Op.operands])
  unfold gBinOp
  simp only [h0, h1]
theorem gUnOp_cg (op : UnOp) (t : TypeId) (x : Operand) {ev ev' : Operand → Value} (P : Program) (st : ASt) (h : ∀ z ∈ (Op.unOp op t x).operands.toList, ev z = ev' z) : gUnOp op t x ev P st = gUnOp op t x ev' P st := by
  have h0 := h x (by simp [Op.operands])
  unfold gUnOp
  simp only [h0]
theorem gConvert_cg (s : TypeId) (d : TypeId) (x : Operand) {ev ev' : Operand → Value} (P : Program) (st : ASt) (h : ∀ z ∈ (Op.convert s d x).operands.toList, ev z = ev' z) : gConvert s d x ev P st = gConvert s d x ev' P st := by
  have h0 := h x (by simp [Op.operands])
  unfold gConvert
  simp only [h0]
theorem gMakeInterface_cg (t : TypeId) (x : Operand) {ev ev' : Operand → Value} (P : Program) (st : ASt) (h : ∀ z ∈ (Op.makeInterface t x).operands.toList, ev z = ev' z) : gMakeInterface t x ev P st = gMakeInterface t x ev' P st := by
  have h0 := h x (by simp [Op.operands])
  unfold gMakeInterface
  simp only [h0]
theorem gMakeFunc_cg (fn : Fn) (a : Array Operand) (b : Array Operand) {ev ev' : Operand → Value} (P : Program) (st : ASt) (h : ∀ z ∈ (Op.makeFunc fn a b).operands.toList, ev z = ev' z) : gMakeFunc fn a b ev P st = gMakeFunc fn a b ev' P st := by
  have h1 : a.toList.map ev = a.toList.map ev' := List.map_congr_left fun x hx => h x (by simp [Op.operands]; exact .inl (by simpa using hx))
  have h2 : b.toList.map ev = b.toList.map ev' := List.map_congr_left fun x hx => h x (by simp [Op.operands]; exact .inr (by simpa using hx))
  unfold gMakeFunc
  simp only [h1, h2]
theorem gMakeMap_cg (t : TypeId) (r : Option Operand) {ev ev' : Operand → Value} (P : Program) (st : ASt) (h : ∀ z ∈ (Op.makeMap t r).operands.toList, ev z = ev' z) : gMakeMap t r ev P st = gMakeMap t r ev' P st := by
  cases r with
  | none => rfl
  | some x =>
    have h1 := h x (by simp [Op.operands])
    unfold gMakeMap
    simp only [h1]
theorem gMakeSlice_cg (t : TypeId) (l : Operand) (c : Operand) {ev ev' : Operand → Value} (P : Program) (st : ASt) (h : ∀ z ∈ (Op.makeSlice t l c).operands.toList, ev z = ev' z) : gMakeSlice t l c ev P st = gMakeSlice t l c ev' P st := by
  have h0 := h l (by simp [Op.operands])
  have h1 := h c (by simp [Op.operands])
  unfold gMakeSlice
  simp only [h0, h1]
theorem gSlice_cg (t : TypeId) (x : Operand) (lo : Option Operand) (hi : Option Operand) (mx : Option Operand) {ev ev' : Operand → Value} (P : Program) (st : ASt) (h : ∀ z ∈ (Op.slice t x lo hi mx).operands.toList, ev z = ev' z) : gSlice t x lo hi mx ev P st = gSlice t x lo hi mx ev' P st := by
  have h1 := h x (by simp [Op.operands])
  have h2 : lo.map ev = lo.map ev' := by
    cases lo with
    | none => rfl
    | some z => exact congrArg some (h z (by simp [Op.operands]))
  have h3 : hi.map ev = hi.map ev' := by
    cases hi with
    | none => rfl
    | some z => exact congrArg some (h z (by simp [Op.operands]))
  unfold gSlice
  cases mx with
  | none => simp only [h1, h2, h3]
  | some z =>
    have h4 := h z (by simp [Op.operands])
    simp only [h1, h2, h3, h4]
theorem gFieldAddr_cg (s : TypeId) (x : Operand) (i : Nat) {ev ev' : Operand → Value} (P : Program) (st : ASt) (h : ∀ z ∈ (Op.fieldAddr s x i).operands.toList, ev z = ev' z) : gFieldAddr s x i ev P st = gFieldAddr s x i ev' P st := by
  have h0 := h x (by simp [Op.operands])
  unfold gFieldAddr
  simp only [h0]
theorem gField_cg (t : TypeId) (x : Operand) (i : Nat) {ev ev' : Operand → Value} (P : Program) (st : ASt) (h : ∀ z ∈ (Op.field t x i).operands.toList, ev z = ev' z) : gField t x i ev P st = gField t x i ev' P st := by
  have h0 := h x (by simp [Op.operands])
  unfold gField
  simp only [h0]
theorem gIndexAddr_cg (t : TypeId) (x : Operand) (i : Operand) {ev ev' : Operand → Value} (P : Program) (st : ASt) (h : ∀ z ∈ (Op.indexAddr t x i).operands.toList, ev z = ev' z) : gIndexAddr t x i ev P st = gIndexAddr t x i ev' P st := by
  have h0 := h x (by simp [Op.operands])
  have h1 := h i (by simp [Op.operands])
  unfold gIndexAddr
  simp only [h0, h1]
theorem gIndex_cg (t : TypeId) (x : Operand) (i : Operand) {ev ev' : Operand → Value} (P : Program) (st : ASt) (h : ∀ z ∈ (Op.index t x i).operands.toList, ev z = ev' z) : gIndex t x i ev P st = gIndex t x i ev' P st := by
  have h0 := h x (by simp [Op.operands])
  have h1 := h i (by simp [Op.operands])
  unfold gIndex
  simp only [h0, h1]
theorem gLookup_cg (t : TypeId) (x : Operand) (i : Operand) (ok : Bool) {ev ev' : Operand → Value} (P : Program) (st : ASt) (h : ∀ z ∈ (Op.lookup t x i ok).operands.toList, ev z = ev' z) : gLookup t x i ok ev P st = gLookup t x i ok ev' P st := by
  have h0 := h x (by simp [Op.operands])
  have h1 := h i (by simp [Op.operands])
  unfold gLookup
  simp only [h0, h1]
theorem gMapUpdate_cg (t : TypeId) (m : Operand) (k : Operand) (x : Operand) {ev ev' : Operand → Value} (P : Program) (st : ASt) (h : ∀ z ∈ (Op.mapUpdate t m k x).operands.toList, ev z = ev' z) : gMapUpdate t m k x ev P st = gMapUpdate t m k x ev' P st := by
  have h0 := h m (by simp [Op.operands])
  have h1 := h k (by simp [Op.operands])
  have h2 := h x (by simp [Op.operands])
  unfold gMapUpdate
  simp only [h0, h1, h2]
theorem gTypeAssert_cg (x : Operand) (xt : TypeId) (t : TypeId) (ok : Bool) {ev ev' : Operand → Value} (P : Program) (st : ASt) (h : ∀ z ∈ (Op.typeAssert x xt t ok).operands.toList, ev z = ev' z) : gTypeAssert x xt t ok ev P st = gTypeAssert x xt t ok ev' P st := by
  have h0 := h x (by simp [Op.operands])
  unfold gTypeAssert
  simp only [h0]
theorem gExtract_cg (t : Operand) (i : Nat) {ev ev' : Operand → Value} (P : Program) (st : ASt) (h : ∀ z ∈ (Op.extract t i).operands.toList, ev z = ev' z) : gExtract t i ev P st = gExtract t i ev' P st := by
  have h0 := h t (by simp [Op.operands])
  unfold gExtract
  simp only [h0]
theorem gCall_cg (c : Call) {ev ev' : Operand → Value} (P : Program) (st : ASt) (h : ∀ z ∈ (Op.call c).operands.toList, ev z = ev' z) : gCall c ev P st = gCall c ev' P st := by
  obtain ⟨ce, args, ats⟩ := c
  have ha : args.toList.map ev = args.toList.map ev' := List.map_congr_left fun x hx => h x (by simp [Op.operands, Call.operands]; exact .inr (by simpa using hx))
  cases ce with
  | value g =>
    have h1 := h g (by simp [Op.operands, Call.operands])
    unfold gCall
    simp only [h1, ha]
  | invoke r n => rfl
  | builtin b => unfold gCall; simp only [ha]
theorem gDefer_cg (c : Call) {ev ev' : Operand → Value} (P : Program) (st : ASt) (h : ∀ z ∈ (Op.defer c).operands.toList, ev z = ev' z) : gDefer c ev P st = gDefer c ev' P st := by
  obtain ⟨ce, args, ats⟩ := c
  have ha : args.toList.map ev = args.toList.map ev' := List.map_congr_left fun x hx => h x (by simp [Op.operands, Call.operands]; exact .inr (by simpa using hx))
  cases ce with
  | value g =>
    have h1 := h g (by simp [Op.operands, Call.operands])
    unfold gDefer
    simp only [h1, ha]
  | invoke r n => rfl
  | builtin b => rfl
theorem gPanic_cg (x : Operand) {ev ev' : Operand → Value} (P : Program) (st : ASt) (h : ∀ z ∈ (Op.panic x).operands.toList, ev z = ev' z) : gPanic x ev P st = gPanic x ev' P st := by
  have h0 := h x (by simp [Op.operands])
  unfold gPanic
  simp only [h0]
theorem aOp_congr {P : Program} {f f' : AFr} {st : ASt} {o : Oper} (h : ∀ x ∈ o.op.operands.toList, f.ev x = f'.ev x) : aOp P f st o = aOp P f' st o := by
  rw [aOp_opO P f, aOp_opO P f']
  generalize o.op = op at h
  cases op
  case move => exact ((gMove_eq _ P f st).symm.trans (gMove_cg _ P st h)).trans (gMove_eq _ P f' st)
  case assign => exact ((gAssign_eq _ P f st).symm.trans (gAssign_cg _ P st h)).trans (gAssign_eq _ P f' st)
  case pick => exact ((gPick_eq _ _ _ P f st).symm.trans (gPick_cg _ _ _ P st h)).trans (gPick_eq _ _ _ P f' st)
  case alloc => exact ((gAlloc_eq _ P f st).symm.trans (gAlloc_cg _ P st h)).trans (gAlloc_eq _ P f' st)
  case box => exact ((gBox_eq _ _ P f st).symm.trans (gBox_cg _ _ P st h)).trans (gBox_eq _ _ P f' st)
  case build => exact ((gBuild_eq _ _ P f st).symm.trans (gBuild_cg _ _ P st h)).trans (gBuild_eq _ _ P f' st)
  case buildSlice => exact ((gBuildSlice_eq _ _ _ P f st).symm.trans (gBuildSlice_cg _ _ _ P st h)).trans (gBuildSlice_eq _ _ _ P f' st)
  case insert => exact ((gInsert_eq _ _ _ _ P f st).symm.trans (gInsert_cg _ _ _ _ P st h)).trans (gInsert_eq _ _ _ _ P f' st)
  case load => exact ((gLoad_eq _ _ P f st).symm.trans (gLoad_cg _ _ P st h)).trans (gLoad_eq _ _ P f' st)
  case store => exact ((gStore_eq _ _ _ P f st).symm.trans (gStore_cg _ _ _ P st h)).trans (gStore_eq _ _ _ P f' st)
  case nilCheck => exact ((gNilCheck_eq _ P f st).symm.trans (gNilCheck_cg _ P st h)).trans (gNilCheck_eq _ P f' st)
  case binOp => exact ((gBinOp_eq _ _ _ _ _ P f st).symm.trans (gBinOp_cg _ _ _ _ _ P st h)).trans (gBinOp_eq _ _ _ _ _ P f' st)
  case unOp => exact ((gUnOp_eq _ _ _ P f st).symm.trans (gUnOp_cg _ _ _ P st h)).trans (gUnOp_eq _ _ _ P f' st)
  case convert => exact ((gConvert_eq _ _ _ P f st).symm.trans (gConvert_cg _ _ _ P st h)).trans (gConvert_eq _ _ _ P f' st)
  case makeInterface => exact ((gMakeInterface_eq _ _ P f st).symm.trans (gMakeInterface_cg _ _ P st h)).trans (gMakeInterface_eq _ _ P f' st)
  case makeFunc => exact ((gMakeFunc_eq _ _ _ P f st).symm.trans (gMakeFunc_cg _ _ _ P st h)).trans (gMakeFunc_eq _ _ _ P f' st)
  case makeMap => exact ((gMakeMap_eq _ _ P f st).symm.trans (gMakeMap_cg _ _ P st h)).trans (gMakeMap_eq _ _ P f' st)
  case makeSlice => exact ((gMakeSlice_eq _ _ _ P f st).symm.trans (gMakeSlice_cg _ _ _ P st h)).trans (gMakeSlice_eq _ _ _ P f' st)
  case slice => exact ((gSlice_eq _ _ _ _ _ P f st).symm.trans (gSlice_cg _ _ _ _ _ P st h)).trans (gSlice_eq _ _ _ _ _ P f' st)
  case fieldAddr => exact ((gFieldAddr_eq _ _ _ P f st).symm.trans (gFieldAddr_cg _ _ _ P st h)).trans (gFieldAddr_eq _ _ _ P f' st)
  case field => exact ((gField_eq _ _ _ P f st).symm.trans (gField_cg _ _ _ P st h)).trans (gField_eq _ _ _ P f' st)
  case indexAddr => exact ((gIndexAddr_eq _ _ _ P f st).symm.trans (gIndexAddr_cg _ _ _ P st h)).trans (gIndexAddr_eq _ _ _ P f' st)
  case index => exact ((gIndex_eq _ _ _ P f st).symm.trans (gIndex_cg _ _ _ P st h)).trans (gIndex_eq _ _ _ P f' st)
  case lookup => exact ((gLookup_eq _ _ _ _ P f st).symm.trans (gLookup_cg _ _ _ _ P st h)).trans (gLookup_eq _ _ _ _ P f' st)
  case mapUpdate => exact ((gMapUpdate_eq _ _ _ _ P f st).symm.trans (gMapUpdate_cg _ _ _ _ P st h)).trans (gMapUpdate_eq _ _ _ _ P f' st)
  case typeAssert => exact ((gTypeAssert_eq _ _ _ _ P f st).symm.trans (gTypeAssert_cg _ _ _ _ P st h)).trans (gTypeAssert_eq _ _ _ _ P f' st)
  case extract => exact ((gExtract_eq _ _ P f st).symm.trans (gExtract_cg _ _ P st h)).trans (gExtract_eq _ _ P f' st)
  case call => exact ((gCall_eq _ P f st).symm.trans (gCall_cg _ P st h)).trans (gCall_eq _ P f' st)
  case defer => exact ((gDefer_eq _ P f st).symm.trans (gDefer_cg _ P st h)).trans (gDefer_eq _ P f' st)
  case panic => exact ((gPanic_eq _ P f st).symm.trans (gPanic_cg _ P st h)).trans (gPanic_eq _ P f' st)
  all_goals rfl

/-! ### code -/
abbrev Re := Rs (AX × AFr × ASt)
/-- on with what is behind, where nothing else is to be done -/
def seqF (r : Re) (k : AFr → ASt → Re) : Re := @Rs.rec (AX × AFr × ASt) (fun _ => (AFr → ASt → Re) → Re) (fun t k => @AX.rec (fun _ => (AX × AFr × ASt) → (AFr → ASt → Re) → Re) (fun t k => k t.2.1 t.2.2) (fun _ t _ => .ok t) (fun t _ => .ok t) (fun _ t _ => .ok t) t.1 t k) (fun s p _ => .er s p) r k
theorem seqF_eq (r : Re) (k : AFr → ASt → Re) : seqF r k = (match r with | .ok (.normal, f', st') => k f' st' | r => r) := by
  cases r with
  | er s p => rfl
  | ok t =>
    obtain ⟨x, f, st⟩ := t
    cases x <;> rfl
def gdV (v : Value) (want : Bool) : Option Bool := @Value.rec (fun _ => Option Bool) (fun _ => PUnit.{1}) (fun _ => PUnit.{1}) (fun b => some (@Bool.rec (fun _ => Bool) (notF want) want b)) (fun _ _ => none) (fun _ _ => none) (fun _ _ _ => none) (fun _ => none) (fun _ => none) (fun _ _ _ => none) (fun _ => none) (fun _ => none) (fun _ _ _ _ _ => none) (none) (fun _ _ _ => none) (none) (fun _ _ => none) (fun vs _ => some false) (fun _ _ => PUnit.unit) PUnit.unit (fun _ _ _ _ => PUnit.unit) v
def wantG (all : List Oper) (f : AFr) (p : Nat × Bool) : Option Bool := @Option.rec Oper (fun _ => Option Bool) (some false) (fun oj => @Option.rec Nat (fun _ => Option Bool) (some false) (fun d => @Option.rec Value (fun _ => Option Bool) none (fun v => gdV v p.2) (vGet f.tmps d)) oj.dst) all[p.1]?
def wantF (all : List Oper) (f : AFr) (o : Oper) : Option Bool := @Option.rec (Nat × Bool) (fun _ => List Oper → AFr → Option Bool) (fun _ _ => some true) (fun p all f => wantG all f p) o.guard all f
theorem wantF_eq (all : List Oper) (f : AFr) (o : Oper) : wantF all f o = wantedA all f o := by
  unfold wantF
  cases h : o.guard with
  | none => unfold wantedA; rw [h]
  | some p =>
    obtain ⟨j, want⟩ := p
    unfold wantedA
    rw [h]
    simp only
    show wantG all f (j, want) = _
    unfold wantG
    simp only
    cases all[j]? with
    | none => rfl
    | some oj =>
      simp only
      cases oj.dst with
      | none => rfl
      | some d =>
        simp only [vGet_eq]
        cases f.tmps.get d with
        | none => rfl
        | some v =>
          cases v with
          | bool b =>
            show some (@Bool.rec (fun _ => Bool) (notF want) want b) = some (b == want)
            cases b <;> cases want <;> rfl
          | _ => rfl
/-- behind a call -/
def retF (r : Rs (AE × ASt)) (f : AFr) (d : Option Nat) (k : AFr → ASt → Re) : Re := @Rs.rec (AE × ASt) (fun _ => AFr → Option Nat → (AFr → ASt → Re) → Re) (fun t f d k => @AE.rec (fun _ => ASt → AFr → Option Nat → (AFr → ASt → Re) → Re) (fun v st f d k => k (putF f d v) st) (fun v st f _ _ => .ok (.panic v, f, st)) t.1 t.2 f d k) (fun s p _ _ _ => .er s p) r f d k
/-- an operation, and what is behind it -/
def opF (P : Program) (self : Self) (f : AFr) (st : ASt) (o : Oper) (k : AFr → ASt → Re) : Re := @Rs.rec AN (fun _ => Self → AFr → ASt → Oper → (AFr → ASt → Re) → Re)
  (fun an self f st o k => @AN.rec (fun _ => Self → AFr → ASt → Oper → (AFr → ASt → Re) → Re) (fun v st' _ f _ o k => k (putF f o.dst v) st') (fun g args self f st o k => retF (self g args st) f o.dst k) (fun d _ f st o k => k (putF (AFr.mk f.n f.tmps (d :: f.defers)) o.dst undef) st) (fun v _ f st _ _ => .ok (.panic v, f, st)) an self f st o k)
  (fun s _ _ _ _ o _ => .er s o.pos) (aOpF P f st o.op) self f st o k
theorem opF_eq (P : Program) (self : Self) (f : AFr) (st : ASt) (o : Oper) (k : AFr → ASt → Re) : opF P self f st o k = (match evOp P self f st o with | .ok (.normal, f', st') => k f' st' | r => r) := by
  unfold opF evOp
  rw [aOpF_eq]
  cases aOp P f st o with
  | er s p => rfl
  | ok an =>
    cases an with
    | val v st' => simp only [putF_eq]
    | enter g args =>
      simp only [retF]
      cases self g args st with
      | er s p => rfl
      | ok t =>
        obtain ⟨e, st2⟩ := t
        cases e with
        | returned v => simp only [putF_eq]
        | panicked v => rfl
    | defer d => simp only [putF_eq]
    | panic v => rfl
def stepG (p : Nat × Bool) (P : Program) (self : Self) (all : List Oper) (o : Oper) (k : AFr → ASt → Re) (f : AFr) (st : ASt) : Re := @Option.rec Bool (fun _ => Re) (.er "guard" o.pos) (fun b => @Bool.rec (fun _ => Re) (k (putF f o.dst undef) st) (opF P self f st o k) b) (wantG all f p)
def stepF (P : Program) (self : Self) (all : List Oper) (o : Oper) (k : AFr → ASt → Re) (f : AFr) (st : ASt) : Re := @Option.rec (Nat × Bool) (fun _ => Program → Self → List Oper → Oper → (AFr → ASt → Re) → AFr → ASt → Re) (fun P self _ o k f st => opF P self f st o k) stepG o.guard P self all o k f st
theorem stepF_eq (P : Program) (self : Self) (all : List Oper) (o : Oper) (k : AFr → ASt → Re) (f : AFr) (st : ASt) : stepF P self all o k f st = @Option.rec Bool (fun _ => Re) (.er "guard" o.pos) (fun b => @Bool.rec (fun _ => Re) (k (putF f o.dst undef) st) (opF P self f st o k) b) (wantF all f o) := by
  unfold stepF wantF
  cases o.guard <;> rfl
def opsF (P : Program) (self : Self) (all : List Oper) (l : List Oper) : AFr → ASt → Re := @List.rec Oper (fun _ => AFr → ASt → Re) (fun f st => .ok (.normal, f, st)) (fun o _ ih f st => @Option.rec (Nat × Bool) (fun _ => Re) (opF P self f st o ih) (fun p => stepG p P self all o ih f st) o.guard) l
theorem opsF_eq (P : Program) (self : Self) (all : List Oper) (l : List Oper) (f : AFr) (st : ASt) : opsF P self all l f st = evOps P self all l f st := by
  induction l generalizing f st with
  | nil => rfl
  | cons o l ih =>
    have h : opsF P self all (o :: l) f st = stepF P self all o (opsF P self all l) f st := by
      show @Option.rec (Nat × Bool) (fun _ => Re) (opF P self f st o (opsF P self all l)) (fun p => stepG p P self all o (opsF P self all l) f st) o.guard = _
      unfold stepF
      cases o.guard <;> rfl
    have hk : opsF P self all l = evOps P self all l := by funext f st; exact ih f st
    rw [h, hk]
    rw [stepF_eq]
    conv => rhs; unfold evOps
    rw [wantF_eq]
    cases wantedA all f o with
    | none => rfl
    | some b =>
      cases b with
      | false => simp only [putF_eq]
      | true => exact opF_eq P self f st o _
/-! ### a region that draws its order -/
def hasF (m j : Nat) : Bool := Nat.beq (Nat.mod (Nat.shiftRight m j) (nat_lit 2)) (nat_lit 1)
theorem hasF_eq (m j : Nat) : hasF m j = hasBit m j := rfl
def pureO (op : Op) : Bool := @Op.rec (fun _ => Bool) (fun _ => true) (fun _ => true) (fun _ _ _ => true) (fun _ => false) (fun _ _ => false) (fun _ _ => true) (fun _ _ _ => false) (fun _ _ _ _ => false) (fun _ _ => false) (fun _ _ _ => false) (fun _ => false) (fun _ => false) (fun _ => true) (fun _ _ _ _ _ => true) (fun _ _ _ => true) (fun _ _ _ => false) (fun _ _ => false) (fun _ _ => true) (fun _ _ _ => true) (fun _ _ => false) (fun _ _ => false) (fun _ _ _ => false) (fun _ _ _ _ _ => false) (fun _ _ _ => true) (fun _ _ _ => true) (fun _ _ _ => true) (fun _ _ _ => true) (fun _ _ _ _ => false) (fun _ _ _ _ => false) (fun _ _ _ => false) (fun _ _ _ _ => false) (fun _ _ => false) (fun _ _ => false) (fun _ => false) (fun _ _ _ _ => true) (fun _ _ => true) (fun _ => false) (fun _ => false) (fun _ => false) (fun _ => false) (fun _ _ => false) (fun _ _ _ => false) (fun _ _ => false) op
theorem pureO_eq (op : Op) : pureO op = pureOp op := by cases op <;> rfl
def pfpF (f : AFr) (op : Op) : List Nat := @Op.rec (fun _ => AFr → List Nat) (fun _ _ => []) (fun _ _ => []) (fun _ _ _ _ => []) (fun _ _ => []) (fun _ _ _ => []) (fun _ _ _ => []) (fun _ _ _ _ => []) (fun _ _ _ _ _ => []) (fun _ _ _ => []) (fun _ _ _ _ => []) (fun _ _ => []) (fun _ _ => []) (fun _ _ => []) (fun _ _ _ _ _ _ => []) (fun _ _ _ _ => []) (fun _ _ _ _ => []) (fun _ _ _ => []) (fun _ _ _ => []) (fun _ _ _ _ => []) (fun _ _ _ => []) (fun _ _ _ => []) (fun _ _ _ _ => []) (fun _ _ _ _ _ _ => []) (fun _ _ _ _ => []) (fun _ _ _ _ => []) (fun _ x _ f => pureFp f (.indexAddr 0 x x)) (fun _ _ _ _ => []) (fun _ _ _ _ _ => []) (fun _ _ _ _ _ => []) (fun _ _ _ _ => []) (fun _ _ _ _ _ => []) (fun _ _ _ => []) (fun _ _ _ => []) (fun _ _ => []) (fun _ _ _ _ _ => []) (fun _ _ _ => []) (fun _ _ => []) (fun _ _ => []) (fun _ _ => []) (fun _ _ => []) (fun _ _ _ => []) (fun _ _ _ _ => []) (fun _ _ _ => []) op f
theorem pfpF_eq (f : AFr) (op : Op) : pfpF f op = pureFp f op := by cases op <;> rfl
def fpF (f : AFr) (h : Tr AObj) (op : Op) : Option (List Nat) := @Op.rec (fun _ => AFr → Tr AObj → Option (List Nat)) (fun a0 f h => fpOf f h (.move a0)) (fun a0 f h => fpOf f h (.assign a0)) (fun a0 a1 a2 f h => fpOf f h (.pick a0 a1 a2)) (fun a0 f h => fpOf f h (.alloc a0)) (fun a0 a1 f h => fpOf f h (.box a0 a1)) (fun a0 a1 f h => fpOf f h (.build a0 a1)) (fun a0 a1 a2 f h => fpOf f h (.buildSlice a0 a1 a2)) (fun a0 a1 a2 a3 f h => fpOf f h (.insert a0 a1 a2 a3)) (fun _ a f _ => addrOf (evF f a)) (fun a0 a1 a2 f h => fpOf f h (.store a0 a1 a2)) (fun a0 f h => fpOf f h (.ready a0)) (fun a0 f h => fpOf f h (.waits a0)) (fun a0 f h => fpOf f h (.nilCheck a0)) (fun a0 a1 a2 a3 a4 f h => fpOf f h (.binOp a0 a1 a2 a3 a4)) (fun a0 a1 a2 f h => fpOf f h (.unOp a0 a1 a2)) (fun a0 a1 a2 f h => fpOf f h (.convert a0 a1 a2)) (fun a0 a1 f h => fpOf f h (.sliceToArrayPointer a0 a1)) (fun a0 a1 f h => fpOf f h (.makeInterface a0 a1)) (fun a0 a1 a2 f h => fpOf f h (.makeFunc a0 a1 a2)) (fun a0 a1 f h => fpOf f h (.makeMap a0 a1)) (fun a0 a1 f h => fpOf f h (.makeChan a0 a1)) (fun a0 a1 a2 f h => fpOf f h (.makeSlice a0 a1 a2)) (fun a0 a1 a2 a3 a4 f h => fpOf f h (.slice a0 a1 a2 a3 a4)) (fun a0 a1 a2 f h => fpOf f h (.fieldAddr a0 a1 a2)) (fun a0 a1 a2 f h => fpOf f h (.field a0 a1 a2)) (fun a0 a1 a2 f h => fpOf f h (.indexAddr a0 a1 a2)) (fun a0 a1 a2 f h => fpOf f h (.index a0 a1 a2)) (fun a0 a1 a2 a3 f h => fpOf f h (.lookup a0 a1 a2 a3)) (fun a0 a1 a2 a3 f h => fpOf f h (.mapUpdate a0 a1 a2 a3)) (fun a0 a1 a2 f h => fpOf f h (.mapEntry a0 a1 a2)) (fun a0 a1 a2 a3 f h => fpOf f h (.entryStore a0 a1 a2 a3)) (fun a0 a1 f h => fpOf f h (.range a0 a1)) (fun a0 a1 f h => fpOf f h (.next a0 a1)) (fun a0 f h => fpOf f h (.entry a0)) (fun a0 a1 a2 a3 f h => fpOf f h (.typeAssert a0 a1 a2 a3)) (fun a0 a1 f h => fpOf f h (.extract a0 a1)) (fun c f h => fpOf f h (.call c)) (fun a0 f h => fpOf f h (.go a0)) (fun a0 f h => fpOf f h (.defer a0)) (fun a0 f h => fpOf f h (.panic a0)) (fun a0 a1 f h => fpOf f h (.send a0 a1)) (fun a0 a1 a2 f h => fpOf f h (.recv a0 a1 a2)) (fun a0 a1 f h => fpOf f h (.select a0 a1)) op f h
theorem fpF_eq (f : AFr) (h : Tr AObj) (op : Op) : fpF f h op = fpOf f h op := by
  cases op <;> first | rfl | (show addrOf (evF f _) = _; rw [evF_eq]; rfl)
def apF (p q : Nat) (a b : Option (List Nat)) : Bool := @Option.rec (List Nat) (fun _ => Nat → Nat → Option (List Nat) → Bool) (fun _ _ _ => false) (fun a p q b => @Option.rec (List Nat) (fun _ => Nat → Nat → List Nat → Bool) (fun _ _ _ => false) (fun b p q a => @List.rec Nat (fun _ => Nat → Nat → List Nat → Bool) (fun _ _ _ => true) (fun x _ ih p q b => @Bool.rec (fun _ => Bool) false (ih p q b) (@List.rec Nat (fun _ => Nat → Nat → Nat → Bool) (fun _ _ _ => true) (fun y _ ih x p q => @Bool.rec (fun _ => Bool) false (ih x p q) (@Bool.rec (fun _ => Bool) true (@Bool.rec (fun _ => Bool) false (Nat.ble (Nat.succ x) q) (Nat.ble (Nat.succ x) p)) (Nat.beq x y))) b x p q)) a p q b) b p q a) a p q b
theorem apF_eq (p q : Nat) (a b : Option (List Nat)) : apF p q a b = apartL p q a b := by
  cases a with
  | none => rfl
  | some a =>
    cases b with
    | none => rfl
    | some b =>
      show _ = a.all fun x => b.all fun y => !(Nat.beq x y) || (Nat.blt x p && Nat.blt x q)
      induction a with
      | nil => rfl
      | cons x a ih =>
        rw [List.all_cons, ← ih]
        have hx : ∀ b : List Nat, (@List.rec Nat (fun _ => Nat → Nat → Nat → Bool) (fun _ _ _ => true) (fun y _ ih x p q => @Bool.rec (fun _ => Bool) false (ih x p q) (@Bool.rec (fun _ => Bool) true (@Bool.rec (fun _ => Bool) false (Nat.ble (Nat.succ x) q) (Nat.ble (Nat.succ x) p)) (Nat.beq x y))) b x p q) = b.all fun y => !(Nat.beq x y) || (Nat.blt x p && Nat.blt x q) := by
          intro b
          induction b with
          | nil => rfl
          | cons y b ihb =>
            rw [List.all_cons, ← ihb]
            show @Bool.rec (fun _ => Bool) false _ (@Bool.rec (fun _ => Bool) true (@Bool.rec (fun _ => Bool) false (Nat.blt x q) (Nat.blt x p)) (Nat.beq x y)) = _
            cases Nat.beq x y <;> cases Nat.blt x p <;> cases Nat.blt x q <;> rfl
        rw [← hx b]
        show @Bool.rec (fun _ => Bool) false _ _ = _
        cases @List.rec Nat (fun _ => Nat → Nat → Nat → Bool) (fun _ _ _ => true) (fun y _ ih x p q => @Bool.rec (fun _ => Bool) false (ih x p q) (@Bool.rec (fun _ => Bool) true (@Bool.rec (fun _ => Bool) false (Nat.ble (Nat.succ x) q) (Nat.ble (Nat.succ x) p)) (Nat.beq x y))) b x p q <;> rfl
/-- of one that came up before -/
def free1 (m : Nat) (r : Rec) (wr : Bool) (lo : Nat) (fp : Option (List Nat)) (h : Tr AObj) : Bool := @Bool.rec (fun _ => Bool) (@Bool.rec (fun _ => Bool) (@Bool.rec (fun _ => Bool) true (@Bool.rec (fun _ => Bool) (keptL r.ld h) true (apF r.lo lo r.fp fp)) wr) (@Bool.rec (fun _ => Bool) (keptL r.ld h) true (apF r.lo lo r.fp fp)) r.wr) true (hasF m r.j)
theorem free1_eq (m : Nat) (r : Rec) (wr : Bool) (lo : Nat) (fp : Option (List Nat)) (h : Tr AObj) : free1 m r wr lo fp h = (hasBit m r.j || !(r.wr || wr) || apartL r.lo lo r.fp fp || keptL r.ld h) := by
  unfold free1
  rw [hasF_eq, apF_eq]
  cases hasBit m r.j <;> cases r.wr <;> cases wr <;> cases apartL r.lo lo r.fp fp <;> rfl
def freeF (m : Nat) (recs : List Rec) (wr : Bool) (lo : Nat) (fp : Option (List Nat)) (h : Tr AObj) : Bool := @List.rec Rec (fun _ => Nat → Bool → Nat → Option (List Nat) → Tr AObj → Bool) (fun _ _ _ _ _ => true) (fun r _ ih m wr lo fp h => @Bool.rec (fun _ => Bool) false (ih m wr lo fp h) (free1 m r wr lo fp h)) recs m wr lo fp h
theorem freeF_eq (m : Nat) (recs : List Rec) (wr : Bool) (lo : Nat) (fp : Option (List Nat)) (h : Tr AObj) : freeF m recs wr lo fp h = freeOf m recs wr lo fp h := by
  induction recs with
  | nil => rfl
  | cons r l ih =>
    have h1 : freeF m (r :: l) wr lo fp h = @Bool.rec (fun _ => Bool) false (freeF m l wr lo fp h) (free1 m r wr lo fp h) := rfl
    rw [h1, ih, free1_eq]
    show _ = List.all (r :: l) _
    rw [List.all_cons]
    unfold freeOf
    cases (hasBit m r.j || !(r.wr || wr) || apartL r.lo lo r.fp fp || keptL r.ld h) <;> rfl

def newF (m : Nat) (b : Nat) (recs : List Rec) : Bool := @List.rec Rec (fun _ => Bool) true (fun r _ ih => @Bool.rec (fun _ => Bool) (@Bool.rec (fun _ => Bool) ih (@Bool.rec (fun _ => Bool) ih false (Nat.ble (Nat.succ b) r.e)) (Nat.ble r.s b)) ih (hasF m r.j)) recs
theorem newF_eq (m b : Nat) (recs : List Rec) : newF m b recs = recs.all fun r => hasBit m r.j || !(Nat.ble r.s b && Nat.blt b r.e) := by
  induction recs with
  | nil => rfl
  | cons r l ih =>
    have h1 : newF m b (r :: l) = @Bool.rec (fun _ => Bool) (@Bool.rec (fun _ => Bool) (newF m b l) (@Bool.rec (fun _ => Bool) (newF m b l) false (Nat.blt b r.e)) (Nat.ble r.s b)) (newF m b l) (hasF m r.j) := rfl
    rw [h1, ih, hasF_eq, List.all_cons]
    cases hasBit m r.j <;> cases Nat.ble r.s b <;> cases Nat.blt b r.e <;> rfl
def cellF (o : AObj) : Option (List Value) := @AObj.rec (fun _ => Option (List Value)) (fun cs _ _ => some cs) (fun cs _ _ => some cs) (fun _ _ _ _ _ => none) (fun _ _ => none) (fun _ _ _ => none) (fun _ _ => none) o
/-- what was read, as a value -/
def shO (P : Program) (t : TypeId) (cs : List Value) : Option Value := @Rs.rec Bool (fun _ => Option Value) (fun b => @Bool.rec (fun _ => Option Value) (@List.rec Value (fun _ => Option Value) none (fun v l _ => @List.rec Value (fun _ => Option Value) (some v) (fun _ _ _ => none) l) cs) (some (.agg cs.toArray)) b) (fun _ _ => none) (aggL P t)
theorem shO_eq (P : Program) (t : TypeId) (cs : List Value) : shO P t cs = (match shutL P t cs with | .ok v => some v | .er _ _ => none) := by
  unfold shO shutL
  cases aggL P t with
  | er s p => rfl
  | ok b =>
    cases b with
    | true => rfl
    | false =>
      cases cs with
      | nil => rfl
      | cons v l => cases l <;> rfl
def qlA (P : Program) (t : TypeId) (h : Tr AObj) (m : Nat) (recs : List Rec) (a : Addr) (cs : List Value) : Option (Value × Addr × Nat × List Value) := @Rs.rec Nat (fun _ => Option (Value × Addr × Nat × List Value)) (fun n => @Option.rec (List Value) (fun _ => Option (Value × Addr × Nat × List Value)) none (fun l => @Option.rec Value (fun _ => Option (Value × Addr × Nat × List Value)) none (fun v => @Bool.rec (fun _ => Option (Value × Addr × Nat × List Value)) none (some (v, a, n, l)) (newF m a.block recs)) (shO P t l)) (takeW n (dropF a.off cs))) (fun _ _ => none) (sizeL P t)
def qlL (t : TypeId) (x : Operand) (P : Program) (f : AFr) (h : Tr AObj) (m : Nat) (recs : List Rec) : Option (Value × Addr × Nat × List Value) := @Option.rec Addr (fun _ => Option (Value × Addr × Nat × List Value)) none (fun a => @Option.rec Nat (fun _ => Option (Value × Addr × Nat × List Value)) (@Option.rec AObj (fun _ => Option (Value × Addr × Nat × List Value)) none (fun o => @Option.rec (List Value) (fun _ => Option (Value × Addr × Nat × List Value)) none (qlA P t h m recs a) (cellF o)) (hGet h a.block)) (fun _ => none) a.spot) (ptrOf (evF f x))
theorem qlL_eq (t : TypeId) (x : Operand) (P : Program) (f : AFr) (h : Tr AObj) (m : Nat) (recs : List Rec) : qlL t x P f h m recs = qload P f h m recs (.load t x) := by
  unfold qlL qload
  simp only
  rw [evF_eq]
  cases hp : ptrOf (f.ev x) with
  | none =>
    have := ptrOf_none hp
    split
    · rename_i b off hb; exact absurd hb (this _)
    · rfl
  | some a =>
    rw [ptrOf_some hp]
    obtain ⟨b, off, sp⟩ := a
    cases sp with
    | some i => rfl
    | none =>
      simp only [hGet_eq]
      cases ho : h.get b with
      | none => rfl
      | some o =>
        have key : ∀ cs : List Value, qlA P t h m recs ⟨b, off, none⟩ cs = (match sizeL P t with
            | .ok n => match takeL n (dropL off cs) with
              | some l => match shutL P t l with
                | .ok v => cond (recs.all fun r => hasBit m r.j || !(Nat.ble r.s b && Nat.blt b r.e)) (some (v, ⟨b, off, none⟩, n, l)) none
                | .er _ _ => none
              | none => none
            | .er _ _ => none) := by
          intro cs
          unfold qlA
          cases sizeL P t with
          | er s p => rfl
          | ok n =>
            simp only [takeW_eq, dropF_eq]
            cases takeL n (dropL off cs) with
            | none => rfl
            | some l =>
              simp only [shO_eq, newF_eq]
              cases shutL P t l with
              | er s p => rfl
              | ok v =>
                simp only
                cases (recs.all fun r => hasBit m r.j || !(Nat.ble r.s b && Nat.blt b r.e)) <;> rfl
        cases o with
        | cells cs ex es => exact key cs
        | old cs ex es => exact key cs
        | row => rfl
        | map => rfl
        | omap => rfl
        | iter => rfl
def qlF (P : Program) (f : AFr) (h : Tr AObj) (m : Nat) (recs : List Rec) (op : Op) : Option (Value × Addr × Nat × List Value) := @Op.rec (fun _ => Program → AFr → Tr AObj → Nat → List Rec → Option (Value × Addr × Nat × List Value)) (fun _ _ _ _ _ _ => none) (fun _ _ _ _ _ _ => none) (fun _ _ _ _ _ _ _ _ => none) (fun _ _ _ _ _ _ => none) (fun _ _ _ _ _ _ _ => none) (fun _ _ _ _ _ _ _ => none) (fun _ _ _ _ _ _ _ _ => none) (fun _ _ _ _ _ _ _ _ _ => none) qlL (fun _ _ _ _ _ _ _ _ => none) (fun _ _ _ _ _ _ => none) (fun _ _ _ _ _ _ => none) (fun _ _ _ _ _ _ => none) (fun _ _ _ _ _ _ _ _ _ _ => none) (fun _ _ _ _ _ _ _ _ => none) (fun _ _ _ _ _ _ _ _ => none) (fun _ _ _ _ _ _ _ => none) (fun _ _ _ _ _ _ _ => none) (fun _ _ _ _ _ _ _ _ => none) (fun _ _ _ _ _ _ _ => none) (fun _ _ _ _ _ _ _ => none) (fun _ _ _ _ _ _ _ _ => none) (fun _ _ _ _ _ _ _ _ _ _ => none) (fun _ _ _ _ _ _ _ _ => none) (fun _ _ _ _ _ _ _ _ => none) (fun _ _ _ _ _ _ _ _ => none) (fun _ _ _ _ _ _ _ _ => none) (fun _ _ _ _ _ _ _ _ _ => none) (fun _ _ _ _ _ _ _ _ _ => none) (fun _ _ _ _ _ _ _ _ => none) (fun _ _ _ _ _ _ _ _ _ => none) (fun _ _ _ _ _ _ _ => none) (fun _ _ _ _ _ _ _ => none) (fun _ _ _ _ _ _ => none) (fun _ _ _ _ _ _ _ _ _ => none) (fun _ _ _ _ _ _ _ => none) (fun _ _ _ _ _ _ => none) (fun _ _ _ _ _ _ => none) (fun _ _ _ _ _ _ => none) (fun _ _ _ _ _ _ => none) (fun _ _ _ _ _ _ _ => none) (fun _ _ _ _ _ _ _ _ => none) (fun _ _ _ _ _ _ _ => none) op P f h m recs
theorem qlF_eq (P : Program) (f : AFr) (h : Tr AObj) (m : Nat) (recs : List Rec) (op : Op) : qlF P f h m recs op = qload P f h m recs op := by
  cases op <;> first | rfl | exact qlL_eq _ _ _ _ _ _ _

/-! memory of a step -/
def boF (l : List Rec) (m : Nat) : Bool := @List.rec Rec (fun _ => Bool) true (fun r _ ih => @Bool.rec (fun _ => Bool) false ih (hasF m r.j)) l
theorem boF_eq (l : List Rec) (m : Nat) : boF l m = l.all fun r => hasBit m r.j := by
  induction l with
  | nil => rfl
  | cons r l ih =>
    have h : boF (r :: l) m = @Bool.rec (fun _ => Bool) false (boF l m) (hasBit m r.j) := rfl
    rw [h, ih, List.all_cons]
    cases hasBit m r.j <;> rfl
def eraF (n : Nat) : Nat → Tr AObj → Tr AObj := @Nat.rec (fun _ => Nat → Tr AObj → Tr AObj) (fun _ h => h) (fun _ ih s h => ih (Nat.succ s) (hSet h s none)) n
theorem eraF_eq (n s : Nat) (h : Tr AObj) : eraF n s h = eraseR n s h := by
  induction n generalizing s h with
  | zero => rfl
  | succ n ih =>
    have e : eraF (n + 1) s h = eraF n (s + 1) (hSet h s none) := rfl
    rw [e, ih, hSet_eq]; rfl
def cpR (n : Nat) : Nat → Tr AObj → Tr AObj → Tr AObj := @Nat.rec (fun _ => Nat → Tr AObj → Tr AObj → Tr AObj) (fun _ _ h => h) (fun _ ih s g h => ih (Nat.succ s) g (hSet h s (hGet g s))) n
theorem cpR_eq (n s : Nat) (g h : Tr AObj) : cpR n s g h = copyR n s g h := by
  induction n generalizing s h with
  | zero => rfl
  | succ n ih =>
    have e : cpR (n + 1) s g h = cpR n (s + 1) g (hSet h s (hGet g s)) := rfl
    rw [e, ih, hSet_eq, hGet_eq]; rfl
def cpL (l : List Nat) : Tr AObj → Tr AObj → Tr AObj := @List.rec Nat (fun _ => Tr AObj → Tr AObj → Tr AObj) (fun _ h => h) (fun a _ ih g h => ih g (hSet h a (hGet g a))) l
theorem cpL_eq (l : List Nat) (g h : Tr AObj) : cpL l g h = copyL l g h := by
  induction l generalizing h with
  | nil => rfl
  | cons a l ih =>
    have e : cpL (a :: l) g h = cpL l g (hSet h a (hGet g a)) := rfl
    rw [e, ih, hSet_eq, hGet_eq]; rfl
def cpD (l : List Nat) : Tr AObj → Tr AObj → Tr AObj → Tr AObj := @List.rec Nat (fun _ => Tr AObj → Tr AObj → Tr AObj → Tr AObj) (fun _ _ h => h) (fun a _ ih g h' h => @Option.rec AObj (fun _ => Tr AObj) (ih g h' h) (fun _ => ih g h' (hSet h a (hGet h' a))) (hGet g a)) l
theorem cpD_eq (l : List Nat) (g h' h : Tr AObj) : cpD l g h' h = copyD l g h' h := by
  induction l generalizing h with
  | nil => rfl
  | cons a l ih =>
    have e : cpD (a :: l) g h' h = @Option.rec AObj (fun _ => Tr AObj) (cpD l g h' h) (fun _ => cpD l g h' (hSet h a (hGet h' a))) (hGet g a) := rfl
    rw [e, ih, ih, hSet_eq, hGet_eq, hGet_eq]
    conv => rhs; unfold copyD
    cases g.get a <;> rfl
def rdU (m : Nat) (l : List Rec) : Tr AObj → Tr AObj := @List.rec Rec (fun _ => Tr AObj → Tr AObj) (fun h => h) (fun r _ ih h => ih (@Bool.rec (fun _ => Tr AObj) (eraF (Nat.sub r.e r.s) r.s h) h (hasF m r.j))) l
theorem rdU_eq (m : Nat) (l : List Rec) (h : Tr AObj) : rdU m l h = redu m l h := by
  induction l generalizing h with
  | nil => rfl
  | cons r l ih =>
    have e : rdU m (r :: l) h = rdU m l (@Bool.rec (fun _ => Tr AObj) (eraF (r.e - r.s) r.s h) h (hasBit m r.j)) := rfl
    rw [e, ih, eraF_eq]
    conv => rhs; unfold redu
    cases hasBit m r.j <;> rfl
def footF (m : Nat) (recs : List Rec) (h : Tr AObj) (fp : Option (List Nat)) : Tr AObj := @Option.rec (List Nat) (fun _ => Nat → List Rec → Tr AObj → Tr AObj) (fun m recs h => rdU m recs h) (fun l m recs h => cpL l (rdU m recs h) .leaf) fp m recs h
theorem footF_eq (m : Nat) (recs : List Rec) (h : Tr AObj) (fp : Option (List Nat)) : footF m recs h fp = footOf m recs h fp := by
  cases fp with
  | none => exact rdU_eq m recs h
  | some l =>
    show cpL l (rdU m recs h) .leaf = _
    rw [cpL_eq, rdU_eq]; rfl
def mrgF (m : Nat) (recs : List Rec) (h g h' : Tr AObj) (s e : Nat) (fp : Option (List Nat)) : Tr AObj := @Option.rec (List Nat) (fun _ => Tr AObj) (@Bool.rec (fun _ => Tr AObj) (cpR (Nat.sub e s) s h' h) h' (boF recs m)) (fun l => cpR (Nat.sub e s) s h' (cpD l g h' h)) fp
theorem mrgF_eq (m : Nat) (recs : List Rec) (h g h' : Tr AObj) (s e : Nat) (fp : Option (List Nat)) : mrgF m recs h g h' s e fp = mergeOf m recs h g h' s e fp := by
  cases fp with
  | none =>
    show @Bool.rec (fun _ => Tr AObj) (cpR (e - s) s h' h) h' (boF recs m) = _
    rw [boF_eq, cpR_eq]
    unfold mergeOf
    simp only
    cases recs.all fun r => hasBit m r.j <;> rfl
  | some l =>
    show cpR (e - s) s h' (cpD l g h' h) = _
    rw [cpR_eq, cpD_eq]; rfl
def rchF (h : Tr AObj) (n : Nat) : List Nat → Tr Unit → List Nat → List Nat := @Nat.rec (fun _ => List Nat → Tr Unit → List Nat → List Nat) (fun _ _ acc => acc) (fun _ ih todo seen acc => @List.rec Nat (fun _ => List Nat) acc (fun x todo _ => @Option.rec Unit (fun _ => List Nat) (@Option.rec AObj (fun _ => List Nat) (ih todo seen acc) (fun o => ih (idsO o ++ todo) (uSet seen x (some ())) (x :: acc)) (hGet h x)) (fun _ => ih todo seen acc) (uGet seen x)) todo) n
theorem rchF_eq (h : Tr AObj) (n : Nat) (todo : List Nat) (seen : Tr Unit) (acc : List Nat) : rchF h n todo seen acc = reach h n todo seen acc := by
  induction n generalizing todo seen acc with
  | zero => rfl
  | succ n ih =>
    cases todo with
    | nil => rfl
    | cons x todo =>
      have e : rchF h (n + 1) (x :: todo) seen acc = @Option.rec Unit (fun _ => List Nat) (@Option.rec AObj (fun _ => List Nat) (rchF h n todo seen acc) (fun o => rchF h n (idsO o ++ todo) (uSet seen x (some ())) (x :: acc)) (hGet h x)) (fun _ => rchF h n todo seen acc) (uGet seen x) := rfl
      rw [e, uGet_eq, hGet_eq]
      conv => rhs; unfold reach
      cases seen.get x with
      | some u => exact ih _ _ _
      | none =>
        cases h.get x with
        | none => exact ih _ _ _
        | some o =>
          show rchF h n (idsO o ++ todo) (uSet seen x (some ())) (x :: acc) = _
          rw [ih, uSet_eq]
/-- an operation that yields a value -/
def valF (P : Program) (self : Self) (f : AFr) (st : ASt) (o : Oper) : Rs (Value × ASt) := @Rs.rec AN (fun _ => Self → ASt → Oper → Rs (Value × ASt)) (fun an self st o => @AN.rec (fun _ => Self → ASt → Oper → Rs (Value × ASt)) (fun v st' _ _ _ => .ok (v, st')) (fun g args self st o => @Rs.rec (AE × ASt) (fun _ => Rs (Value × ASt)) (fun t => @AE.rec (fun _ => ASt → Oper → Rs (Value × ASt)) (fun v st _ => .ok (v, st)) (fun _ _ o => .er "draw: panics" o.pos) t.1 t.2 o) (fun s p => .er s p) (self g args st)) (fun _ _ _ o => .er "draw: panics" o.pos) (fun _ _ _ o => .er "draw: panics" o.pos) an self st o) (fun s _ _ _ o => .er s o.pos) (aOpF P f st o.op) self st o
theorem valF_eq (P : Program) (self : Self) (f : AFr) (st : ASt) (o : Oper) : valF P self f st o = evVal P self f st o := by
  unfold valF evVal
  rw [aOpF_eq]
  cases aOp P f st o with
  | er s p => rfl
  | ok an =>
    cases an with
    | val v st' => rfl
    | enter g args =>
      simp only
      cases self g args st with
      | er s p => rfl
      | ok t =>
        obtain ⟨e, st2⟩ := t
        cases e <;> rfl
    | defer d => rfl
    | panic v => rfl
/-- all behind it, by their text -/
def calmF (j : Nat) (rest : List (Oper × Nat)) : Bool := rest.all fun p => hasBit p.2 j || calmOp p.1.op
def soloF (m : Nat) (recs : List Rec) (j : Nat) (rest : List (Oper × Nat)) : Bool := @Bool.rec (fun _ => Bool) false (calmF j rest) (boF recs m)
theorem soloF_eq (m : Nat) (recs : List Rec) (j : Nat) (rest : List (Oper × Nat)) : soloF m recs j rest = solo m recs j rest := by
  unfold soloF solo calmF
  rw [boF_eq]
  cases recs.all fun r => hasBit m r.j <;> rfl
abbrev Kd := Nat → List Rec → AFr → ASt → Re
def nextF (o : Oper) (m : Nat) (k : Kd) (j : Nat) (recs : List Rec) (f : AFr) (st : ASt) (fp : Option (List Nat)) (v : Value) (st' : ASt) : Re :=
  @Bool.rec (fun _ => Re) (.er "draw: not apart" o.pos) (k (Nat.succ j) (@Bool.rec (fun _ => List Rec) (Rec.mk j st.next st'.next (notF (Nat.ble st.next st'.lo)) st'.lo fp none :: recs) recs (noRec fp st.next st'.next)) (putF f o.dst v)
    (stN st'.next (mrgF m recs st.h (footF m recs st.h fp) st'.h st.next st'.next fp) (minG st.lo st'.lo))) (freeF m recs (notF (Nat.ble st.next st'.lo)) st'.lo fp st'.h)
theorem ev_restr (all : List Oper) (o : Oper) (f : AFr) : ∀ x ∈ o.op.operands.toList, f.ev x = (AFr.mk f.n (restr f (looksL all o)) f.defers).ev x := by
  intro x hx
  cases x with
  | tmp t =>
    have hm : t ∈ looksL all o := by
      unfold looksL
      rw [List.mem_append]
      exact .inl (List.mem_filterMap.2 ⟨.tmp t, hx, rfl⟩)
    simp only [AFr.ev, AFr.tmp, restr_get, if_pos hm]
  | const v => rfl
  | global g => rfl
  | func g => rfl
theorem val_restr (P : Program) (self : Self) (all : List Oper) (o : Oper) (f : AFr) (st : ASt) : evVal P self f st o = evVal P self ⟨f.n, restr f (looksL all o), f.defers⟩ st o := by
  unfold evVal
  rw [aOp_congr (ev_restr all o f)]
def drSome (P : Program) (self : Self) (all : List Oper) (o : Oper) (m : Nat) (k : Kd) (j : Nat) (recs : List Rec) (f : AFr) (st : ASt) (l : List Nat) : Re :=
  @Rs.rec (Value × ASt) (fun _ => Re) (fun r => nextF o m k j recs f st (some l) r.1 r.2) (fun s p => .er s p) (valF P self f (ASt.mk st.next (footF m recs st.h (some l)) big) o)
def drNone (rest : List (Oper × Nat)) (P : Program) (self : Self) (all : List Oper) (o : Oper) (m : Nat) (k : Kd) (j : Nat) (recs : List Rec) (f : AFr) (st : ASt) : Re :=
  @Rs.rec (Value × ASt) (fun _ => Re) (fun r => @Bool.rec (fun _ => Re) (drSome P self all o m k j recs f st (rchF st.h 100000 ((o.op.operands.toList.map (evF f)).flatMap (idsV 4)) .leaf [])) (nextF o m k j recs f st none r.1 r.2) (@Bool.rec (fun _ => Bool) (soloF m recs j rest) true (Nat.ble st.next r.2.lo))) (fun s p => .er s p) (valF P self f (ASt.mk st.next (footF m recs st.h none) big) o)
def drOld (rest : List (Oper × Nat)) (P : Program) (self : Self) (all : List Oper) (o : Oper) (m : Nat) (k : Kd) (j : Nat) (recs : List Rec) (f : AFr) (st : ASt) : Re :=
  @Option.rec (List Nat) (fun _ => Re) (drNone rest P self all o m k j recs f st) (drSome P self all o m k j recs f st) (@Bool.rec (fun _ => Option (List Nat)) (fpF f st.h o.op) (some (pfpF f o.op)) (pureO o.op))
def drDo (rest : List (Oper × Nat)) (P : Program) (self : Self) (all : List Oper) (o : Oper) (m : Nat) (k : Kd) (j : Nat) (recs : List Rec) (f : AFr) (st : ASt) : Re :=
  @Option.rec (Value × Addr × Nat × List Value) (fun _ => Re) (drOld rest P self all o m k j recs f st) (fun q => @Bool.rec (fun _ => Re) (.er "draw: not apart" o.pos) (k (Nat.succ j) (Rec.mk j st.next st.next false big (some [q.2.1.block]) (some q.2) :: recs) (putF f o.dst q.1) st) (freeF m recs false big (some [q.2.1.block]) st.h)) (qlF P f st.h m recs o.op)
def drStep (rest : List (Oper × Nat)) (P : Program) (self : Self) (all : List Oper) (om : Oper × Nat) (k : Kd) : Kd := fun j recs f st =>
  @Option.rec Bool (fun _ => Re) (.er "guard" om.1.pos) (fun b => @Bool.rec (fun _ => Re) (k (Nat.succ j) recs (putF f om.1.dst undef) st) (drDo rest P self all om.1 om.2 k j recs f st) b) (wantF all f om.1)
def drawF (P : Program) (self : Self) (all : List Oper) (l : List (Oper × Nat)) : Kd := @List.rec (Oper × Nat) (fun _ => Kd) (fun _ _ f st => .ok (.normal, f, st)) (fun om rest ih => drStep rest P self all om ih) l
theorem nextF_eq (o : Oper) (m : Nat) (k : Kd) (j : Nat) (recs : List Rec) (f : AFr) (st : ASt) (fp : Option (List Nat)) (v : Value) (st' : ASt) : nextF o m k j recs f st fp v st' =
    cond (freeOf m recs (!(Nat.ble st.next st'.lo)) st'.lo fp st'.h)
      (k (j + 1) (cond (noRec fp st.next st'.next) recs (⟨j, st.next, st'.next, !(Nat.ble st.next st'.lo), st'.lo, fp, none⟩ :: recs)) (f.put o.dst v) ⟨st'.next, mergeOf m recs st.h (footOf m recs st.h fp) st'.h st.next st'.next fp, minN st.lo st'.lo⟩)
      (.er "draw: not apart" o.pos) := by
  unfold nextF
  rw [freeF_eq, putF_eq, minG_eq, notF_eq, stN_eq, mrgF_eq, footF_eq]
  cases freeOf m recs (!(Nat.ble st.next st'.lo)) st'.lo fp st'.h with
  | false => rfl
  | true => cases noRec fp st.next st'.next <;> rfl
theorem drawF_eq (P : Program) (self : Self) (all : List Oper) (l : List (Oper × Nat)) (j : Nat) (recs : List Rec) (f : AFr) (st : ASt) : drawF P self all l j recs f st = evDraw P self all l j recs f st := by
  induction l generalizing j recs f st with
  | nil => rfl
  | cons om l ih =>
    obtain ⟨o, m⟩ := om
    have h : drawF P self all ((o, m) :: l) j recs f st = drStep l P self all (o, m) (drawF P self all l) j recs f st := rfl
    have hk : drawF P self all l = evDraw P self all l := by funext j recs f st; exact ih j recs f st
    rw [h, hk]
    unfold drStep
    simp only
    conv => rhs; unfold evDraw
    rw [wantF_eq]
    cases hw : wantedA all f o with
    | none => rfl
    | some b =>
      cases b with
      | false => simp only [putF_eq]
      | true =>
        simp only
        unfold drDo
        rw [qlF_eq]
        cases hq : qload P f st.h m recs o.op with
        | some q =>
          simp only [freeF_eq, putF_eq]
          cases freeOf m recs false big (some [q.2.1.block]) st.h <;> rfl
        | none =>
          simp only
          have hs : ∀ l', drSome P self all o m (evDraw P self all l) j recs f st l' = (match evVal P self ⟨f.n, restr f (looksL all o), f.defers⟩ ⟨st.next, footOf m recs st.h (some l'), big⟩ o with
              | .ok (v, st') => cond (freeOf m recs (!(Nat.ble st.next st'.lo)) st'.lo (some l') st'.h)
                (evDraw P self all l (j + 1) (cond (noRec (some l') st.next st'.next) recs (⟨j, st.next, st'.next, !(Nat.ble st.next st'.lo), st'.lo, some l', none⟩ :: recs)) (f.put o.dst v) ⟨st'.next, mergeOf m recs st.h (footOf m recs st.h (some l')) st'.h st.next st'.next (some l'), minN st.lo st'.lo⟩)
                (.er "draw: not apart" o.pos)
              | .er s p => .er s p) := by
            intro l'
            unfold drSome
            rw [valF_eq, footF_eq, val_restr P self all o f]
            cases evVal P self ⟨f.n, restr f (looksL all o), f.defers⟩ ⟨st.next, footOf m recs st.h (some l'), big⟩ o with
            | er s p => rfl
            | ok r =>
              obtain ⟨v, st'⟩ := r
              exact nextF_eq o m _ j recs f st (some l') v st'
          unfold drOld
          rw [pureO_eq, pfpF_eq, fpF_eq]
          have hc : (@Bool.rec (fun _ => Option (List Nat)) (fpOf f st.h o.op) (some (pureFp f o.op)) (pureOp o.op)) = cond (pureOp o.op) (some (pureFp f o.op)) (fpOf f st.h o.op) := by cases pureOp o.op <;> rfl
          rw [hc]
          cases cond (pureOp o.op) (some (pureFp f o.op)) (fpOf f st.h o.op) with
          | some l' => exact hs l'
          | none =>
            simp only
            unfold drNone
            rw [valF_eq, footF_eq, val_restr P self all o f, rchF_eq, evE]
            cases evVal P self ⟨f.n, restr f (looksL all o), f.defers⟩ ⟨st.next, footOf m recs st.h none, big⟩ o with
            | er s p => rfl
            | ok r =>
              obtain ⟨v, st'⟩ := r
              simp only
              have hn := nextF_eq o m (evDraw P self all l) j recs f st none v st'
              have hor : (@Bool.rec (fun _ => Bool) (soloF m recs j l) true (Nat.ble st.next st'.lo)) = (Nat.ble st.next st'.lo || solo m recs j l) := by
                rw [soloF_eq]
                cases Nat.ble st.next st'.lo <;> rfl
              rw [hor]
              cases hb : (Nat.ble st.next st'.lo || solo m recs j l) with
              | true => exact hn
              | false => exact hs _
def regF (P : Program) (self : Self) (ops : List Oper) (draw : Bool) (f : AFr) (st : ASt) : Re := @Bool.rec (fun _ => Re) (opsF P self ops ops f st) (@Bool.rec (fun _ => Re) (.er "draw: slots") (drawF P self ops (ops.zip (ancL ops [])) (nat_lit 0) [] f st) (slotsOk ops)) draw
theorem regF_eq (P : Program) (self : Self) (ops : List Oper) (draw : Bool) (f : AFr) (st : ASt) : regF P self ops draw f st = evRegion P self ops draw f st := by
  unfold regF evRegion
  cases draw with
  | false => exact opsF_eq P self ops ops f st
  | true =>
    simp only
    show @Bool.rec (fun _ => Re) (.er "draw: slots") (drawF P self ops (ops.zip (ancL ops [])) 0 [] f st) (slotsOk ops) = _
    rw [drawF_eq]
    cases slotsOk ops <;> rfl
def iterF (g : AFr → ASt → Re) (n : Nat) : AFr → ASt → Re := @Nat.rec (fun _ => AFr → ASt → Re) (fun _ _ => .er "loop: too long") (fun _ ih f st => seqF (g f st) ih) n
theorem iterF_eq (g : AFr → ASt → Re) (n : Nat) (f : AFr) (st : ASt) : iterF g n f st = iter g n f st := by
  induction n generalizing f st with
  | zero => rfl
  | succ n ih =>
    have h : iterF g (n + 1) f st = seqF (g f st) (iterF g n) := rfl
    have hk : iterF g n = iter g n := by funext f st; exact ih f st
    rw [h, hk, seqF_eq]
    rfl
def blkF (id : Nat) (r : Re) : Re := @Rs.rec (AX × AFr × ASt) (fun _ => Nat → Re) (fun t id => @AX.rec (fun _ => (AX × AFr × ASt) → Nat → Re) (fun t _ => .ok t) (fun i t id => @Bool.rec (fun _ => Re) (.ok t) (.ok (.normal, t.2)) (Nat.beq i id)) (fun t _ => .ok t) (fun _ t _ => .ok t) t.1 t id) (fun s p _ => .er s p) r id
def codeF (P : Program) (self : Self) (fuel : Nat) (c : Code) : AFr → ASt → Re := @Code.rec (fun _ => AFr → ASt → Re) (fun f st => .ok (.normal, f, st)) (fun _ ops draw f st => regF P self ops.toList draw f st) (fun _ _ iha ihb f st => seqF (iha f st) ihb)
  (fun c _ _ iha ihb f st => @Option.rec Bool (fun _ => Re) (.er "cond") (fun b => @Bool.rec (fun _ => Re) (ihb f st) (iha f st) b) (boolOf (evF f c))) (fun id _ ih f st => blkF id (ih f st)) (fun _ ih f st => iterF ih fuel f st)
  (fun _ _ _ _ _ _ _ _ => .er "code") (fun id f st => .ok (.exit id, f, st)) (fun _ _ _ _ => .er "code") (fun _ _ _ => .er "code") (fun _ _ _ => .er "code") (fun f st => .ok (.ret, f, st)) (fun _ _ _ => .er "code") c
theorem codeF_eq (P : Program) (self : Self) (fuel : Nat) (c : Code) (f : AFr) (st : ASt) : codeF P self fuel c f st = evCode P self fuel c f st := by
  induction c generalizing f st with
  | skip => rfl
  | region id ops draw => exact regF_eq P self ops.toList draw f st
  | seq a b iha ihb =>
    have h : codeF P self fuel (.seq a b) f st = seqF (codeF P self fuel a f st) (codeF P self fuel b) := rfl
    have hk : codeF P self fuel b = evCode P self fuel b := by funext f st; exact ihb f st
    rw [h, hk, iha, seqF_eq]
    rfl
  | cond c a b iha ihb =>
    have h : codeF P self fuel (.cond c a b) f st = @Option.rec Bool (fun _ => Re) (.er "cond") (fun q => @Bool.rec (fun _ => Re) (codeF P self fuel b f st) (codeF P self fuel a f st) q) (boolOf (evF f c)) := rfl
    rw [h, iha, ihb, evF_eq]
    conv => rhs; unfold evCode
    cases hb : boolOf (f.ev c) with
    | none =>
      have := boolOf_none hb
      split
      · rename_i h2; exact absurd h2 (this _)
      · rename_i h2; exact absurd h2 (this _)
      · rfl
    | some q =>
      rw [boolOf_some hb]
      cases q <;> rfl
  | block id c ih =>
    have h : codeF P self fuel (.block id c) f st = blkF id (codeF P self fuel c f st) := rfl
    rw [h, ih]
    conv => rhs; unfold evCode
    cases evCode P self fuel c f st with
    | er s p => rfl
    | ok t =>
      obtain ⟨x, f', st'⟩ := t
      cases x with
      | exit i =>
        show @Bool.rec (fun _ => Re) _ _ (Nat.beq i id) = _
        simp only
        cases Nat.beq i id <;> rfl
      | normal => rfl
      | ret => rfl
      | panic v => rfl
  | loop c ih =>
    have h : codeF P self fuel (.loop c) f st = iterF (codeF P self fuel c) fuel f st := rfl
    have hk : codeF P self fuel c = evCode P self fuel c := by funext f st; exact ih f st
    rw [h, hk, iterF_eq]
    rfl
  | exit id => rfl
  | ret => rfl
  | _ => rfl
/-- what is deferred -/
def dF (P : Program) (self : Self) (fuel : Nat) (g : FuncId) (args : List Value) (p : Option Value) (st : ASt) : Rs (Option Value × ASt) :=
  match P.funcs.toList[g]? with
  | some fn => match fn.body with
    | some body => match body with
      | .seq (.region id ops false) c2 => match ops.toList with
        | o :: l => cond (isRecover o)
          (finD P fn none (match opsF P self (o :: l) l ((⟨maxN args.length fn.ntmps, args0 args 0 .leaf, []⟩ : AFr).put o.dst (recoverOf p)) st with
            | .ok (.normal, f', st') => codeF P self fuel c2 f' st'
            | r => r))
          (match c2 with
            | .seq (.region id2 ops2 false) c3 => match ops2.toList with
              | o2 :: l2 => cond (isRecover o2)
                (finD P fn none (match opsF P self (o :: l) (o :: l) ⟨maxN args.length fn.ntmps, args0 args 0 .leaf, []⟩ st with
                  | .ok (.normal, f1, st1) => (match opsF P self (o2 :: l2) l2 (f1.put o2.dst (recoverOf p)) st1 with
                    | .ok (.normal, f', st') => codeF P self fuel c3 f' st'
                    | r => r)
                  | r => r))
                (finD P fn p (codeF P self fuel body ⟨maxN args.length fn.ntmps, args0 args 0 .leaf, []⟩ st))
              | [] => .er "deferred: empty"
            | _ => finD P fn p (codeF P self fuel body ⟨maxN args.length fn.ntmps, args0 args 0 .leaf, []⟩ st))
        | [] => .er "deferred: empty"
      | body => finD P fn p (codeF P self fuel body ⟨maxN args.length fn.ntmps, args0 args 0 .leaf, []⟩ st)
    | none => .er "deferred: no body"
  | none => .er "deferred: none"
theorem dF_eq (P : Program) (self : Self) (fuel : Nat) : dF P self fuel = evD P self fuel := by
  have h1 : opsF P self = evOps P self := by funext all l f st; exact opsF_eq P self all l f st
  have h2 : codeF P self fuel = evCode P self fuel := by funext c f st; exact codeF_eq P self fuel c f st
  funext g args p st
  unfold dF evD
  rw [h1, h2]
  rfl
def argF (l : List Value) : Nat → Tr Value → Tr Value := @List.rec Value (fun _ => Nat → Tr Value → Tr Value) (fun _ t => t) (fun v _ ih i t => ih (Nat.succ i) (vSet t i (some v))) l
theorem argF_eq (l : List Value) (i : Nat) (t : Tr Value) : argF l i t = args0 l i t := by
  induction l generalizing i t with
  | nil => rfl
  | cons v l ih =>
    have h : argF (v :: l) i t = argF l (i + 1) (vSet t i (some v)) := rfl
    rw [h, ih, vSet_eq]; rfl
def argsF (l : List Value) : Tr Value := argF l (nat_lit 0) .leaf
theorem argsF_eq (l : List Value) : argsF l = args0 l 0 .leaf := argF_eq l 0 .leaf
def maxG (a b : Nat) : Nat := @Bool.rec (fun _ => Nat) a b (Nat.ble a b)
theorem maxG_eq (a b : Nat) : maxG a b = maxN a b := by unfold maxG maxN; cases Nat.ble a b <;> rfl
/-- the results -/
def resLF (P : Program) (st : ASt) (f : AFr) (l : List ResultVar) : Rs (List Value) := @List.rec ResultVar (fun _ => Rs (List Value)) (.ok []) (fun r l ih => @ResultVar.rec (fun _ => Rs (List Value)) (fun t => Rs.bd ih (fun vs => .ok (tmpF f t :: vs))) (fun _ _ => resL P st f (r :: l)) r) l
theorem resLF_eq (P : Program) (st : ASt) (f : AFr) (l : List ResultVar) : resLF P st f l = resL P st f l := by
  induction l with
  | nil => rfl
  | cons r l ih =>
    cases r with
    | tmp t =>
      have h : resLF P st f (.tmp t :: l) = Rs.bd (resLF P st f l) (fun vs => .ok (tmpF f t :: vs)) := rfl
      rw [h, ih, bd_eq]
      simp only [resL, tmpF_eq]
    | cell a t => rfl
def res1 (l : List Value) : Value := @List.rec Value (fun _ => Value) (.tuple #[]) (fun v l _ => @List.rec Value (fun _ => Value → Value) (fun v => v) (fun x l _ v => .tuple ⟨v :: x :: l⟩) l v) l
def resF (P : Program) (fn : Func) (st : ASt) (f : AFr) : Rs Value := Rs.bd (resLF P st f fn.results.toList) (fun vs => .ok (res1 vs))
theorem resF_eq (P : Program) (fn : Func) (st : ASt) (f : AFr) : resF P fn st f = resOf P fn st f := by
  unfold resF resOf
  rw [resLF_eq, bd_eq]
  congr 1
  funext vs
  match vs with
  | [] => rfl
  | [v] => rfl
  | v :: x :: l => rfl
def endF (P : Program) (self : Self) (fuel : Nat) (fn : Func) (p : Option Value) (f : AFr) (st : ASt) : Rs (AE × ASt) := @List.rec ADef (fun _ => Rs (AE × ASt)) (@Option.rec Value (fun _ => Rs (AE × ASt)) (Rs.bd (resF P fn st f) (fun v => .ok (.returned v, st))) (fun v => .ok (.panicked v, st)) p) (fun _ _ _ => leave P (dF P self fuel) fn f f.defers p st) f.defers
def bodyF (P : Program) (fuel : Nat) (self : Self) (fn : Func) (body : Code) (args : List Value) (st : ASt) : Rs (AE × ASt) := @Rs.rec (AX × AFr × ASt) (fun _ => Rs (AE × ASt)) (fun t => @AX.rec (fun _ => Rs (AE × ASt)) (endF P self fuel fn none t.2.1 t.2.2) (fun _ => .er "exit") (endF P self fuel fn none t.2.1 t.2.2) (fun v => endF P self fuel fn (some v) t.2.1 t.2.2) t.1) (fun s p => .er s p) (codeF P self fuel body (AFr.mk (maxG (lenF args) fn.ntmps) (argsF args) []) st)
def fun1F (P : Program) (fuel : Nat) (self : Self) : Self := fun g args st => @Option.rec Func (fun _ => Rs (AE × ASt)) (.er "no function") (fun fn => @Option.rec Code (fun _ => Rs (AE × ASt)) (.er "no body") (fun body => bodyF P fuel self fn body args st) fn.body) P.funcs.toList[g]?
theorem fun1F_eq (P : Program) (fuel : Nat) (self : Self) : fun1F P fuel self = evFun1 P fuel self := by
  funext g args st
  unfold fun1F evFun1
  cases P.funcs.toList[g]? with
  | none => rfl
  | some fn =>
    cases hb : fn.body with
    | none => simp only [hb]
    | some body =>
      simp only [hb]
      unfold bodyF
      rw [codeF_eq, argsF_eq, maxG_eq, lenF_eq]
      cases evCode P self fuel body ⟨maxN args.length fn.ntmps, args0 args 0 .leaf, []⟩ st with
      | er s p => rfl
      | ok t =>
        obtain ⟨x, f, st'⟩ := t
        have hend : ∀ p, endF P self fuel fn p f st' = (match f.defers, p with
            | [], none => (resOf P fn st' f).bnd fun v => .ok (.returned v, st')
            | [], some v => .ok (.panicked v, st')
            | ds, p => leave P (evD P self fuel) fn f ds p st' : Rs (AE × ASt)) := by
          intro p
          unfold endF
          rw [dF_eq, bd_eq, resF_eq]
          cases f.defers with
          | nil => cases p <;> rfl
          | cons d ds => cases p <;> rfl
        cases x with
        | exit i => rfl
        | normal =>
          simp only [hend]
          cases f.defers <;> rfl
        | ret =>
          simp only [hend]
          cases f.defers <;> rfl
        | panic v =>
          simp only [hend]
          cases f.defers <;> rfl
def funF (P : Program) (C : Told) (fuel : Nat) (n : Nat) : Self := @Nat.rec (fun _ => Self) (fun _ _ _ => .er "too deep") (fun _ ih g args st => @Option.rec TCon (fun _ => Rs (AE × ASt)) (fun1F P fuel ih g args st) (fun c => c.run args st) (C g)) n
theorem funF_eq (P : Program) (C : Told) (fuel n : Nat) : funF P C fuel n = evFunC P C fuel n := by
  induction n with
  | zero => rfl
  | succ n ih =>
    funext g args st
    have h : funF P C fuel (n + 1) g args st = @Option.rec TCon (fun _ => Rs (AE × ASt)) (fun1F P fuel (funF P C fuel n) g args st) (fun c => c.run args st) (C g) := rfl
    rw [h, ih, fun1F_eq]
    conv => rhs; unfold evFunC
    cases C g <;> rfl
end fast
end Go.Proofs.YtpogcoolgnjejaaGreatDoor.Ev
