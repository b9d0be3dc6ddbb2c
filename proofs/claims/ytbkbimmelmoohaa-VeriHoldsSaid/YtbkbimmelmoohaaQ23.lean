/-
  What has to hold: printed by the evaluator.
-/
import Derived.Test.YtbkbimmelmoohaaQ22
set_option linter.unusedVariables false
set_option linter.unusedSimpArgs false
section
set_option maxRecDepth 1000000
namespace Go.Proofs.Ytbkbimmelmoohaa.Ev
open Go Go.Proofs
def slIx : List Nat := [0, 1, 7, 8]
def lvIx : AX → List Nat := fun x => match x with
 | .normal => slIx
 | .exit _ => slIx
 | _ => [4]
def clM : Value := .func (.func 18) ⟨[]⟩ ⟨[]⟩
def clB : Value := .func (.func 20) ⟨[]⟩ ⟨[.pointer (some ⟨1, 0, none⟩), .pointer (some ⟨2, 0, none⟩)]⟩
def viM (l : List In) : List (Option AObj) := [some (rowO .look l)]
def viB (l : List In) (c : Nat) (cells : Int) : List (Option AObj) := [some (rowO .look l), some (.cells [.slice (some ⟨0, 0, some 0⟩) l.length c] true 0), some (.cells [.int .i64 cells] true 0)]
def FIx (l : List In) (c : Nat) (cl : Value) (i : Int) : AFr := mkF 19 [(0, .slice (some ⟨0, 0, some 0⟩) l.length c), (1, cl), (7, .int .i64 (Int.ofNat l.length)), (8, .int .i64 i)]
def FIr (i : Int) : AFr := mkF 19 [(4, .int .i64 i)]
noncomputable def exIx (p : In → Bool) (l : List In) (c : Nat) (cl : Value) (v : List (Option AObj)) : Nat → Kt → Prop := fun bk K => (decide (ixQ p l ≥ 0) = true → K .ret (FIr (ixQ p l)) (mkS v)) ∧ (decide (ixQ p l ≥ 0) = false → K (.exit bk) (FIx l c cl l.length) (mkS v))
theorem vc_im (p : In → Bool) (l : List In) (c : Nat) (β : Bs) (K : AE → List (Option AObj) → Prop) : lawE Try.prog toldB4 100 20 β (fun _ => 0) (cnOf 1 fun _ => slIx) (exIx p l c clM (viM l)) 31 [.slice (some ⟨0, 0, some 0⟩) l.length c, clM] (mkS (viM l)) (outK K) =
 (LoopJ Try.prog β (exIx p l c clM (viM l)) 0 (loopOf Try.prog 31 0) (mkF 19 [(0, .slice (some ⟨0, 0, some 0⟩) l.length c), (1, Value.func (Fn.func 18) (Array.mk []) (Array.mk [])), (7, .int .i64 (Int.ofNat l.length)), (8, .int .i64 (0 : Int))]) (mkS [some (.row .look 7 0 l.length (encL l))]) ∧ (decide (ixQ p l ≥ (0 : Int)) = true → K (.returned (.int .i64 (ixQ p l))) [some (.row .look 7 0 l.length (encL l))]) ∧ (decide (ixQ p l ≥ (0 : Int)) = false → K (.returned (.int .i64 (-1 : Int))) [some (.row .look 7 0 l.length (encL l))])) := by kernel_rfl
theorem vc_im_r (l : List In) (c : Nat) (i : Int) (β : Bs) (Nx : Kt) (ex : Nat → Kt → Prop) : roundJ Try.prog toldB4 100 20 β (fun _ => 0) (cnOf 1 fun _ => slIx) ex 31 0 1 lvIx (FIx l c clM i) (mkS (viM l)) Nx =
 (br (decide (i < Int.ofNat l.length)) (need (decide ((0 : Int) ≤ i)) (need (Nat.blt (Int.toNat i) l.length) (need (Nat.ble 0 (0 + Int.toNat i) && Nat.blt (0 + Int.toNat i) l.length) (br (!mayB (In.mk (In.op (List.getD l (0 + Int.toNat i) Enc.dflt)) (In.kd (List.getD l (0 + Int.toNat i) Enc.dflt)) (In.a (List.getD l (0 + Int.toNat i) Enc.dflt)) (In.n (List.getD l (0 + Int.toNat i) Enc.dflt)) (Vl.mk (Vl.k (In.v (List.getD l (0 + Int.toNat i) Enc.dflt))) (Vl.i (In.v (List.getD l (0 + Int.toNat i) Enc.dflt))) (Vl.f (In.v (List.getD l (0 + Int.toNat i) Enc.dflt)))))) (Nx .ret (mkF 19 [(4, .int .i64 i)]) (mkS [some (.row .look 7 0 l.length (encL l))])) (Nx .normal (mkF 19 [(0, .slice (some ⟨0, 0, some 0⟩) l.length c), (1, Value.func (Fn.func 18) (Array.mk []) (Array.mk [])), (7, .int .i64 (Int.ofNat l.length)), (8, .int .i64 (IntKind.wrap .i64 (i + (1 : Int))))]) (mkS [some (.row .look 7 0 l.length (encL l))])))))) (Nx (.exit 0) (mkF 19 [(0, .slice (some ⟨0, 0, some 0⟩) l.length c), (1, Value.func (Fn.func 18) (Array.mk []) (Array.mk [])), (7, .int .i64 (Int.ofNat l.length)), (8, .int .i64 i)]) (mkS [some (.row .look 7 0 l.length (encL l))]))) := by kernel_rfl
theorem vc_ib (p : In → Bool) (l : List In) (c : Nat) (cells : Int) (β : Bs) (K : AE → List (Option AObj) → Prop) : lawE Try.prog toldB4 100 20 β (fun _ => 0) (cnOf 3 fun _ => slIx) (exIx p l c clB (viB l c cells)) 31 [.slice (some ⟨0, 0, some 0⟩) l.length c, clB] (mkS (viB l c cells)) (outK K) =
 (LoopJ Try.prog β (exIx p l c clB (viB l c cells)) 0 (loopOf Try.prog 31 0) (mkF 19 [(0, .slice (some ⟨0, 0, some 0⟩) l.length c), (1, Value.func (Fn.func 20) (Array.mk []) (Array.mk [.pointer (some ⟨1, 0, none⟩), .pointer (some ⟨2, 0, none⟩)])), (7, .int .i64 (Int.ofNat l.length)), (8, .int .i64 (0 : Int))]) (mkS [some (.row .look 7 0 l.length (encL l)), some (.cells [.slice (some ⟨0, 0, some 0⟩) l.length c] true 0), some (.cells [.int .i64 cells] true 0)]) ∧ (decide (ixQ p l ≥ (0 : Int)) = true → K (.returned (.int .i64 (ixQ p l))) [some (.row .look 7 0 l.length (encL l)), some (.cells [.slice (some ⟨0, 0, some 0⟩) l.length c] true 0), some (.cells [.int .i64 cells] true 0)]) ∧ (decide (ixQ p l ≥ (0 : Int)) = false → K (.returned (.int .i64 (-1 : Int))) [some (.row .look 7 0 l.length (encL l)), some (.cells [.slice (some ⟨0, 0, some 0⟩) l.length c] true 0), some (.cells [.int .i64 cells] true 0)])) := by kernel_rfl
theorem vc_ib_r (l : List In) (c : Nat) (cells i : Int) (β : Bs) (Nx : Kt) (ex : Nat → Kt → Prop) : roundJ Try.prog toldB4 100 20 β (fun _ => 0) (cnOf 3 fun _ => slIx) ex 31 0 3 lvIx (FIx l c clB i) (mkS (viB l c cells)) Nx =
 (br (decide (i < Int.ofNat l.length)) (need (decide ((0 : Int) ≤ i)) (need (Nat.blt (Int.toNat i) l.length) (need (Nat.ble 0 (0 + Int.toNat i) && Nat.blt (0 + Int.toNat i) l.length) (br (In.op (List.getD l (0 + Int.toNat i) Enc.dflt) == (2 : Int)) (br (decide (In.a (List.getD l (0 + Int.toNat i) Enc.dflt) ≥ cells)) (Nx .ret (mkF 19 [(4, .int .i64 i)]) (mkS [some (.row .look 7 0 l.length (encL l)), some (.cells [.slice (some ⟨0, 0, some 0⟩) l.length c] true 0), some (.cells [.int .i64 cells] true 0)])) (Nx .normal (mkF 19 [(0, .slice (some ⟨0, 0, some 0⟩) l.length c), (1, Value.func (Fn.func 20) (Array.mk []) (Array.mk [.pointer (some ⟨1, 0, none⟩), .pointer (some ⟨2, 0, none⟩)])), (7, .int .i64 (Int.ofNat l.length)), (8, .int .i64 (IntKind.wrap .i64 (i + (1 : Int))))]) (mkS [some (.row .look 7 0 l.length (encL l)), some (.cells [.slice (some ⟨0, 0, some 0⟩) l.length c] true 0), some (.cells [.int .i64 cells] true 0)]))) (br (In.op (List.getD l (0 + Int.toNat i) Enc.dflt) == (18 : Int)) (br (decide (In.a (List.getD l (0 + Int.toNat i) Enc.dflt) ≥ cells)) (Nx .ret (mkF 19 [(4, .int .i64 i)]) (mkS [some (.row .look 7 0 l.length (encL l)), some (.cells [.slice (some ⟨0, 0, some 0⟩) l.length c] true 0), some (.cells [.int .i64 cells] true 0)])) (Nx .normal (mkF 19 [(0, .slice (some ⟨0, 0, some 0⟩) l.length c), (1, Value.func (Fn.func 20) (Array.mk []) (Array.mk [.pointer (some ⟨1, 0, none⟩), .pointer (some ⟨2, 0, none⟩)])), (7, .int .i64 (Int.ofNat l.length)), (8, .int .i64 (IntKind.wrap .i64 (i + (1 : Int))))]) (mkS [some (.row .look 7 0 l.length (encL l)), some (.cells [.slice (some ⟨0, 0, some 0⟩) l.length c] true 0), some (.cells [.int .i64 cells] true 0)]))) (br (In.op (List.getD l (0 + Int.toNat i) Enc.dflt) == (3 : Int)) (br (decide (IntKind.wrap .i64 (In.a (List.getD l (0 + Int.toNat i) Enc.dflt) + In.n (List.getD l (0 + Int.toNat i) Enc.dflt)) > cells)) (Nx .ret (mkF 19 [(4, .int .i64 i)]) (mkS [some (.row .look 7 0 l.length (encL l)), some (.cells [.slice (some ⟨0, 0, some 0⟩) l.length c] true 0), some (.cells [.int .i64 cells] true 0)])) (Nx .normal (mkF 19 [(0, .slice (some ⟨0, 0, some 0⟩) l.length c), (1, Value.func (Fn.func 20) (Array.mk []) (Array.mk [.pointer (some ⟨1, 0, none⟩), .pointer (some ⟨2, 0, none⟩)])), (7, .int .i64 (Int.ofNat l.length)), (8, .int .i64 (IntKind.wrap .i64 (i + (1 : Int))))]) (mkS [some (.row .look 7 0 l.length (encL l)), some (.cells [.slice (some ⟨0, 0, some 0⟩) l.length c] true 0), some (.cells [.int .i64 cells] true 0)]))) (br (In.op (List.getD l (0 + Int.toNat i) Enc.dflt) == (19 : Int)) (br (decide (IntKind.wrap .i64 (In.a (List.getD l (0 + Int.toNat i) Enc.dflt) + In.n (List.getD l (0 + Int.toNat i) Enc.dflt)) > cells)) (Nx .ret (mkF 19 [(4, .int .i64 i)]) (mkS [some (.row .look 7 0 l.length (encL l)), some (.cells [.slice (some ⟨0, 0, some 0⟩) l.length c] true 0), some (.cells [.int .i64 cells] true 0)])) (Nx .normal (mkF 19 [(0, .slice (some ⟨0, 0, some 0⟩) l.length c), (1, Value.func (Fn.func 20) (Array.mk []) (Array.mk [.pointer (some ⟨1, 0, none⟩), .pointer (some ⟨2, 0, none⟩)])), (7, .int .i64 (Int.ofNat l.length)), (8, .int .i64 (IntKind.wrap .i64 (i + (1 : Int))))]) (mkS [some (.row .look 7 0 l.length (encL l)), some (.cells [.slice (some ⟨0, 0, some 0⟩) l.length c] true 0), some (.cells [.int .i64 cells] true 0)]))) (br (In.op (List.getD l (0 + Int.toNat i) Enc.dflt) == (22 : Int)) (br (In.kd (List.getD l (0 + Int.toNat i) Enc.dflt) == (9 : Int)) (br (decide (IntKind.wrap .i64 (In.a (List.getD l (0 + Int.toNat i) Enc.dflt) + (3 : Int)) > cells)) (Nx .ret (mkF 19 [(4, .int .i64 i)]) (mkS [some (.row .look 7 0 l.length (encL l)), some (.cells [.slice (some ⟨0, 0, some 0⟩) l.length c] true 0), some (.cells [.int .i64 cells] true 0)])) (Nx .normal (mkF 19 [(0, .slice (some ⟨0, 0, some 0⟩) l.length c), (1, Value.func (Fn.func 20) (Array.mk []) (Array.mk [.pointer (some ⟨1, 0, none⟩), .pointer (some ⟨2, 0, none⟩)])), (7, .int .i64 (Int.ofNat l.length)), (8, .int .i64 (IntKind.wrap
 .i64 (i + (1 : Int))))]) (mkS [some (.row .look 7 0 l.length (encL l)), some (.cells [.slice (some ⟨0, 0, some 0⟩) l.length c] true 0), some (.cells [.int .i64 cells] true 0)]))) (br (In.kd (List.getD l (0 + Int.toNat i) Enc.dflt) == (10 : Int)) (br (decide (IntKind.wrap .i64 (In.a (List.getD l (0 + Int.toNat i) Enc.dflt) + (3 : Int)) > cells)) (Nx .ret (mkF 19 [(4, .int .i64 i)]) (mkS [some (.row .look 7 0 l.length (encL l)), some (.cells [.slice (some ⟨0, 0, some 0⟩) l.length c] true 0), some (.cells [.int .i64 cells] true 0)])) (Nx .normal (mkF 19 [(0, .slice (some ⟨0, 0, some 0⟩) l.length c), (1, Value.func (Fn.func 20) (Array.mk []) (Array.mk [.pointer (some ⟨1, 0, none⟩), .pointer (some ⟨2, 0, none⟩)])), (7, .int .i64 (Int.ofNat l.length)), (8, .int .i64 (IntKind.wrap .i64 (i + (1 : Int))))]) (mkS [some (.row .look 7 0 l.length (encL l)), some (.cells [.slice (some ⟨0, 0, some 0⟩) l.length c] true 0), some (.cells [.int .i64 cells] true 0)]))) (br (In.kd (List.getD l (0 + Int.toNat i) Enc.dflt) == (11 : Int)) (br (decide (IntKind.wrap .i64 (In.a (List.getD l (0 + Int.toNat i) Enc.dflt) + (2 : Int)) > cells)) (Nx .ret (mkF 19 [(4, .int .i64 i)]) (mkS [some (.row .look 7 0 l.length (encL l)), some (.cells [.slice (some ⟨0, 0, some 0⟩) l.length c] true 0), some (.cells [.int .i64 cells] true 0)])) (Nx .normal (mkF 19 [(0, .slice (some ⟨0, 0, some 0⟩) l.length c), (1, Value.func (Fn.func 20) (Array.mk []) (Array.mk [.pointer (some ⟨1, 0, none⟩), .pointer (some ⟨2, 0, none⟩)])), (7, .int .i64 (Int.ofNat l.length)), (8, .int .i64 (IntKind.wrap .i64 (i + (1 : Int))))]) (mkS [some (.row .look 7 0 l.length (encL l)), some (.cells [.slice (some ⟨0, 0, some 0⟩) l.length c] true 0), some (.cells [.int .i64 cells] true 0)]))) (br (In.kd (List.getD l (0 + Int.toNat i) Enc.dflt) == (12 : Int)) (br (decide (IntKind.wrap .i64 (In.a (List.getD l (0 + Int.toNat i) Enc.dflt) + (2 : Int)) > cells)) (Nx .ret (mkF 19 [(4, .int .i64 i)]) (mkS [some (.row .look 7 0 l.length (encL l)), some (.cells [.slice (some ⟨0, 0, some 0⟩) l.length c] true 0), some (.cells [.int .i64 cells] true 0)])) (Nx .normal (mkF 19 [(0, .slice (some ⟨0, 0, some 0⟩) l.length c), (1, Value.func (Fn.func 20) (Array.mk []) (Array.mk [.pointer (some ⟨1, 0, none⟩), .pointer (some ⟨2, 0, none⟩)])), (7, .int .i64 (Int.ofNat l.length)), (8, .int .i64 (IntKind.wrap .i64 (i + (1 : Int))))]) (mkS [some (.row .look 7 0 l.length (encL l)), some (.cells [.slice (some ⟨0, 0, some 0⟩) l.length c] true 0), some (.cells [.int .i64 cells] true 0)]))) (br (decide (IntKind.wrap .i64 (In.a (List.getD l (0 + Int.toNat i) Enc.dflt) + (4 : Int)) > cells)) (Nx .ret (mkF 19 [(4, .int .i64 i)]) (mkS [some (.row .look 7 0 l.length (encL l)), some (.cells [.slice (some ⟨0, 0, some 0⟩) l.length c] true 0), some (.cells [.int .i64 cells] true 0)])) (Nx .normal (mkF 19 [(0, .slice (some ⟨0, 0, some 0⟩) l.length c), (1, Value.func (Fn.func 20) (Array.mk []) (Array.mk [.pointer (some ⟨1, 0, none⟩), .pointer (some ⟨2, 0, none⟩)])), (7, .int .i64 (Int.ofNat l.length)), (8, .int .i64 (IntKind.wrap .i64 (i + (1 : Int))))]) (mkS [some (.row .look 7 0 l.length (encL l)), some (.cells [.slice (some ⟨0, 0, some 0⟩) l.length c] true 0), some (.cells [.int .i64 cells] true 0)]))))))) (br (In.op (List.getD l (0 + Int.toNat i) Enc.dflt) == (20 : Int)) (br (decide (In.a (List.getD l (0 + Int.toNat i) Enc.dflt) ≥ Int.ofNat l.length)) (Nx .ret (mkF 19 [(4, .int .i64 i)]) (mkS [some (.row .look 7 0 l.length (encL l)), some (.cells [.slice (some ⟨0, 0, some 0⟩) l.length c] true 0), some (.cells [.int .i64 cells] true 0)])) (Nx .normal (mkF 19 [(0, .slice (some ⟨0, 0, some 0⟩) l.length c), (1, Value.func (Fn.func 20) (Array.mk []) (Array.mk [.pointer (some ⟨1, 0, none⟩), .pointer (some ⟨2, 0, none⟩)])), (7, .int .i64 (Int.ofNat l.length)), (8, .int .i64 (IntKind.wrap .i64 (i + (1 : Int))))]) (mkS [some (.row .look 7 0 l.length (encL l)), some (.cells [.slice (some ⟨0, 0, some 0⟩) l.length c] true 0), some (.cells [.int
 .i64 cells] true 0)]))) (br (In.op (List.getD l (0 + Int.toNat i) Enc.dflt) == (21 : Int)) (br (decide (In.a (List.getD l (0 + Int.toNat i) Enc.dflt) ≥ Int.ofNat l.length)) (Nx .ret (mkF 19 [(4, .int .i64 i)]) (mkS [some (.row .look 7 0 l.length (encL l)), some (.cells [.slice (some ⟨0, 0, some 0⟩) l.length c] true 0), some (.cells [.int .i64 cells] true 0)])) (Nx .normal (mkF 19 [(0, .slice (some ⟨0, 0, some 0⟩) l.length c), (1, Value.func (Fn.func 20) (Array.mk []) (Array.mk [.pointer (some ⟨1, 0, none⟩), .pointer (some ⟨2, 0, none⟩)])), (7, .int .i64 (Int.ofNat l.length)), (8, .int .i64 (IntKind.wrap .i64 (i + (1 : Int))))]) (mkS [some (.row .look 7 0 l.length (encL l)), some (.cells [.slice (some ⟨0, 0, some 0⟩) l.length c] true 0), some (.cells [.int .i64 cells] true 0)]))) (Nx .normal (mkF 19 [(0, .slice (some ⟨0, 0, some 0⟩) l.length c), (1, Value.func (Fn.func 20) (Array.mk []) (Array.mk [.pointer (some ⟨1, 0, none⟩), .pointer (some ⟨2, 0, none⟩)])), (7, .int .i64 (Int.ofNat l.length)), (8, .int .i64 (IntKind.wrap .i64 (i + (1 : Int))))]) (mkS [some (.row .look 7 0 l.length (encL l)), some (.cells [.slice (some ⟨0, 0, some 0⟩) l.length c] true 0), some (.cells [.int .i64 cells] true 0)])))))))))))) (Nx (.exit 0) (mkF 19 [(0, .slice (some ⟨0, 0, some 0⟩) l.length c), (1, Value.func (Fn.func 20) (Array.mk []) (Array.mk [.pointer (some ⟨1, 0, none⟩), .pointer (some ⟨2, 0, none⟩)])), (7, .int .i64 (Int.ofNat l.length)), (8, .int .i64 i)]) (mkS [some (.row .look 7 0 l.length (encL l)), some (.cells [.slice (some ⟨0, 0, some 0⟩) l.length c] true 0), some (.cells [.int .i64 cells] true 0)]))) := by kernel_rfl
end Go.Proofs.Ytbkbimmelmoohaa.Ev
end
section
set_option maxRecDepth 100000
namespace Go.Proofs.Ytbkbimmelmoohaa.Ev
open Go Go.Proofs Go.RowKit
theorem ixP_yes {p : In → Bool} {l : List In} {r i : Nat} (h : p (l.getD i Enc.dflt) = true) : ixP p l (r + 1) i = Int.ofNat i := by unfold ixP; rw [h]; rfl
theorem ixP_nx {p : In → Bool} {l : List In} {r i : Nat} (h : p (l.getD i Enc.dflt) = false) : ixP p l (r + 1) i = ixP p l r (i + 1) := by rw [ixP.eq_def]; simp only [h, cond_false]
theorem ixP_no {p : In → Bool} {l : List In} : ∀ (r i : Nat), decide (ixP p l r i ≥ 0) = false → ixP p l r i = -1
 | 0, i, _ => rfl
 | r + 1, i, h => by
  cases hq : p (l.getD i Enc.dflt) with
  | true => rw [ixP_yes hq] at h; simp at h
  | false => rw [ixP_nx hq] at h ⊢; exact ixP_no r (i + 1) h
theorem ixP_any {p : In → Bool} {l : List In} : ∀ (r i : Nat), decide (ixP p l r i ≥ 0) = (List.range r).any fun j => p (l.getD (i + j) Enc.dflt)
 | 0, i => rfl
 | r + 1, i => by
  rw [List.range_succ_eq_map, List.any_cons, List.any_map]
  simp only [Nat.add_zero]
  cases hq : p (l.getD i Enc.dflt) with
  | true => rw [ixP_yes hq]; simp
  | false =>
   rw [ixP_nx hq, Bool.false_or, ixP_any r (i + 1)]
   congr 1
   funext j
   show _ = p (l.getD (i + (j + 1)) Enc.dflt)
   rw [show i + 1 + j = i + (j + 1) by omega]
theorem ixQ_any (p : In → Bool) (l : List In) : decide (ixQ p l ≥ 0) = l.any p := by
 unfold ixQ
 rw [ixP_any, Bool.eq_iff_iff, List.any_eq_true, List.any_eq_true]
 constructor
 ·rintro ⟨j, hj, h⟩
  have hj := List.mem_range.1 hj
  rw [Nat.zero_add] at h
  exact ⟨l.getD j Enc.dflt, by simp [List.getD, hj], h⟩
 ·rintro ⟨v, hv, h⟩
  obtain ⟨j, hj, rfl⟩ := List.getElem_of_mem hv
  exact ⟨j, List.mem_range.2 hj, by simpa [List.getD, hj] using h⟩
theorem ixP_at {p : In → Bool} {l : List In} {r : Int} {k : Nat} (hk : k < l.length) (h : ixP p l (l.length - k) k = r) : (p (l.getD k Enc.dflt) = true → r = Int.ofNat k) ∧ (p (l.getD k Enc.dflt) = false → ixP p l (l.length - (k + 1)) (k + 1) = r) := by
 rw [show l.length - k = (l.length - (k + 1)) + 1 by omega] at h
 constructor
 ·intro hq; rw [ixP_yes hq] at h; exact h.symm
 ·intro hq; rw [ixP_nx hq] at h; exact h
theorem ix_loop {p : In → Bool} {l : List In} {c : Nat} {cl : Value} {v : List (Option AObj)} {E : Nat} {β : Bs} (hβ : β.X.length = E) (hl : l.length ≤ 1000000)
  (hr : ∀ (k : Nat) (Nx : Kt), k ≤ l.length → (k < l.length → p (l.getD k Enc.dflt) = true → Nx .ret (FIr (k : Int)) (mkS v)) → (k < l.length → p (l.getD k Enc.dflt) = false → Nx .normal (FIx l c cl ((k + 1 : Nat) : Int)) (mkS v)) → (k = l.length → Nx (.exit 0) (FIx l c cl (k : Int)) (mkS v)) → roundJ Try.prog toldB4 100 20 β (fun _ => 0) (cnOf E fun _ => slIx) (fun _ _ => False) 31 0 E lvIx (FIx l c cl (k : Nat)) (mkS v) Nx) :
  LoopJ Try.prog β (exIx p l c cl v) 0 (loopOf Try.prog 31 0) (FIx l c cl (0 : Nat)) (mkS v) := by
 refine loop_rule (fun k : Nat => k ≤ l.length ∧ ixP p l (l.length - k) k = ixQ p l) (fun k => FIx l c cl k) (fun _ => mkS v) (fun k => l.length - k) (fun k hk K hK => ?_) 0 ⟨Nat.zero_le _, rfl⟩
 obtain ⟨hK1, hK2⟩ := hK
 obtain ⟨hk, hg⟩ := hk
 show J _ β _ _ _ (Nn β (fun k : Nat => k ≤ l.length ∧ ixP p l (l.length - k) k = ixQ p l) (fun k => l.length - k) (fun k : Nat => FIx l c cl k) (fun _ => mkS v) k K)
 refine roundJ_ok (E := E) (lvs := fun _ => slIx) (un := fun _ => 0) (fuel := 100) (n := 20) (ex := fun _ _ => False) follows toldB4_ok hβ (lv := lvIx) ?_
 refine hr k _ hk (fun hkn hq => ?_) (fun hkn hq => ?_) (fun he => ?_)
 ·have hrr := (ixP_at hkn hg).1 hq
  have hge : decide (ixQ p l ≥ 0) = true := by rw [hrr]; simp
  have := hK1 hge
  rw [hrr] at this
  exact Nn.ret (Seen.refl _ _ _) this
 ·exact Nn.next (I := fun k : Nat => k ≤ l.length ∧ ixP p l (l.length - k) k = ixQ p l) (m := fun k => l.length - k) (F := fun k : Nat => FIx l c cl k) (S := fun _ => mkS v) (p := k) (k + 1) ⟨hkn, (ixP_at hkn hg).2 hq⟩ (by omega) (Seen.refl _ _ _)
 ·subst he
  refine Nn.exit (Seen.refl _ _ _) (hK2 ?_)
  rw [Nat.sub_self] at hg
  rw [← hg]; rfl
noncomputable def pM (x : In) : Bool := !mayB x
theorem im_r {l : List In} {c : Nat} {β : Bs} (hl : l.length ≤ 1000000) (k : Nat) (Nx : Kt) (hk : k ≤ l.length) (h1 : k < l.length → pM (l.getD k Enc.dflt) = true → Nx .ret (FIr (k : Int)) (mkS (viM l))) (h2 : k < l.length → pM (l.getD k Enc.dflt) = false → Nx .normal (FIx l c clM ((k + 1 : Nat) : Int)) (mkS (viM l))) (h3 : k = l.length → Nx (.exit 0) (FIx l c clM (k : Int)) (mkS (viM l))) : roundJ Try.prog toldB4 100 20 β (fun _ => 0) (cnOf 1 fun _ => slIx) (fun _ _ => False) 31 0 1 lvIx (FIx l c clM (k : Nat)) (mkS (viM l)) Nx := by
 rw [vc_im_r]
 by_cases hkn : k < l.length
 ·have c1 : decide ((k : Int) < Int.ofNat l.length) = true := by simpa using hkn
  have c2 : decide ((0 : Int) ≤ (k : Int)) = true := by simp
  have e0 : Int.toNat (k : Int) = k := Int.toNat_natCast k
  have c3 : Nat.blt k l.length = true := by simpa using hkn
  have c5 : Nat.ble 0 k = true := by simp
  have hw : IntKind.wrap .i64 ((k : Int) + 1) = ((k + 1 : Nat) : Int) := w64 (by omega) (by omega)
  simp only [c1, c2, e0, Nat.zero_add, c3, c5, Bool.true_and, br_t, need_t, hw]
  exact br_of (fun q => h1 hkn q) (fun q => h2 hkn q)
 ·have c1 : decide ((k : Int) < Int.ofNat l.length) = false := by simpa using hkn
  simp only [c1, br_f]
  exact h3 (by omega)
theorem ib_r {l : List In} {c : Nat} {cells : Int} {β : Bs} (hl : l.length ≤ 1000000) (k : Nat) (Nx : Kt) (hk : k ≤ l.length) (h1 : k < l.length → beyB l.length cells (l.getD k Enc.dflt) = true → Nx .ret (FIr (k : Int)) (mkS (viB l c cells))) (h2 : k < l.length → beyB l.length cells (l.getD k Enc.dflt) = false → Nx .normal (FIx l c clB ((k + 1 : Nat) : Int)) (mkS (viB l c cells))) (h3 : k = l.length → Nx (.exit 0) (FIx l c clB (k : Int)) (mkS (viB l c cells))) : roundJ Try.prog toldB4 100 20 β (fun _ => 0) (cnOf 3 fun _ => slIx) (fun _ _ => False) 31 0 3 lvIx (FIx l c clB (k : Nat)) (mkS (viB l c cells)) Nx := by
 rw [vc_ib_r]
 by_cases hkn : k < l.length
 ·have c1 : decide ((k : Int) < Int.ofNat l.length) = true := by simpa using hkn
  have c2 : decide ((0 : Int) ≤ (k : Int)) = true := by simp
  have e0 : Int.toNat (k : Int) = k := Int.toNat_natCast k
  have c3 : Nat.blt k l.length = true := by simpa using hkn
  have c5 : Nat.ble 0 k = true := by simp
  have hw : IntKind.wrap .i64 ((k : Int) + 1) = ((k + 1 : Nat) : Int) := w64 (by omega) (by omega)
  simp only [c1, c2, e0, Nat.zero_add, c3, c5, Bool.true_and, br_t, need_t, hw]
  generalize l.getD k Enc.dflt = x at h1 h2 ⊢
  have h1 := h1 hkn
  have h2 := h2 hkn
  unfold beyB blkC at h1 h2
  repeat' (with_reducible refine br_of (fun _ => ?_) (fun _ => ?_))
  all_goals first
   | exact h1 (by simp only [*, Bool.or_true, Bool.true_or, Bool.or_false, Bool.false_or, cond_true, cond_false])
   | exact h2 (by simp only [*, Bool.or_true, Bool.true_or, Bool.or_false, Bool.false_or, cond_true, cond_false])
 ·have c1 : decide ((k : Int) < Int.ofNat l.length) = false := by simpa using hkn
  simp only [c1, br_f]
  exact h3 (by omega)
def upB (n c : Nat) (cells : Int) : List Up := [.same, .to (.cells [.slice (some ⟨0, 0, some 0⟩) n c] true 0), .to (.cells [.int .i64 cells] true 0)]
noncomputable def spI (args : List Value) (objs : List (Option AObj)) : Option SpT := match args, objs with
 | [.slice (some ⟨0, 0, some 0⟩) n c, .func (.func g) ⟨[]⟩ ⟨[]⟩], [o0] =>
  some (.one ⟨Nat.beq g 18 && rowB In n c o0, viM (rowL In n o0), .returned (.int .i64 (ixQ pM (rowL In n o0))), [.same], []⟩)
 | [.slice (some ⟨0, 0, some 0⟩) n c, .func (.func g) ⟨[]⟩ ⟨[.pointer (some ⟨1, 0, none⟩), .pointer (some ⟨2, 0, none⟩)]⟩], [o0, some (.cells [.slice (some ⟨0, 0, some 0⟩) n' c'] true 0), some (.cells [.int .i64 cells] true 0)] =>
  some (.one ⟨Nat.beq g 20 && rowB In n c o0 && Nat.beq n n' && Nat.beq c c', viB (rowL In n o0) c cells, .returned (.int .i64 (ixQ (beyB n cells) (rowL In n o0))), upB n c cells, []⟩)
 | _, _ => none
theorem ix_told : EffOk Try.prog 31 (pickS spI) := by
 intro args objs s hs hb
 unfold pickS spI at hs
 split at hs
 ·rename_i n c g o0
  simp only [Option.map_some, Option.some.injEq, SpT.pick] at hs
  subst hs
  have hb' := hb
  simp only [Bool.and_eq_true] at hb'
  obtain ⟨b1, b2⟩ := hb'
  have b1 := Nat.eq_of_beq_eq_true b1
  subst b1
  obtain ⟨l1, m1, c1, v1⟩ := rowB_ok b2
  generalize hB : (Nat.beq 18 18 && rowB In n c o0) = B at hb
  refine ⟨⟨rfl, fun i o h => ?_⟩, ?_⟩
  ·match i, h with
   | 0, h => cases h; obtain ⟨q, rfl, hq⟩ := v1; exact ⟨q, rfl, (fun h => by cases h), hq⟩
   | _ + 1, h => simp [viM] at h
  refine ⟨toldB4, 100, 20, fun _ => 0, fun _ => slIx, exIx pM (rowL In n o0) c clM (viM (rowL In n o0)), toldB4_ok, fun β hβ => ?_⟩
  generalize rowL In n o0 = l at *
  subst l1
  have hout : ∀ s : Sp, outR (effK s) = outK fun r l => ∃ l2, objsR l l2 ∧ effK s r (mkS l2) := fun s => rfl
  rw [hout]
  refine (vc_im pM l c β _).mpr ?_
  have eff : ∀ (v : Int) (lst : List (Option AObj)), v = ixQ pM l → ∃ l2, objsR lst l2 ∧ effK ⟨B, viM l, .returned (.int .i64 (ixQ pM l)), [.same], []⟩ (.returned (.int .i64 v)) (mkS l2) := by
   intro v lst hv
   subst hv
   refine ⟨lst, objsR.refl _, effK_none rfl (fun i o h => ?_) rfl⟩
   match i, h with
   | 0, h => cases h
   | i + 1, h => cases h
  refine ⟨ix_loop hβ m1 (fun k Nx hk a b e => im_r m1 k Nx hk a b e), fun h => eff _ _ rfl, fun h => eff _ _ (ixP_no _ _ h).symm⟩
 ·rename_i n c g o0 n' c' cells
  simp only [Option.map_some, Option.some.injEq, SpT.pick] at hs
  subst hs
  have hb' := hb
  simp only [Bool.and_eq_true] at hb'
  obtain ⟨⟨⟨b1, b2⟩, b3⟩, b4⟩ := hb'
  have b1 := Nat.eq_of_beq_eq_true b1
  have b3 := Nat.eq_of_beq_eq_true b3
  have b4 := Nat.eq_of_beq_eq_true b4
  subst b1 b3 b4
  obtain ⟨l1, m1, c1, v1⟩ := rowB_ok b2
  generalize hB : (Nat.beq 20 20 && rowB In n c o0 && Nat.beq n n && Nat.beq c c) = B at hb
  refine ⟨⟨rfl, fun i o h => ?_⟩, ?_⟩
  ·match i, h with
   | 0, h => cases h; obtain ⟨q, rfl, hq⟩ := v1; exact ⟨q, rfl, (fun h => by cases h), hq⟩
   | 1, h =>
    cases h
    rw [l1]
    exact ⟨_, rfl, fun h => h, fun _ _ _ h => h⟩
   | 2, h => cases h; exact ⟨_, rfl, fun h => h, fun _ _ _ h => h⟩
   | _ + 3, h => simp [viB] at h
  refine ⟨toldB4, 100, 20, fun _ => 0, fun _ => slIx, exIx (beyB n cells) (rowL In n o0) c clB (viB (rowL In n o0) c cells), toldB4_ok, fun β hβ => ?_⟩
  generalize rowL In n o0 = l at *
  subst l1
  have hout : ∀ s : Sp, outR (effK s) = outK fun r l => ∃ l2, objsR l l2 ∧ effK s r (mkS l2) := fun s => rfl
  rw [hout]
  refine (vc_ib (beyB l.length cells) l c cells β _).mpr ?_
  have eff : ∀ (v : Int) (lst : List (Option AObj)), v = ixQ (beyB l.length cells) l → lst[1]? = some (some (.cells [.slice (some ⟨0, 0, some 0⟩) l.length c] true 0)) → lst[2]? = some (some (.cells [.int .i64 cells] true 0)) → ∃ l2, objsR lst l2 ∧ effK ⟨B, viB l c cells, .returned (.int .i64 (ixQ (beyB l.length cells) l)), upB l.length c cells, []⟩ (.returned (.int .i64 v)) (mkS l2) := by
   intro v lst hv h1 h2
   subst hv
   refine ⟨lst, objsR.refl _, [], rfl, List.nodup_nil, by simp, rfl, fun i o h => ?_, fun j x o h => by simp at h⟩
   match i, h with
   | 0, h => cases h
   | 1, h => cases h; rw [mkS_get, h1]; rfl
   | 2, h => cases h; rw [mkS_get, h2]; rfl
   | i + 3, h => simp [upB] at h
  refine ⟨ix_loop hβ m1 (fun k Nx hk a b e => ib_r m1 k Nx hk a b e), fun h => eff _ _ rfl rfl rfl, fun h => eff _ _ (ixP_no _ _ h).symm rfl rfl⟩
 ·cases hs
end Go.Proofs.Ytbkbimmelmoohaa.Ev
end
