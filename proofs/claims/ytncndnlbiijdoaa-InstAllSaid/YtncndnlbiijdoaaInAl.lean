/-
  What has to hold: printed by the evaluator.
-/
import Derived.Test.YtncndnlbiijdoaaInZc
set_option linter.unusedVariables false
/-! What has to hold: printed by the evaluator. -/
set_option linter.unusedVariables false
set_option maxRecDepth 1000000
namespace Go.Proofs.Ytncndnlbiijdoaa.Ev
open Go Go.Proofs
theorem vc_wr (k v : Int) (K : AE → Prop) : funK Try.prog toldV1 100 70 41 [.int .i64 k, .int .i64 v] st0 (fun r _ => K r) =
(  br (k == (1 : Int))
  (br (v != (0 : Int)) (K (AE.returned (Value.int IntKind.i64 (1 : Int))))
  (K (AE.returned (Value.int IntKind.i64 (0 : Int)))))
  (br (k == (2 : Int))
  (br (decide (Int.tmod v (65536 : Int) < (0 : Int)))
  (br (decide (IntKind.wrap IntKind.i64 (Int.tmod v (65536 : Int) + (65536 : Int)) ≥ (32768 : Int)))
  (K
  (AE.returned
  (Value.int IntKind.i64
  (IntKind.wrap IntKind.i64
  (IntKind.wrap IntKind.i64 (Int.tmod v (65536 : Int) + (65536 : Int)) - (65536 : Int))))))
  (K (AE.returned (Value.int IntKind.i64 (IntKind.wrap IntKind.i64 (Int.tmod v (65536 : Int) + (65536 : Int)))))))
  (br (decide (Int.tmod v (65536 : Int) ≥ (32768 : Int)))
  (K (AE.returned (Value.int IntKind.i64 (IntKind.wrap IntKind.i64 (Int.tmod v (65536 : Int) - (65536 : Int))))))
  (K (AE.returned (Value.int IntKind.i64 (Int.tmod v (65536 : Int)))))))
  (br (k == (3 : Int))
  (br (decide (Int.tmod v (4294967296 : Int) < (0 : Int)))
  (br
  (decide (IntKind.wrap IntKind.i64 (Int.tmod v (4294967296 : Int) + (4294967296 : Int)) ≥ (2147483648 : Int)))
  (K
  (AE.returned
  (Value.int IntKind.i64
  (IntKind.wrap IntKind.i64
  (IntKind.wrap IntKind.i64 (Int.tmod v (4294967296 : Int) + (4294967296 : Int)) -
  (4294967296 : Int))))))
  (K
  (AE.returned
  (Value.int IntKind.i64 (IntKind.wrap IntKind.i64 (Int.tmod v (4294967296 : Int) + (4294967296 : Int)))))))
  (br (decide (Int.tmod v (4294967296 : Int) ≥ (2147483648 : Int)))
  (K
  (AE.returned
  (Value.int IntKind.i64 (IntKind.wrap IntKind.i64 (Int.tmod v (4294967296 : Int) - (4294967296 : Int))))))
  (K (AE.returned (Value.int IntKind.i64 (Int.tmod v (4294967296 : Int)))))))
  (br (k == (4 : Int)) (K (AE.returned (Value.int IntKind.i64 v)))
  (K (AE.returned (Value.int IntKind.i64 (0 : Int)))))))) := by kernel_rfl
end Go.Proofs.Ytncndnlbiijdoaa.Ev

/-! ref1.Wrap: told to the evaluator. -/
set_option linter.unusedVariables false
set_option linter.unusedSimpArgs false
set_option maxRecDepth 100000
namespace Go.Proofs.Ytncndnlbiijdoaa.Ev
open Go Go.Proofs Go.RowKit

def wrF (k v : Int) : Int := if k = 1 then (if v = 0 then 0 else 1) else if k = 2 then IntKind.wrap .i16 v else if k = 3 then IntKind.wrap .i32 v else if k = 4 then v else 0
theorem tmodL (v : Int) (n : Int) (hn : 0 < n) : Int.tmod v n = if 0 ≤ v then v % n else -((-v) % n) := by
  by_cases h : 0 ≤ v
  · rw [if_pos h]; exact Int.tmod_eq_emod_of_nonneg h
  · rw [if_neg h]
    have : Int.tmod (-(-v)) n = -(Int.tmod (-v) n) := Int.neg_tmod _ _
    rw [Int.neg_neg] at this
    rw [this, Int.tmod_eq_emod_of_nonneg (by omega)]
theorem wr_main (k v : Int) : funK Try.prog toldV1 100 70 41 [.int .i64 k, .int .i64 v] st0 (fun r _ => r = .returned (.int .i64 (wrF k v))) := by
  rw [vc_wr k v fun r => r = .returned (.int .i64 (wrF k v))]
  have t1 := tmodL v 65536 (by omega)
  have t2 := tmodL v 4294967296 (by omega)
  have e1 := wr16 v
  have e2 := wr32 v
  have hw : ∀ x : Int, -9223372036854775808 ≤ x → x < 9223372036854775808 → IntKind.wrap .i64 x = x := fun x h1 h2 => w64 h1 h2
  generalize hA : Int.tmod v 65536 = A at *
  generalize hB : Int.tmod v 4294967296 = B at *
  have a1 : -65536 < A ∧ A < 65536 := by split at t1 <;> omega
  have b1 : -4294967296 < B ∧ B < 4294967296 := by split at t2 <;> omega
  rw [hw (A + 65536) (by omega) (by omega), hw (A - 65536) (by omega) (by omega), hw (A + 65536 - 65536) (by omega) (by omega), hw (B + 4294967296) (by omega) (by omega), hw (B - 4294967296) (by omega) (by omega), hw (B + 4294967296 - 4294967296) (by omega) (by omega)]
  unfold wrF
  rw [e1, e2]
  repeat' (with_reducible refine br_of (fun _ => ?_) (fun _ => ?_))
  all_goals refine congrArg (fun x => AE.returned (.int .i64 x)) ?_
  all_goals simp only [beq_iff_eq, beq_eq_false_iff_ne, bne_iff_ne, bne_eq_false_iff_eq, decide_eq_true_eq, decide_eq_false_iff_not, ne_eq, Decidable.not_not] at *
  all_goals (split at t1 <;> split at t2 <;> (repeat' split) <;> first | rfl | omega)
def wrSpec : List Value → Option Value
  | [.int .i64 k, .int .i64 v] => some (.int .i64 (wrF k v))
  | _ => none
def toldW0 : Told → Told := fun C => C.also 41 wrSpec
noncomputable def toldW1 : Told := toldV1.also 41 wrSpec
theorem toldW1_ok : ToldS Try.prog toldW1 := by
  refine Told.also_ok toldV1_ok ?_
  intro args v hv
  unfold wrSpec at hv
  split at hv
  · rename_i k v
    cases hv
    exact ⟨rfl, rfl, fun w args' ha => sym_is (fuel := 100) (n := 70) follows toldV1_ok (wr_main k v) w args' ha⟩
  · cases hv
end Go.Proofs.Ytncndnlbiijdoaa.Ev

/-! What has to hold: printed by the evaluator. -/
set_option linter.unusedVariables false
set_option maxRecDepth 1000000
namespace Go.Proofs.Ytncndnlbiijdoaa.Ev
open Go Go.Proofs
theorem vc_tr1 (x0 : Int) (c : Nat) (β : Bs) (K : AE → List (Option AObj) → Prop) : lawE Try.prog toldW1 100 20 β (fun _ => 20) (cnOf 1 fun _ => []) (fun _ _ => False) 29 [.int .i64 1, .slice (some ⟨0, 0, some 0⟩) 1 c] (mkS [some (rowO .look ([⟨x0⟩] : List U8))]) (outK K) =
(  K
  (AE.returned
  (Value.tuple
  (Array.mk
  [Value.agg
  (Array.mk
  [Value.int IntKind.i64 (1 : Int),
  Value.int IntKind.i64
  (wrF (1 : Int)
  (IntKind.wrap IntKind.i64 (IntKind.wrap IntKind.u64 ((0 : Int) + IntKind.wrap IntKind.u64 x0)))),
  Value.float FloatKind.f64 0]),
  Value.bool
  ([UInt8.ofBitVec
  (BitVec.ofNat 8
  (Int.toNat
  (IntKind.wrap IntKind.u8
  (Int.tmod
  (IntKind.wrap IntKind.u64
  (wrF (1 : Int)
  (IntKind.wrap IntKind.i64
  (IntKind.wrap IntKind.u64 ((0 : Int) + IntKind.wrap IntKind.u64 x0)))))
  (256 : Int)))))] ==
  [UInt8.ofBitVec (BitVec.ofNat 8 (Int.toNat x0))])])))
  [some (AObj.row Rk.look 1 0 1 (encL [U8.mk x0])),
  some
  (AObj.cells
  [Value.int IntKind.i64 (1 : Int),
  Value.int IntKind.i64
  (wrF (1 : Int)
  (IntKind.wrap IntKind.i64 (IntKind.wrap IntKind.u64 ((0 : Int) + IntKind.wrap IntKind.u64 x0)))),
  Value.float FloatKind.f64 0]
  true 0),
  some
  (AObj.cells
  [Value.int IntKind.i64 (1 : Int),
  Value.int IntKind.i64
  (wrF (1 : Int)
  (IntKind.wrap IntKind.i64 (IntKind.wrap IntKind.u64 ((0 : Int) + IntKind.wrap IntKind.u64 x0)))),
  Value.float FloatKind.f64 0]
  true 0),
  some
  (AObj.cells
  [Value.int IntKind.i64 (1 : Int),
  Value.int IntKind.i64
  (wrF (1 : Int)
  (IntKind.wrap IntKind.i64 (IntKind.wrap IntKind.u64 ((0 : Int) + IntKind.wrap IntKind.u64 x0)))),
  Value.float FloatKind.f64 0]
  true 0),
  some
  (AObj.row Rk.mine 1 0 1
  (putT 0 0
  [Td.sc
  (Value.int IntKind.u8
  (IntKind.wrap IntKind.u8
  (Int.tmod
  (IntKind.wrap IntKind.u64
  (wrF (1 : Int)
  (IntKind.wrap IntKind.i64
  (IntKind.wrap IntKind.u64 ((0 : Int) + IntKind.wrap IntKind.u64 x0)))))
  (256 : Int))))]
  fun x => nthT [Td.sc (Value.int IntKind.u8 (0 : Int))])),
  some
  (AObj.row Rk.mine 1 0 1 fun j =>
  putT 0 0
  [Td.sc
  (Value.int IntKind.u8
  (IntKind.wrap IntKind.u8
  (Int.tmod
  (IntKind.wrap IntKind.u64
  (wrF (1 : Int)
  (IntKind.wrap IntKind.i64
  (IntKind.wrap IntKind.u64 ((0 : Int) + IntKind.wrap IntKind.u64 x0)))))
  (256 : Int))))]
  (fun x => nthT [Td.sc (Value.int IntKind.u8 (0 : Int))]) (0 + j))]) := by kernel_rfl
theorem vc_tr2 (x0 x1 : Int) (c : Nat) (β : Bs) (K : AE → List (Option AObj) → Prop) : lawE Try.prog toldW1 100 20 β (fun _ => 20) (cnOf 1 fun _ => []) (fun _ _ => False) 29 [.int .i64 2, .slice (some ⟨0, 0, some 0⟩) 2 c] (mkS [some (rowO .look ([⟨x0⟩, ⟨x1⟩] : List U8))]) (outK K) =
(  K
  (AE.returned
  (Value.tuple
  (Array.mk
  [Value.agg
  (Array.mk
  [Value.int IntKind.i64 (2 : Int),
  Value.int IntKind.i64
  (wrF (2 : Int)
  (IntKind.wrap IntKind.i64
  (IntKind.wrap IntKind.u64
  (IntKind.wrap IntKind.u64
  (IntKind.wrap IntKind.u64 ((0 : Int) + IntKind.wrap IntKind.u64 x0) * (256 : Int)) +
  IntKind.wrap IntKind.u64 x1)))),
  Value.float FloatKind.f64 0]),
  Value.bool
  ([UInt8.ofBitVec
  (BitVec.ofNat 8
  (Int.toNat
  (IntKind.wrap IntKind.u8
  (Int.tmod
  (IntKind.wrap IntKind.u64
  (Int.tdiv
  (IntKind.wrap IntKind.u64
  (wrF (2 : Int)
  (IntKind.wrap IntKind.i64
  (IntKind.wrap IntKind.u64
  (IntKind.wrap IntKind.u64
  (IntKind.wrap IntKind.u64 ((0 : Int) + IntKind.wrap IntKind.u64 x0) *
  (256 : Int)) +
  IntKind.wrap IntKind.u64 x1)))))
  (256 : Int)))
  (256 : Int))))),
  UInt8.ofBitVec
  (BitVec.ofNat 8
  (Int.toNat
  (IntKind.wrap IntKind.u8
  (Int.tmod
  (IntKind.wrap IntKind.u64
  (wrF (2 : Int)
  (IntKind.wrap IntKind.i64
  (IntKind.wrap IntKind.u64
  (IntKind.wrap IntKind.u64
  (IntKind.wrap IntKind.u64 ((0 : Int) + IntKind.wrap IntKind.u64 x0) *
  (256 : Int)) +
  IntKind.wrap IntKind.u64 x1)))))
  (256 : Int)))))] ==
  [UInt8.ofBitVec (BitVec.ofNat 8 (Int.toNat x0)),
  UInt8.ofBitVec (BitVec.ofNat 8 (Int.toNat x1))])])))
  [some (AObj.row Rk.look 1 0 2 (encL [U8.mk x0, U8.mk x1])),
  some
  (AObj.cells
  [Value.int IntKind.i64 (2 : Int),
  Value.int IntKind.i64
  (wrF (2 : Int)
  (IntKind.wrap IntKind.i64
  (IntKind.wrap IntKind.u64
  (IntKind.wrap IntKind.u64
  (IntKind.wrap IntKind.u64 ((0 : Int) + IntKind.wrap IntKind.u64 x0) * (256 : Int)) +
  IntKind.wrap IntKind.u64 x1)))),
  Value.float FloatKind.f64 0]
  true 0),
  some
  (AObj.cells
  [Value.int IntKind.i64 (2 : Int),
  Value.int IntKind.i64
  (wrF (2 : Int)
  (IntKind.wrap IntKind.i64
  (IntKind.wrap IntKind.u64
  (IntKind.wrap IntKind.u64
  (IntKind.wrap IntKind.u64 ((0 : Int) + IntKind.wrap IntKind.u64 x0) * (256 : Int)) +
  IntKind.wrap IntKind.u64 x1)))),
  Value.float FloatKind.f64 0]
  true 0),
  some
  (AObj.cells
  [Value.int IntKind.i64 (2 : Int),
  Value.int IntKind.i64
  (wrF (2 : Int)
  (IntKind.wrap IntKind.i64
  (IntKind.wrap IntKind.u64
  (IntKind.wrap IntKind.u64
  (IntKind.wrap IntKind.u64 ((0 : Int) + IntKind.wrap IntKind.u64 x0) * (256 : Int)) +
  IntKind.wrap IntKind.u64 x1)))),
  Value.float FloatKind.f64 0]
  true 0),
  some
  (AObj.row Rk.mine 1 0 2
  (putT 0 0
  [Td.sc
  (Value.int IntKind.u8
  (IntKind.wrap IntKind.u8
  (Int.tmod
  (IntKind.wrap IntKind.u64
  (Int.tdiv
  (IntKind.wrap IntKind.u64
  (wrF (2 : Int)
  (IntKind.wrap IntKind.i64
  (IntKind.wrap IntKind.u64
  (IntKind.wrap IntKind.u64
  (IntKind.wrap IntKind.u64 ((0 : Int) + IntKind.wrap IntKind.u64 x0) * (256 : Int)) +
  IntKind.wrap IntKind.u64 x1)))))
  (256 : Int)))
  (256 : Int))))]
  (putT 1 0
  [Td.sc
  (Value.int IntKind.u8
  (IntKind.wrap IntKind.u8
  (Int.tmod
  (IntKind.wrap IntKind.u64
  (wrF (2 : Int)
  (IntKind.wrap IntKind.i64
  (IntKind.wrap IntKind.u64
  (IntKind.wrap IntKind.u64
  (IntKind.wrap IntKind.u64 ((0 : Int) + IntKind.wrap IntKind.u64 x0) * (256 : Int)) +
  IntKind.wrap IntKind.u64 x1)))))
  (256 : Int))))]
  fun x => nthT [Td.sc (Value.int IntKind.u8 (0 : Int))]))),
  some
  (AObj.row Rk.mine 1 0 2 fun j =>
  putT 0 0
  [Td.sc
  (Value.int IntKind.u8
  (IntKind.wrap IntKind.u8
  (Int.tmod
  (IntKind.wrap IntKind.u64
  (Int.tdiv
  (IntKind.wrap IntKind.u64
  (wrF (2 : Int)
  (IntKind.wrap IntKind.i64
  (IntKind.wrap IntKind.u64
  (IntKind.wrap IntKind.u64
  (IntKind.wrap IntKind.u64 ((0 : Int) + IntKind.wrap IntKind.u64 x0) * (256 : Int)) +
  IntKind.wrap IntKind.u64 x1)))))
  (256 : Int)))
  (256 : Int))))]
  (putT 1 0
  [Td.sc
  (Value.int IntKind.u8
  (IntKind.wrap IntKind.u8
  (Int.tmod
  (IntKind.wrap IntKind.u64
  (wrF (2 : Int)
  (IntKind.wrap IntKind.i64
  (IntKind.wrap IntKind.u64
  (IntKind.wrap IntKind.u64
  (IntKind.wrap IntKind.u64 ((0 : Int) + IntKind.wrap IntKind.u64 x0) * (256 : Int)) +
  IntKind.wrap IntKind.u64 x1)))))
  (256 : Int))))]
  fun x => nthT [Td.sc (Value.int IntKind.u8 (0 : Int))])
  (0 + j))]) := by kernel_rfl
theorem vc_tr3 (x0 x1 x2 x3 : Int) (c : Nat) (β : Bs) (K : AE → List (Option AObj) → Prop) : lawE Try.prog toldW1 100 20 β (fun _ => 20) (cnOf 1 fun _ => []) (fun _ _ => False) 29 [.int .i64 3, .slice (some ⟨0, 0, some 0⟩) 4 c] (mkS [some (rowO .look ([⟨x0⟩, ⟨x1⟩, ⟨x2⟩, ⟨x3⟩] : List U8))]) (outK K) =
(  K
  (AE.returned
  (Value.tuple
  (Array.mk
  [Value.agg
  (Array.mk
  [Value.int IntKind.i64 (3 : Int),
  Value.int IntKind.i64
  (wrF (3 : Int)
  (IntKind.wrap IntKind.i64
  (IntKind.wrap IntKind.u64
  (IntKind.wrap IntKind.u64
  (IntKind.wrap IntKind.u64
  (IntKind.wrap IntKind.u64
  (IntKind.wrap IntKind.u64
  (IntKind.wrap IntKind.u64
  (IntKind.wrap IntKind.u64 ((0 : Int) + IntKind.wrap IntKind.u64 x0) *
  (256 : Int)) +
  IntKind.wrap IntKind.u64 x1) *
  (256 : Int)) +
  IntKind.wrap IntKind.u64 x2) *
  (256 : Int)) +
  IntKind.wrap IntKind.u64 x3)))),
  Value.float FloatKind.f64 0]),
  Value.bool
  ([UInt8.ofBitVec
  (BitVec.ofNat 8
  (Int.toNat
  (IntKind.wrap IntKind.u8
  (Int.tmod
  (IntKind.wrap IntKind.u64
  (Int.tdiv
  (IntKind.wrap IntKind.u64
  (Int.tdiv
  (IntKind.wrap IntKind.u64
  (Int.tdiv
  (IntKind.wrap IntKind.u64
  (wrF (3 : Int)
  (IntKind.wrap IntKind.i64
  (IntKind.wrap IntKind.u64
  (IntKind.wrap IntKind.u64
  (IntKind.wrap IntKind.u64
  (IntKind.wrap IntKind.u64
  (IntKind.wrap IntKind.u64
  (IntKind.wrap IntKind.u64
  (IntKind.wrap IntKind.u64
  ((0 : Int) + IntKind.wrap IntKind.u64 x0) *
  (256 : Int)) +
  IntKind.wrap IntKind.u64 x1) *
  (256 : Int)) +
  IntKind.wrap IntKind.u64 x2) *
  (256 : Int)) +
  IntKind.wrap IntKind.u64 x3)))))
  (256 : Int)))
  (256 : Int)))
  (256 : Int)))
  (256 : Int))))),
  UInt8.ofBitVec
  (BitVec.ofNat 8
  (Int.toNat
  (IntKind.wrap IntKind.u8
  (Int.tmod
  (IntKind.wrap IntKind.u64
  (Int.tdiv
  (IntKind.wrap IntKind.u64
  (Int.tdiv
  (IntKind.wrap IntKind.u64
  (wrF (3 : Int)
  (IntKind.wrap IntKind.i64
  (IntKind.wrap IntKind.u64
  (IntKind.wrap IntKind.u64
  (IntKind.wrap IntKind.u64
  (IntKind.wrap IntKind.u64
  (IntKind.wrap IntKind.u64
  (IntKind.wrap IntKind.u64
  (IntKind.wrap IntKind.u64
  ((0 : Int) + IntKind.wrap IntKind.u64 x0) *
  (256 : Int)) +
  IntKind.wrap IntKind.u64 x1) *
  (256 : Int)) +
  IntKind.wrap IntKind.u64 x2) *
  (256 : Int)) +
  IntKind.wrap IntKind.u64 x3)))))
  (256 : Int)))
  (256 : Int)))
  (256 : Int))))),
  UInt8.ofBitVec
  (BitVec.ofNat 8
  (Int.toNat
  (IntKind.wrap IntKind.u8
  (Int.tmod
  (IntKind.wrap IntKind.u64
  (Int.tdiv
  (IntKind.wrap IntKind.u64
  (wrF (3 : Int)
  (IntKind.wrap IntKind.i64
  (IntKind.wrap IntKind.u64
  (IntKind.wrap IntKind.u64
  (IntKind.wrap IntKind.u64
  (IntKind.wrap IntKind.u64
  (IntKind.wrap IntKind.u64
  (IntKind.wrap IntKind.u64
  (IntKind.wrap IntKind.u64
  ((0 : Int) + IntKind.wrap IntKind.u64 x0) *
  (256 : Int)) +
  IntKind.wrap IntKind.u64 x1) *
  (256 : Int)) +
  IntKind.wrap IntKind.u64 x2) *
  (256 : Int)) +
  IntKind.wrap IntKind.u64 x3)))))
  (256 : Int)))
  (256 : Int))))),
  UInt8.ofBitVec
  (BitVec.ofNat 8
  (Int.toNat
  (IntKind.wrap IntKind.u8
  (Int.tmod
  (IntKind.wrap IntKind.u64
  (wrF (3 : Int)
  (IntKind.wrap IntKind.i64
  (IntKind.wrap IntKind.u64
  (IntKind.wrap IntKind.u64
  (IntKind.wrap IntKind.u64
  (IntKind.wrap IntKind.u64
  (IntKind.wrap IntKind.u64
  (IntKind.wrap IntKind.u64
  (IntKind.wrap IntKind.u64
  ((0 : Int) + IntKind.wrap IntKind.u64 x0) *
  (256 : Int)) +
  IntKind.wrap IntKind.u64 x1) *
  (256 : Int)) +
  IntKind.wrap IntKind.u64 x2) *
  (256 : Int)) +
  IntKind.wrap IntKind.u64 x3)))))
  (256 : Int)))))] ==
  [UInt8.ofBitVec (BitVec.ofNat 8 (Int.toNat x0)),
  UInt8.ofBitVec (BitVec.ofNat 8 (Int.toNat x1)),
  UInt8.ofBitVec (BitVec.ofNat 8 (Int.toNat x2)),
  UInt8.ofBitVec (BitVec.ofNat 8 (Int.toNat x3))])])))
  [some (AObj.row Rk.look 1 0 4 (encL [U8.mk x0, U8.mk x1, U8.mk x2, U8.mk x3])),
  some
  (AObj.cells
  [Value.int IntKind.i64 (3 : Int),
  Value.int IntKind.i64
  (wrF (3 : Int)
  (IntKind.wrap IntKind.i64
  (IntKind.wrap IntKind.u64
  (IntKind.wrap IntKind.u64
  (IntKind.wrap IntKind.u64
  (IntKind.wrap IntKind.u64
  (IntKind.wrap IntKind.u64
  (IntKind.wrap IntKind.u64
  (IntKind.wrap IntKind.u64 ((0 : Int) + IntKind.wrap IntKind.u64 x0) *
  (256 : Int)) +
  IntKind.wrap IntKind.u64 x1) *
  (256 : Int)) +
  IntKind.wrap IntKind.u64 x2) *
  (256 : Int)) +
  IntKind.wrap IntKind.u64 x3)))),
  Value.float FloatKind.f64 0]
  true 0),
  some
  (AObj.cells
  [Value.int IntKind.i64 (3 : Int),
  Value.int IntKind.i64
  (wrF (3 : Int)
  (IntKind.wrap IntKind.i64
  (IntKind.wrap IntKind.u64
  (IntKind.wrap IntKind.u64
  (IntKind.wrap IntKind.u64
  (IntKind.wrap IntKind.u64
  (IntKind.wrap IntKind.u64
  (IntKind.wrap IntKind.u64
  (IntKind.wrap IntKind.u64 ((0 : Int) + IntKind.wrap IntKind.u64 x0) *
  (256 : Int)) +
  IntKind.wrap IntKind.u64 x1) *
  (256 : Int)) +
  IntKind.wrap IntKind.u64 x2) *
  (256 : Int)) +
  IntKind.wrap IntKind.u64 x3)))),
  Value.float FloatKind.f64 0]
  true 0),
  some
  (AObj.cells
  [Value.int IntKind.i64 (3 : Int),
  Value.int IntKind.i64
  (wrF (3 : Int)
  (IntKind.wrap IntKind.i64
  (IntKind.wrap IntKind.u64
  (IntKind.wrap IntKind.u64
  (IntKind.wrap IntKind.u64
  (IntKind.wrap IntKind.u64
  (IntKind.wrap IntKind.u64
  (IntKind.wrap IntKind.u64
  (IntKind.wrap IntKind.u64 ((0 : Int) + IntKind.wrap IntKind.u64 x0) *
  (256 : Int)) +
  IntKind.wrap IntKind.u64 x1) *
  (256 : Int)) +
  IntKind.wrap IntKind.u64 x2) *
  (256 : Int)) +
  IntKind.wrap IntKind.u64 x3)))),
  Value.float FloatKind.f64 0]
  true 0),
  some
  (AObj.row Rk.mine 1 0 4
  (putT 0 0
  [Td.sc
  (Value.int IntKind.u8
  (IntKind.wrap IntKind.u8
  (Int.tmod
  (IntKind.wrap IntKind.u64
  (Int.tdiv
  (IntKind.wrap IntKind.u64
  (Int.tdiv
  (IntKind.wrap IntKind.u64
  (Int.tdiv
  (IntKind.wrap IntKind.u64
  (wrF (3 : Int)
  (IntKind.wrap IntKind.i64
  (IntKind.wrap IntKind.u64
  (IntKind.wrap IntKind.u64
  (IntKind.wrap IntKind.u64
  (IntKind.wrap IntKind.u64
  (IntKind.wrap IntKind.u64
  (IntKind.wrap IntKind.u64
  (IntKind.wrap IntKind.u64
  ((0 : Int) + IntKind.wrap IntKind.u64 x0) *
  (256 : Int)) +
  IntKind.wrap IntKind.u64 x1) *
  (256 : Int)) +
  IntKind.wrap IntKind.u64 x2) *
  (256 : Int)) +
  IntKind.wrap IntKind.u64 x3)))))
  (256 : Int)))
  (256 : Int)))
  (256 : Int)))
  (256 : Int))))]
  (putT 1 0
  [Td.sc
  (Value.int IntKind.u8
  (IntKind.wrap IntKind.u8
  (Int.tmod
  (IntKind.wrap IntKind.u64
  (Int.tdiv
  (IntKind.wrap IntKind.u64
  (Int.tdiv
  (IntKind.wrap IntKind.u64
  (wrF (3 : Int)
  (IntKind.wrap IntKind.i64
  (IntKind.wrap IntKind.u64
  (IntKind.wrap IntKind.u64
  (IntKind.wrap IntKind.u64
  (IntKind.wrap IntKind.u64
  (IntKind.wrap IntKind.u64
  (IntKind.wrap IntKind.u64
  (IntKind.wrap IntKind.u64
  ((0 : Int) + IntKind.wrap IntKind.u64 x0) *
  (256 : Int)) +
  IntKind.wrap IntKind.u64 x1) *
  (256 : Int)) +
  IntKind.wrap IntKind.u64 x2) *
  (256 : Int)) +
  IntKind.wrap IntKind.u64 x3)))))
  (256 : Int)))
  (256 : Int)))
  (256 : Int))))]
  (putT 2 0
  [Td.sc
  (Value.int IntKind.u8
  (IntKind.wrap IntKind.u8
  (Int.tmod
  (IntKind.wrap IntKind.u64
  (Int.tdiv
  (IntKind.wrap IntKind.u64
  (wrF (3 : Int)
  (IntKind.wrap IntKind.i64
  (IntKind.wrap IntKind.u64
  (IntKind.wrap IntKind.u64
  (IntKind.wrap IntKind.u64
  (IntKind.wrap IntKind.u64
  (IntKind.wrap IntKind.u64
  (IntKind.wrap IntKind.u64
  (IntKind.wrap IntKind.u64
  ((0 : Int) + IntKind.wrap IntKind.u64 x0) *
  (256 : Int)) +
  IntKind.wrap IntKind.u64 x1) *
  (256 : Int)) +
  IntKind.wrap IntKind.u64 x2) *
  (256 : Int)) +
  IntKind.wrap IntKind.u64 x3)))))
  (256 : Int)))
  (256 : Int))))]
  (putT 3 0
  [Td.sc
  (Value.int IntKind.u8
  (IntKind.wrap IntKind.u8
  (Int.tmod
  (IntKind.wrap IntKind.u64
  (wrF (3 : Int)
  (IntKind.wrap IntKind.i64
  (IntKind.wrap IntKind.u64
  (IntKind.wrap IntKind.u64
  (IntKind.wrap IntKind.u64
  (IntKind.wrap IntKind.u64
  (IntKind.wrap IntKind.u64
  (IntKind.wrap IntKind.u64
  (IntKind.wrap IntKind.u64
  ((0 : Int) + IntKind.wrap IntKind.u64 x0) *
  (256 : Int)) +
  IntKind.wrap IntKind.u64 x1) *
  (256 : Int)) +
  IntKind.wrap IntKind.u64 x2) *
  (256 : Int)) +
  IntKind.wrap IntKind.u64 x3)))))
  (256 : Int))))]
  fun x => nthT [Td.sc (Value.int IntKind.u8 (0 : Int))]))))),
  some
  (AObj.row Rk.mine 1 0 4 fun j =>
  putT 0 0
  [Td.sc
  (Value.int IntKind.u8
  (IntKind.wrap IntKind.u8
  (Int.tmod
  (IntKind.wrap IntKind.u64
  (Int.tdiv
  (IntKind.wrap IntKind.u64
  (Int.tdiv
  (IntKind.wrap IntKind.u64
  (Int.tdiv
  (IntKind.wrap IntKind.u64
  (wrF (3 : Int)
  (IntKind.wrap IntKind.i64
  (IntKind.wrap IntKind.u64
  (IntKind.wrap IntKind.u64
  (IntKind.wrap IntKind.u64
  (IntKind.wrap IntKind.u64
  (IntKind.wrap IntKind.u64
  (IntKind.wrap IntKind.u64
  (IntKind.wrap IntKind.u64
  ((0 : Int) + IntKind.wrap IntKind.u64 x0) *
  (256 : Int)) +
  IntKind.wrap IntKind.u64 x1) *
  (256 : Int)) +
  IntKind.wrap IntKind.u64 x2) *
  (256 : Int)) +
  IntKind.wrap IntKind.u64 x3)))))
  (256 : Int)))
  (256 : Int)))
  (256 : Int)))
  (256 : Int))))]
  (putT 1 0
  [Td.sc
  (Value.int IntKind.u8
  (IntKind.wrap IntKind.u8
  (Int.tmod
  (IntKind.wrap IntKind.u64
  (Int.tdiv
  (IntKind.wrap IntKind.u64
  (Int.tdiv
  (IntKind.wrap IntKind.u64
  (wrF (3 : Int)
  (IntKind.wrap IntKind.i64
  (IntKind.wrap IntKind.u64
  (IntKind.wrap IntKind.u64
  (IntKind.wrap IntKind.u64
  (IntKind.wrap IntKind.u64
  (IntKind.wrap IntKind.u64
  (IntKind.wrap IntKind.u64
  (IntKind.wrap IntKind.u64
  ((0 : Int) + IntKind.wrap IntKind.u64 x0) *
  (256 : Int)) +
  IntKind.wrap IntKind.u64 x1) *
  (256 : Int)) +
  IntKind.wrap IntKind.u64 x2) *
  (256 : Int)) +
  IntKind.wrap IntKind.u64 x3)))))
  (256 : Int)))
  (256 : Int)))
  (256 : Int))))]
  (putT 2 0
  [Td.sc
  (Value.int IntKind.u8
  (IntKind.wrap IntKind.u8
  (Int.tmod
  (IntKind.wrap IntKind.u64
  (Int.tdiv
  (IntKind.wrap IntKind.u64
  (wrF (3 : Int)
  (IntKind.wrap IntKind.i64
  (IntKind.wrap IntKind.u64
  (IntKind.wrap IntKind.u64
  (IntKind.wrap IntKind.u64
  (IntKind.wrap IntKind.u64
  (IntKind.wrap IntKind.u64
  (IntKind.wrap IntKind.u64
  (IntKind.wrap IntKind.u64
  ((0 : Int) + IntKind.wrap IntKind.u64 x0) *
  (256 : Int)) +
  IntKind.wrap IntKind.u64 x1) *
  (256 : Int)) +
  IntKind.wrap IntKind.u64 x2) *
  (256 : Int)) +
  IntKind.wrap IntKind.u64 x3)))))
  (256 : Int)))
  (256 : Int))))]
  (putT 3 0
  [Td.sc
  (Value.int IntKind.u8
  (IntKind.wrap IntKind.u8
  (Int.tmod
  (IntKind.wrap IntKind.u64
  (wrF (3 : Int)
  (IntKind.wrap IntKind.i64
  (IntKind.wrap IntKind.u64
  (IntKind.wrap IntKind.u64
  (IntKind.wrap IntKind.u64
  (IntKind.wrap IntKind.u64
  (IntKind.wrap IntKind.u64
  (IntKind.wrap IntKind.u64
  (IntKind.wrap IntKind.u64
  ((0 : Int) + IntKind.wrap IntKind.u64 x0) *
  (256 : Int)) +
  IntKind.wrap IntKind.u64 x1) *
  (256 : Int)) +
  IntKind.wrap IntKind.u64 x2) *
  (256 : Int)) +
  IntKind.wrap IntKind.u64 x3)))))
  (256 : Int))))]
  fun x => nthT [Td.sc (Value.int IntKind.u8 (0 : Int))])))
  (0 + j))]) := by kernel_rfl
theorem vc_tr4 (x0 x1 x2 x3 x4 x5 x6 x7 : Int) (c : Nat) (β : Bs) (K : AE → List (Option AObj) → Prop) : lawE Try.prog toldW1 100 20 β (fun _ => 20) (cnOf 1 fun _ => []) (fun _ _ => False) 29 [.int .i64 4, .slice (some ⟨0, 0, some 0⟩) 8 c] (mkS [some (rowO .look ([⟨x0⟩, ⟨x1⟩, ⟨x2⟩, ⟨x3⟩, ⟨x4⟩, ⟨x5⟩, ⟨x6⟩, ⟨x7⟩] : List U8))]) (outK K) =
(  K
  (AE.returned
  (Value.tuple
  (Array.mk
  [Value.agg
  (Array.mk
  [Value.int IntKind.i64 (4 : Int),
  Value.int IntKind.i64
  (wrF (4 : Int)
  (IntKind.wrap IntKind.i64
  (IntKind.wrap IntKind.u64
  (IntKind.wrap IntKind.u64
  (IntKind.wrap IntKind.u64
  (IntKind.wrap IntKind.u64
  (IntKind.wrap IntKind.u64
  (IntKind.wrap IntKind.u64
  (IntKind.wrap IntKind.u64
  (IntKind.wrap IntKind.u64
  (IntKind.wrap IntKind.u64
  (IntKind.wrap IntKind.u64
  (IntKind.wrap IntKind.u64
  (IntKind.wrap IntKind.u64
  (IntKind.wrap IntKind.u64
  (IntKind.wrap IntKind.u64
  (IntKind.wrap IntKind.u64
  ((0 : Int) +
  IntKind.wrap IntKind.u64 x0) *
  (256 : Int)) +
  IntKind.wrap IntKind.u64 x1) *
  (256 : Int)) +
  IntKind.wrap IntKind.u64 x2) *
  (256 : Int)) +
  IntKind.wrap IntKind.u64 x3) *
  (256 : Int)) +
  IntKind.wrap IntKind.u64 x4) *
  (256 : Int)) +
  IntKind.wrap IntKind.u64 x5) *
  (256 : Int)) +
  IntKind.wrap IntKind.u64 x6) *
  (256 : Int)) +
  IntKind.wrap IntKind.u64 x7)))),
  Value.float FloatKind.f64 0]),
  Value.bool
  ([UInt8.ofBitVec
  (BitVec.ofNat 8
  (Int.toNat
  (IntKind.wrap IntKind.u8
  (Int.tmod
  (IntKind.wrap IntKind.u64
  (Int.tdiv
  (IntKind.wrap IntKind.u64
  (Int.tdiv
  (IntKind.wrap IntKind.u64
  (Int.tdiv
  (IntKind.wrap IntKind.u64
  (Int.tdiv
  (IntKind.wrap IntKind.u64
  (Int.tdiv
  (IntKind.wrap IntKind.u64
  (Int.tdiv
  (IntKind.wrap IntKind.u64
  (Int.tdiv
  (IntKind.wrap IntKind.u64
  (wrF (4 : Int)
  (IntKind.wrap IntKind.i64
  (IntKind.wrap IntKind.u64
  (IntKind.wrap IntKind.u64
  (IntKind.wrap IntKind.u64
  (IntKind.wrap IntKind.u64
  (IntKind.wrap IntKind.u64
  (IntKind.wrap IntKind.u64
  (IntKind.wrap IntKind.u64
  (IntKind.wrap IntKind.u64
  (IntKind.wrap IntKind.u64
  (IntKind.wrap IntKind.u64
  (IntKind.wrap
  IntKind.u64
  (IntKind.wrap
  IntKind.u64
  (IntKind.wrap
  IntKind.u64
  (IntKind.wrap
  IntKind.u64
  (IntKind.wrap
  IntKind.u64
  ((0 :
  Int) +
  IntKind.wrap
  IntKind.u64
  x0) *
  (256 :
  Int)) +
  IntKind.wrap
  IntKind.u64
  x1) *
  (256 :
  Int)) +
  IntKind.wrap
  IntKind.u64
  x2) *
  (256 : Int)) +
  IntKind.wrap IntKind.u64
  x3) *
  (256 : Int)) +
  IntKind.wrap IntKind.u64 x4) *
  (256 : Int)) +
  IntKind.wrap IntKind.u64 x5) *
  (256 : Int)) +
  IntKind.wrap IntKind.u64 x6) *
  (256 : Int)) +
  IntKind.wrap IntKind.u64 x7)))))
  (256 : Int)))
  (256 : Int)))
  (256 : Int)))
  (256 : Int)))
  (256 : Int)))
  (256 : Int)))
  (256 : Int)))
  (256 : Int))))),
  UInt8.ofBitVec
  (BitVec.ofNat 8
  (Int.toNat
  (IntKind.wrap IntKind.u8
  (Int.tmod
  (IntKind.wrap IntKind.u64
  (Int.tdiv
  (IntKind.wrap IntKind.u64
  (Int.tdiv
  (IntKind.wrap IntKind.u64
  (Int.tdiv
  (IntKind.wrap IntKind.u64
  (Int.tdiv
  (IntKind.wrap IntKind.u64
  (Int.tdiv
  (IntKind.wrap IntKind.u64
  (Int.tdiv
  (IntKind.wrap IntKind.u64
  (wrF (4 : Int)
  (IntKind.wrap IntKind.i64
  (IntKind.wrap IntKind.u64
  (IntKind.wrap IntKind.u64
  (IntKind.wrap IntKind.u64
  (IntKind.wrap IntKind.u64
  (IntKind.wrap IntKind.u64
  (IntKind.wrap IntKind.u64
  (IntKind.wrap IntKind.u64
  (IntKind.wrap IntKind.u64
  (IntKind.wrap IntKind.u64
  (IntKind.wrap IntKind.u64
  (IntKind.wrap IntKind.u64
  (IntKind.wrap
  IntKind.u64
  (IntKind.wrap
  IntKind.u64
  (IntKind.wrap
  IntKind.u64
  (IntKind.wrap
  IntKind.u64
  ((0 :
  Int) +
  IntKind.wrap
  IntKind.u64
  x0) *
  (256 :
  Int)) +
  IntKind.wrap
  IntKind.u64
  x1) *
  (256 : Int)) +
  IntKind.wrap
  IntKind.u64 x2) *
  (256 : Int)) +
  IntKind.wrap IntKind.u64
  x3) *
  (256 : Int)) +
  IntKind.wrap IntKind.u64 x4) *
  (256 : Int)) +
  IntKind.wrap IntKind.u64 x5) *
  (256 : Int)) +
  IntKind.wrap IntKind.u64 x6) *
  (256 : Int)) +
  IntKind.wrap IntKind.u64 x7)))))
  (256 : Int)))
  (256 : Int)))
  (256 : Int)))
  (256 : Int)))
  (256 : Int)))
  (256 : Int)))
  (256 : Int))))),
  UInt8.ofBitVec
  (BitVec.ofNat 8
  (Int.toNat
  (IntKind.wrap IntKind.u8
  (Int.tmod
  (IntKind.wrap IntKind.u64
  (Int.tdiv
  (IntKind.wrap IntKind.u64
  (Int.tdiv
  (IntKind.wrap IntKind.u64
  (Int.tdiv
  (IntKind.wrap IntKind.u64
  (Int.tdiv
  (IntKind.wrap IntKind.u64
  (Int.tdiv
  (IntKind.wrap IntKind.u64
  (wrF (4 : Int)
  (IntKind.wrap IntKind.i64
  (IntKind.wrap IntKind.u64
  (IntKind.wrap IntKind.u64
  (IntKind.wrap IntKind.u64
  (IntKind.wrap IntKind.u64
  (IntKind.wrap IntKind.u64
  (IntKind.wrap IntKind.u64
  (IntKind.wrap IntKind.u64
  (IntKind.wrap IntKind.u64
  (IntKind.wrap IntKind.u64
  (IntKind.wrap IntKind.u64
  (IntKind.wrap IntKind.u64
  (IntKind.wrap IntKind.u64
  (IntKind.wrap
  IntKind.u64
  (IntKind.wrap
  IntKind.u64
  (IntKind.wrap
  IntKind.u64
  ((0 :
  Int) +
  IntKind.wrap
  IntKind.u64
  x0) *
  (256 :
  Int)) +
  IntKind.wrap
  IntKind.u64
  x1) *
  (256 : Int)) +
  IntKind.wrap IntKind.u64
  x2) *
  (256 : Int)) +
  IntKind.wrap IntKind.u64 x3) *
  (256 : Int)) +
  IntKind.wrap IntKind.u64 x4) *
  (256 : Int)) +
  IntKind.wrap IntKind.u64 x5) *
  (256 : Int)) +
  IntKind.wrap IntKind.u64 x6) *
  (256 : Int)) +
  IntKind.wrap IntKind.u64 x7)))))
  (256 : Int)))
  (256 : Int)))
  (256 : Int)))
  (256 : Int)))
  (256 : Int)))
  (256 : Int))))),
  UInt8.ofBitVec
  (BitVec.ofNat 8
  (Int.toNat
  (IntKind.wrap IntKind.u8
  (Int.tmod
  (IntKind.wrap IntKind.u64
  (Int.tdiv
  (IntKind.wrap IntKind.u64
  (Int.tdiv
  (IntKind.wrap IntKind.u64
  (Int.tdiv
  (IntKind.wrap IntKind.u64
  (Int.tdiv
  (IntKind.wrap IntKind.u64
  (wrF (4 : Int)
  (IntKind.wrap IntKind.i64
  (IntKind.wrap IntKind.u64
  (IntKind.wrap IntKind.u64
  (IntKind.wrap IntKind.u64
  (IntKind.wrap IntKind.u64
  (IntKind.wrap IntKind.u64
  (IntKind.wrap IntKind.u64
  (IntKind.wrap IntKind.u64
  (IntKind.wrap IntKind.u64
  (IntKind.wrap IntKind.u64
  (IntKind.wrap IntKind.u64
  (IntKind.wrap IntKind.u64
  (IntKind.wrap IntKind.u64
  (IntKind.wrap IntKind.u64
  (IntKind.wrap
  IntKind.u64
  (IntKind.wrap
  IntKind.u64
  ((0 : Int) +
  IntKind.wrap
  IntKind.u64
  x0) *
  (256 : Int)) +
  IntKind.wrap
  IntKind.u64 x1) *
  (256 : Int)) +
  IntKind.wrap IntKind.u64
  x2) *
  (256 : Int)) +
  IntKind.wrap IntKind.u64 x3) *
  (256 : Int)) +
  IntKind.wrap IntKind.u64 x4) *
  (256 : Int)) +
  IntKind.wrap IntKind.u64 x5) *
  (256 : Int)) +
  IntKind.wrap IntKind.u64 x6) *
  (256 : Int)) +
  IntKind.wrap IntKind.u64 x7)))))
  (256 : Int)))
  (256 : Int)))
  (256 : Int)))
  (256 : Int)))
  (256 : Int))))),
  UInt8.ofBitVec
  (BitVec.ofNat 8
  (Int.toNat
  (IntKind.wrap IntKind.u8
  (Int.tmod
  (IntKind.wrap IntKind.u64
  (Int.tdiv
  (IntKind.wrap IntKind.u64
  (Int.tdiv
  (IntKind.wrap IntKind.u64
  (Int.tdiv
  (IntKind.wrap IntKind.u64
  (wrF (4 : Int)
  (IntKind.wrap IntKind.i64
  (IntKind.wrap IntKind.u64
  (IntKind.wrap IntKind.u64
  (IntKind.wrap IntKind.u64
  (IntKind.wrap IntKind.u64
  (IntKind.wrap IntKind.u64
  (IntKind.wrap IntKind.u64
  (IntKind.wrap IntKind.u64
  (IntKind.wrap IntKind.u64
  (IntKind.wrap IntKind.u64
  (IntKind.wrap IntKind.u64
  (IntKind.wrap IntKind.u64
  (IntKind.wrap IntKind.u64
  (IntKind.wrap IntKind.u64
  (IntKind.wrap IntKind.u64
  (IntKind.wrap
  IntKind.u64
  ((0 : Int) +
  IntKind.wrap
  IntKind.u64
  x0) *
  (256 : Int)) +
  IntKind.wrap IntKind.u64
  x1) *
  (256 : Int)) +
  IntKind.wrap IntKind.u64 x2) *
  (256 : Int)) +
  IntKind.wrap IntKind.u64 x3) *
  (256 : Int)) +
  IntKind.wrap IntKind.u64 x4) *
  (256 : Int)) +
  IntKind.wrap IntKind.u64 x5) *
  (256 : Int)) +
  IntKind.wrap IntKind.u64 x6) *
  (256 : Int)) +
  IntKind.wrap IntKind.u64 x7)))))
  (256 : Int)))
  (256 : Int)))
  (256 : Int)))
  (256 : Int))))),
  UInt8.ofBitVec
  (BitVec.ofNat 8
  (Int.toNat
  (IntKind.wrap IntKind.u8
  (Int.tmod
  (IntKind.wrap IntKind.u64
  (Int.tdiv
  (IntKind.wrap IntKind.u64
  (Int.tdiv
  (IntKind.wrap IntKind.u64
  (wrF (4 : Int)
  (IntKind.wrap IntKind.i64
  (IntKind.wrap IntKind.u64
  (IntKind.wrap IntKind.u64
  (IntKind.wrap IntKind.u64
  (IntKind.wrap IntKind.u64
  (IntKind.wrap IntKind.u64
  (IntKind.wrap IntKind.u64
  (IntKind.wrap IntKind.u64
  (IntKind.wrap IntKind.u64
  (IntKind.wrap IntKind.u64
  (IntKind.wrap IntKind.u64
  (IntKind.wrap IntKind.u64
  (IntKind.wrap IntKind.u64
  (IntKind.wrap IntKind.u64
  (IntKind.wrap IntKind.u64
  (IntKind.wrap IntKind.u64
  ((0 : Int) +
  IntKind.wrap
  IntKind.u64 x0) *
  (256 : Int)) +
  IntKind.wrap IntKind.u64
  x1) *
  (256 : Int)) +
  IntKind.wrap IntKind.u64 x2) *
  (256 : Int)) +
  IntKind.wrap IntKind.u64 x3) *
  (256 : Int)) +
  IntKind.wrap IntKind.u64 x4) *
  (256 : Int)) +
  IntKind.wrap IntKind.u64 x5) *
  (256 : Int)) +
  IntKind.wrap IntKind.u64 x6) *
  (256 : Int)) +
  IntKind.wrap IntKind.u64 x7)))))
  (256 : Int)))
  (256 : Int)))
  (256 : Int))))),
  UInt8.ofBitVec
  (BitVec.ofNat 8
  (Int.toNat
  (IntKind.wrap IntKind.u8
  (Int.tmod
  (IntKind.wrap IntKind.u64
  (Int.tdiv
  (IntKind.wrap IntKind.u64
  (wrF (4 : Int)
  (IntKind.wrap IntKind.i64
  (IntKind.wrap IntKind.u64
  (IntKind.wrap IntKind.u64
  (IntKind.wrap IntKind.u64
  (IntKind.wrap IntKind.u64
  (IntKind.wrap IntKind.u64
  (IntKind.wrap IntKind.u64
  (IntKind.wrap IntKind.u64
  (IntKind.wrap IntKind.u64
  (IntKind.wrap IntKind.u64
  (IntKind.wrap IntKind.u64
  (IntKind.wrap IntKind.u64
  (IntKind.wrap IntKind.u64
  (IntKind.wrap IntKind.u64
  (IntKind.wrap IntKind.u64
  (IntKind.wrap IntKind.u64
  ((0 : Int) +
  IntKind.wrap IntKind.u64
  x0) *
  (256 : Int)) +
  IntKind.wrap IntKind.u64 x1) *
  (256 : Int)) +
  IntKind.wrap IntKind.u64 x2) *
  (256 : Int)) +
  IntKind.wrap IntKind.u64 x3) *
  (256 : Int)) +
  IntKind.wrap IntKind.u64 x4) *
  (256 : Int)) +
  IntKind.wrap IntKind.u64 x5) *
  (256 : Int)) +
  IntKind.wrap IntKind.u64 x6) *
  (256 : Int)) +
  IntKind.wrap IntKind.u64 x7)))))
  (256 : Int)))
  (256 : Int))))),
  UInt8.ofBitVec
  (BitVec.ofNat 8
  (Int.toNat
  (IntKind.wrap IntKind.u8
  (Int.tmod
  (IntKind.wrap IntKind.u64
  (wrF (4 : Int)
  (IntKind.wrap IntKind.i64
  (IntKind.wrap IntKind.u64
  (IntKind.wrap IntKind.u64
  (IntKind.wrap IntKind.u64
  (IntKind.wrap IntKind.u64
  (IntKind.wrap IntKind.u64
  (IntKind.wrap IntKind.u64
  (IntKind.wrap IntKind.u64
  (IntKind.wrap IntKind.u64
  (IntKind.wrap IntKind.u64
  (IntKind.wrap IntKind.u64
  (IntKind.wrap IntKind.u64
  (IntKind.wrap IntKind.u64
  (IntKind.wrap IntKind.u64
  (IntKind.wrap IntKind.u64
  (IntKind.wrap IntKind.u64
  ((0 : Int) +
  IntKind.wrap IntKind.u64
  x0) *
  (256 : Int)) +
  IntKind.wrap IntKind.u64 x1) *
  (256 : Int)) +
  IntKind.wrap IntKind.u64 x2) *
  (256 : Int)) +
  IntKind.wrap IntKind.u64 x3) *
  (256 : Int)) +
  IntKind.wrap IntKind.u64 x4) *
  (256 : Int)) +
  IntKind.wrap IntKind.u64 x5) *
  (256 : Int)) +
  IntKind.wrap IntKind.u64 x6) *
  (256 : Int)) +
  IntKind.wrap IntKind.u64 x7)))))
  (256 : Int)))))] ==
  [UInt8.ofBitVec (BitVec.ofNat 8 (Int.toNat x0)),
  UInt8.ofBitVec (BitVec.ofNat 8 (Int.toNat x1)),
  UInt8.ofBitVec (BitVec.ofNat 8 (Int.toNat x2)),
  UInt8.ofBitVec (BitVec.ofNat 8 (Int.toNat x3)),
  UInt8.ofBitVec (BitVec.ofNat 8 (Int.toNat x4)),
  UInt8.ofBitVec (BitVec.ofNat 8 (Int.toNat x5)),
  UInt8.ofBitVec (BitVec.ofNat 8 (Int.toNat x6)),
  UInt8.ofBitVec (BitVec.ofNat 8 (Int.toNat x7))])])))
  [some
  (AObj.row Rk.look 1 0 8
  (encL [U8.mk x0, U8.mk x1, U8.mk x2, U8.mk x3, U8.mk x4, U8.mk x5, U8.mk x6, U8.mk x7])),
  some
  (AObj.cells
  [Value.int IntKind.i64 (4 : Int),
  Value.int IntKind.i64
  (wrF (4 : Int)
  (IntKind.wrap IntKind.i64
  (IntKind.wrap IntKind.u64
  (IntKind.wrap IntKind.u64
  (IntKind.wrap IntKind.u64
  (IntKind.wrap IntKind.u64
  (IntKind.wrap IntKind.u64
  (IntKind.wrap IntKind.u64
  (IntKind.wrap IntKind.u64
  (IntKind.wrap IntKind.u64
  (IntKind.wrap IntKind.u64
  (IntKind.wrap IntKind.u64
  (IntKind.wrap IntKind.u64
  (IntKind.wrap IntKind.u64
  (IntKind.wrap IntKind.u64
  (IntKind.wrap IntKind.u64
  (IntKind.wrap IntKind.u64
  ((0 : Int) + IntKind.wrap IntKind.u64 x0) *
  (256 : Int)) +
  IntKind.wrap IntKind.u64 x1) *
  (256 : Int)) +
  IntKind.wrap IntKind.u64 x2) *
  (256 : Int)) +
  IntKind.wrap IntKind.u64 x3) *
  (256 : Int)) +
  IntKind.wrap IntKind.u64 x4) *
  (256 : Int)) +
  IntKind.wrap IntKind.u64 x5) *
  (256 : Int)) +
  IntKind.wrap IntKind.u64 x6) *
  (256 : Int)) +
  IntKind.wrap IntKind.u64 x7)))),
  Value.float FloatKind.f64 0]
  true 0),
  some
  (AObj.cells
  [Value.int IntKind.i64 (4 : Int),
  Value.int IntKind.i64
  (wrF (4 : Int)
  (IntKind.wrap IntKind.i64
  (IntKind.wrap IntKind.u64
  (IntKind.wrap IntKind.u64
  (IntKind.wrap IntKind.u64
  (IntKind.wrap IntKind.u64
  (IntKind.wrap IntKind.u64
  (IntKind.wrap IntKind.u64
  (IntKind.wrap IntKind.u64
  (IntKind.wrap IntKind.u64
  (IntKind.wrap IntKind.u64
  (IntKind.wrap IntKind.u64
  (IntKind.wrap IntKind.u64
  (IntKind.wrap IntKind.u64
  (IntKind.wrap IntKind.u64
  (IntKind.wrap IntKind.u64
  (IntKind.wrap IntKind.u64
  ((0 : Int) + IntKind.wrap IntKind.u64 x0) *
  (256 : Int)) +
  IntKind.wrap IntKind.u64 x1) *
  (256 : Int)) +
  IntKind.wrap IntKind.u64 x2) *
  (256 : Int)) +
  IntKind.wrap IntKind.u64 x3) *
  (256 : Int)) +
  IntKind.wrap IntKind.u64 x4) *
  (256 : Int)) +
  IntKind.wrap IntKind.u64 x5) *
  (256 : Int)) +
  IntKind.wrap IntKind.u64 x6) *
  (256 : Int)) +
  IntKind.wrap IntKind.u64 x7)))),
  Value.float FloatKind.f64 0]
  true 0),
  some
  (AObj.cells
  [Value.int IntKind.i64 (4 : Int),
  Value.int IntKind.i64
  (wrF (4 : Int)
  (IntKind.wrap IntKind.i64
  (IntKind.wrap IntKind.u64
  (IntKind.wrap IntKind.u64
  (IntKind.wrap IntKind.u64
  (IntKind.wrap IntKind.u64
  (IntKind.wrap IntKind.u64
  (IntKind.wrap IntKind.u64
  (IntKind.wrap IntKind.u64
  (IntKind.wrap IntKind.u64
  (IntKind.wrap IntKind.u64
  (IntKind.wrap IntKind.u64
  (IntKind.wrap IntKind.u64
  (IntKind.wrap IntKind.u64
  (IntKind.wrap IntKind.u64
  (IntKind.wrap IntKind.u64
  (IntKind.wrap IntKind.u64
  ((0 : Int) + IntKind.wrap IntKind.u64 x0) *
  (256 : Int)) +
  IntKind.wrap IntKind.u64 x1) *
  (256 : Int)) +
  IntKind.wrap IntKind.u64 x2) *
  (256 : Int)) +
  IntKind.wrap IntKind.u64 x3) *
  (256 : Int)) +
  IntKind.wrap IntKind.u64 x4) *
  (256 : Int)) +
  IntKind.wrap IntKind.u64 x5) *
  (256 : Int)) +
  IntKind.wrap IntKind.u64 x6) *
  (256 : Int)) +
  IntKind.wrap IntKind.u64 x7)))),
  Value.float FloatKind.f64 0]
  true 0),
  some
  (AObj.row Rk.mine 1 0 8
  (putT 0 0
  [Td.sc
  (Value.int IntKind.u8
  (IntKind.wrap IntKind.u8
  (Int.tmod
  (IntKind.wrap IntKind.u64
  (Int.tdiv
  (IntKind.wrap IntKind.u64
  (Int.tdiv
  (IntKind.wrap IntKind.u64
  (Int.tdiv
  (IntKind.wrap IntKind.u64
  (Int.tdiv
  (IntKind.wrap IntKind.u64
  (Int.tdiv
  (IntKind.wrap IntKind.u64
  (Int.tdiv
  (IntKind.wrap IntKind.u64
  (Int.tdiv
  (IntKind.wrap IntKind.u64
  (wrF (4 : Int)
  (IntKind.wrap IntKind.i64
  (IntKind.wrap IntKind.u64
  (IntKind.wrap IntKind.u64
  (IntKind.wrap IntKind.u64
  (IntKind.wrap IntKind.u64
  (IntKind.wrap IntKind.u64
  (IntKind.wrap IntKind.u64
  (IntKind.wrap IntKind.u64
  (IntKind.wrap IntKind.u64
  (IntKind.wrap IntKind.u64
  (IntKind.wrap IntKind.u64
  (IntKind.wrap IntKind.u64
  (IntKind.wrap
  IntKind.u64
  (IntKind.wrap
  IntKind.u64
  (IntKind.wrap
  IntKind.u64
  (IntKind.wrap
  IntKind.u64
  ((0 :
  Int) +
  IntKind.wrap
  IntKind.u64
  x0) *
  (256 :
  Int)) +
  IntKind.wrap
  IntKind.u64
  x1) *
  (256 : Int)) +
  IntKind.wrap
  IntKind.u64 x2) *
  (256 : Int)) +
  IntKind.wrap IntKind.u64 x3) *
  (256 : Int)) +
  IntKind.wrap IntKind.u64 x4) *
  (256 : Int)) +
  IntKind.wrap IntKind.u64 x5) *
  (256 : Int)) +
  IntKind.wrap IntKind.u64 x6) *
  (256 : Int)) +
  IntKind.wrap IntKind.u64 x7)))))
  (256 : Int)))
  (256 : Int)))
  (256 : Int)))
  (256 : Int)))
  (256 : Int)))
  (256 : Int)))
  (256 : Int)))
  (256 : Int))))]
  (putT 1 0
  [Td.sc
  (Value.int IntKind.u8
  (IntKind.wrap IntKind.u8
  (Int.tmod
  (IntKind.wrap IntKind.u64
  (Int.tdiv
  (IntKind.wrap IntKind.u64
  (Int.tdiv
  (IntKind.wrap IntKind.u64
  (Int.tdiv
  (IntKind.wrap IntKind.u64
  (Int.tdiv
  (IntKind.wrap IntKind.u64
  (Int.tdiv
  (IntKind.wrap IntKind.u64
  (Int.tdiv
  (IntKind.wrap IntKind.u64
  (wrF (4 : Int)
  (IntKind.wrap IntKind.i64
  (IntKind.wrap IntKind.u64
  (IntKind.wrap IntKind.u64
  (IntKind.wrap IntKind.u64
  (IntKind.wrap IntKind.u64
  (IntKind.wrap IntKind.u64
  (IntKind.wrap IntKind.u64
  (IntKind.wrap IntKind.u64
  (IntKind.wrap IntKind.u64
  (IntKind.wrap IntKind.u64
  (IntKind.wrap IntKind.u64
  (IntKind.wrap IntKind.u64
  (IntKind.wrap IntKind.u64
  (IntKind.wrap
  IntKind.u64
  (IntKind.wrap
  IntKind.u64
  (IntKind.wrap
  IntKind.u64
  ((0 :
  Int) +
  IntKind.wrap
  IntKind.u64
  x0) *
  (256 :
  Int)) +
  IntKind.wrap
  IntKind.u64
  x1) *
  (256 : Int)) +
  IntKind.wrap IntKind.u64
  x2) *
  (256 : Int)) +
  IntKind.wrap IntKind.u64 x3) *
  (256 : Int)) +
  IntKind.wrap IntKind.u64 x4) *
  (256 : Int)) +
  IntKind.wrap IntKind.u64 x5) *
  (256 : Int)) +
  IntKind.wrap IntKind.u64 x6) *
  (256 : Int)) +
  IntKind.wrap IntKind.u64 x7)))))
  (256 : Int)))
  (256 : Int)))
  (256 : Int)))
  (256 : Int)))
  (256 : Int)))
  (256 : Int)))
  (256 : Int))))]
  (putT 2 0
  [Td.sc
  (Value.int IntKind.u8
  (IntKind.wrap IntKind.u8
  (Int.tmod
  (IntKind.wrap IntKind.u64
  (Int.tdiv
  (IntKind.wrap IntKind.u64
  (Int.tdiv
  (IntKind.wrap IntKind.u64
  (Int.tdiv
  (IntKind.wrap IntKind.u64
  (Int.tdiv
  (IntKind.wrap IntKind.u64
  (Int.tdiv
  (IntKind.wrap IntKind.u64
  (wrF (4 : Int)
  (IntKind.wrap IntKind.i64
  (IntKind.wrap IntKind.u64
  (IntKind.wrap IntKind.u64
  (IntKind.wrap IntKind.u64
  (IntKind.wrap IntKind.u64
  (IntKind.wrap IntKind.u64
  (IntKind.wrap IntKind.u64
  (IntKind.wrap IntKind.u64
  (IntKind.wrap IntKind.u64
  (IntKind.wrap IntKind.u64
  (IntKind.wrap IntKind.u64
  (IntKind.wrap IntKind.u64
  (IntKind.wrap IntKind.u64
  (IntKind.wrap
  IntKind.u64
  (IntKind.wrap
  IntKind.u64
  (IntKind.wrap
  IntKind.u64
  ((0 : Int) +
  IntKind.wrap
  IntKind.u64
  x0) *
  (256 : Int)) +
  IntKind.wrap
  IntKind.u64
  x1) *
  (256 : Int)) +
  IntKind.wrap IntKind.u64
  x2) *
  (256 : Int)) +
  IntKind.wrap IntKind.u64 x3) *
  (256 : Int)) +
  IntKind.wrap IntKind.u64 x4) *
  (256 : Int)) +
  IntKind.wrap IntKind.u64 x5) *
  (256 : Int)) +
  IntKind.wrap IntKind.u64 x6) *
  (256 : Int)) +
  IntKind.wrap IntKind.u64 x7)))))
  (256 : Int)))
  (256 : Int)))
  (256 : Int)))
  (256 : Int)))
  (256 : Int)))
  (256 : Int))))]
  (putT 3 0
  [Td.sc
  (Value.int IntKind.u8
  (IntKind.wrap IntKind.u8
  (Int.tmod
  (IntKind.wrap IntKind.u64
  (Int.tdiv
  (IntKind.wrap IntKind.u64
  (Int.tdiv
  (IntKind.wrap IntKind.u64
  (Int.tdiv
  (IntKind.wrap IntKind.u64
  (Int.tdiv
  (IntKind.wrap IntKind.u64
  (wrF (4 : Int)
  (IntKind.wrap IntKind.i64
  (IntKind.wrap IntKind.u64
  (IntKind.wrap IntKind.u64
  (IntKind.wrap IntKind.u64
  (IntKind.wrap IntKind.u64
  (IntKind.wrap IntKind.u64
  (IntKind.wrap IntKind.u64
  (IntKind.wrap IntKind.u64
  (IntKind.wrap IntKind.u64
  (IntKind.wrap IntKind.u64
  (IntKind.wrap IntKind.u64
  (IntKind.wrap IntKind.u64
  (IntKind.wrap IntKind.u64
  (IntKind.wrap IntKind.u64
  (IntKind.wrap
  IntKind.u64
  (IntKind.wrap
  IntKind.u64
  ((0 : Int) +
  IntKind.wrap
  IntKind.u64
  x0) *
  (256 : Int)) +
  IntKind.wrap
  IntKind.u64 x1) *
  (256 : Int)) +
  IntKind.wrap IntKind.u64
  x2) *
  (256 : Int)) +
  IntKind.wrap IntKind.u64 x3) *
  (256 : Int)) +
  IntKind.wrap IntKind.u64 x4) *
  (256 : Int)) +
  IntKind.wrap IntKind.u64 x5) *
  (256 : Int)) +
  IntKind.wrap IntKind.u64 x6) *
  (256 : Int)) +
  IntKind.wrap IntKind.u64 x7)))))
  (256 : Int)))
  (256 : Int)))
  (256 : Int)))
  (256 : Int)))
  (256 : Int))))]
  (putT 4 0
  [Td.sc
  (Value.int IntKind.u8
  (IntKind.wrap IntKind.u8
  (Int.tmod
  (IntKind.wrap IntKind.u64
  (Int.tdiv
  (IntKind.wrap IntKind.u64
  (Int.tdiv
  (IntKind.wrap IntKind.u64
  (Int.tdiv
  (IntKind.wrap IntKind.u64
  (wrF (4 : Int)
  (IntKind.wrap IntKind.i64
  (IntKind.wrap IntKind.u64
  (IntKind.wrap IntKind.u64
  (IntKind.wrap IntKind.u64
  (IntKind.wrap IntKind.u64
  (IntKind.wrap IntKind.u64
  (IntKind.wrap IntKind.u64
  (IntKind.wrap IntKind.u64
  (IntKind.wrap IntKind.u64
  (IntKind.wrap IntKind.u64
  (IntKind.wrap IntKind.u64
  (IntKind.wrap IntKind.u64
  (IntKind.wrap IntKind.u64
  (IntKind.wrap IntKind.u64
  (IntKind.wrap
  IntKind.u64
  (IntKind.wrap
  IntKind.u64
  ((0 : Int) +
  IntKind.wrap
  IntKind.u64
  x0) *
  (256 : Int)) +
  IntKind.wrap
  IntKind.u64 x1) *
  (256 : Int)) +
  IntKind.wrap IntKind.u64 x2) *
  (256 : Int)) +
  IntKind.wrap IntKind.u64 x3) *
  (256 : Int)) +
  IntKind.wrap IntKind.u64 x4) *
  (256 : Int)) +
  IntKind.wrap IntKind.u64 x5) *
  (256 : Int)) +
  IntKind.wrap IntKind.u64 x6) *
  (256 : Int)) +
  IntKind.wrap IntKind.u64 x7)))))
  (256 : Int)))
  (256 : Int)))
  (256 : Int)))
  (256 : Int))))]
  (putT 5 0
  [Td.sc
  (Value.int IntKind.u8
  (IntKind.wrap IntKind.u8
  (Int.tmod
  (IntKind.wrap IntKind.u64
  (Int.tdiv
  (IntKind.wrap IntKind.u64
  (Int.tdiv
  (IntKind.wrap IntKind.u64
  (wrF (4 : Int)
  (IntKind.wrap IntKind.i64
  (IntKind.wrap IntKind.u64
  (IntKind.wrap IntKind.u64
  (IntKind.wrap IntKind.u64
  (IntKind.wrap IntKind.u64
  (IntKind.wrap IntKind.u64
  (IntKind.wrap IntKind.u64
  (IntKind.wrap IntKind.u64
  (IntKind.wrap IntKind.u64
  (IntKind.wrap IntKind.u64
  (IntKind.wrap IntKind.u64
  (IntKind.wrap IntKind.u64
  (IntKind.wrap IntKind.u64
  (IntKind.wrap IntKind.u64
  (IntKind.wrap IntKind.u64
  (IntKind.wrap
  IntKind.u64
  ((0 : Int) +
  IntKind.wrap
  IntKind.u64
  x0) *
  (256 : Int)) +
  IntKind.wrap IntKind.u64
  x1) *
  (256 : Int)) +
  IntKind.wrap IntKind.u64 x2) *
  (256 : Int)) +
  IntKind.wrap IntKind.u64 x3) *
  (256 : Int)) +
  IntKind.wrap IntKind.u64 x4) *
  (256 : Int)) +
  IntKind.wrap IntKind.u64 x5) *
  (256 : Int)) +
  IntKind.wrap IntKind.u64 x6) *
  (256 : Int)) +
  IntKind.wrap IntKind.u64 x7)))))
  (256 : Int)))
  (256 : Int)))
  (256 : Int))))]
  (putT 6 0
  [Td.sc
  (Value.int IntKind.u8
  (IntKind.wrap IntKind.u8
  (Int.tmod
  (IntKind.wrap IntKind.u64
  (Int.tdiv
  (IntKind.wrap IntKind.u64
  (wrF (4 : Int)
  (IntKind.wrap IntKind.i64
  (IntKind.wrap IntKind.u64
  (IntKind.wrap IntKind.u64
  (IntKind.wrap IntKind.u64
  (IntKind.wrap IntKind.u64
  (IntKind.wrap IntKind.u64
  (IntKind.wrap IntKind.u64
  (IntKind.wrap IntKind.u64
  (IntKind.wrap IntKind.u64
  (IntKind.wrap IntKind.u64
  (IntKind.wrap IntKind.u64
  (IntKind.wrap IntKind.u64
  (IntKind.wrap IntKind.u64
  (IntKind.wrap IntKind.u64
  (IntKind.wrap IntKind.u64
  (IntKind.wrap
  IntKind.u64
  ((0 : Int) +
  IntKind.wrap
  IntKind.u64
  x0) *
  (256 : Int)) +
  IntKind.wrap IntKind.u64
  x1) *
  (256 : Int)) +
  IntKind.wrap IntKind.u64 x2) *
  (256 : Int)) +
  IntKind.wrap IntKind.u64 x3) *
  (256 : Int)) +
  IntKind.wrap IntKind.u64 x4) *
  (256 : Int)) +
  IntKind.wrap IntKind.u64 x5) *
  (256 : Int)) +
  IntKind.wrap IntKind.u64 x6) *
  (256 : Int)) +
  IntKind.wrap IntKind.u64 x7)))))
  (256 : Int)))
  (256 : Int))))]
  (putT 7 0
  [Td.sc
  (Value.int IntKind.u8
  (IntKind.wrap IntKind.u8
  (Int.tmod
  (IntKind.wrap IntKind.u64
  (wrF (4 : Int)
  (IntKind.wrap IntKind.i64
  (IntKind.wrap IntKind.u64
  (IntKind.wrap IntKind.u64
  (IntKind.wrap IntKind.u64
  (IntKind.wrap IntKind.u64
  (IntKind.wrap IntKind.u64
  (IntKind.wrap IntKind.u64
  (IntKind.wrap IntKind.u64
  (IntKind.wrap IntKind.u64
  (IntKind.wrap IntKind.u64
  (IntKind.wrap IntKind.u64
  (IntKind.wrap IntKind.u64
  (IntKind.wrap IntKind.u64
  (IntKind.wrap IntKind.u64
  (IntKind.wrap IntKind.u64
  (IntKind.wrap IntKind.u64
  ((0 : Int) +
  IntKind.wrap
  IntKind.u64 x0) *
  (256 : Int)) +
  IntKind.wrap IntKind.u64
  x1) *
  (256 : Int)) +
  IntKind.wrap IntKind.u64 x2) *
  (256 : Int)) +
  IntKind.wrap IntKind.u64 x3) *
  (256 : Int)) +
  IntKind.wrap IntKind.u64 x4) *
  (256 : Int)) +
  IntKind.wrap IntKind.u64 x5) *
  (256 : Int)) +
  IntKind.wrap IntKind.u64 x6) *
  (256 : Int)) +
  IntKind.wrap IntKind.u64 x7)))))
  (256 : Int))))]
  fun x => nthT [Td.sc (Value.int IntKind.u8 (0 : Int))]))))))))),
  some
  (AObj.row Rk.mine 1 0 8 fun j =>
  putT 0 0
  [Td.sc
  (Value.int IntKind.u8
  (IntKind.wrap IntKind.u8
  (Int.tmod
  (IntKind.wrap IntKind.u64
  (Int.tdiv
  (IntKind.wrap IntKind.u64
  (Int.tdiv
  (IntKind.wrap IntKind.u64
  (Int.tdiv
  (IntKind.wrap IntKind.u64
  (Int.tdiv
  (IntKind.wrap IntKind.u64
  (Int.tdiv
  (IntKind.wrap IntKind.u64
  (Int.tdiv
  (IntKind.wrap IntKind.u64
  (Int.tdiv
  (IntKind.wrap IntKind.u64
  (wrF (4 : Int)
  (IntKind.wrap IntKind.i64
  (IntKind.wrap IntKind.u64
  (IntKind.wrap IntKind.u64
  (IntKind.wrap IntKind.u64
  (IntKind.wrap IntKind.u64
  (IntKind.wrap IntKind.u64
  (IntKind.wrap IntKind.u64
  (IntKind.wrap IntKind.u64
  (IntKind.wrap IntKind.u64
  (IntKind.wrap IntKind.u64
  (IntKind.wrap IntKind.u64
  (IntKind.wrap IntKind.u64
  (IntKind.wrap
  IntKind.u64
  (IntKind.wrap
  IntKind.u64
  (IntKind.wrap
  IntKind.u64
  (IntKind.wrap
  IntKind.u64
  ((0 :
  Int) +
  IntKind.wrap
  IntKind.u64
  x0) *
  (256 :
  Int)) +
  IntKind.wrap
  IntKind.u64
  x1) *
  (256 : Int)) +
  IntKind.wrap
  IntKind.u64 x2) *
  (256 : Int)) +
  IntKind.wrap IntKind.u64 x3) *
  (256 : Int)) +
  IntKind.wrap IntKind.u64 x4) *
  (256 : Int)) +
  IntKind.wrap IntKind.u64 x5) *
  (256 : Int)) +
  IntKind.wrap IntKind.u64 x6) *
  (256 : Int)) +
  IntKind.wrap IntKind.u64 x7)))))
  (256 : Int)))
  (256 : Int)))
  (256 : Int)))
  (256 : Int)))
  (256 : Int)))
  (256 : Int)))
  (256 : Int)))
  (256 : Int))))]
  (putT 1 0
  [Td.sc
  (Value.int IntKind.u8
  (IntKind.wrap IntKind.u8
  (Int.tmod
  (IntKind.wrap IntKind.u64
  (Int.tdiv
  (IntKind.wrap IntKind.u64
  (Int.tdiv
  (IntKind.wrap IntKind.u64
  (Int.tdiv
  (IntKind.wrap IntKind.u64
  (Int.tdiv
  (IntKind.wrap IntKind.u64
  (Int.tdiv
  (IntKind.wrap IntKind.u64
  (Int.tdiv
  (IntKind.wrap IntKind.u64
  (wrF (4 : Int)
  (IntKind.wrap IntKind.i64
  (IntKind.wrap IntKind.u64
  (IntKind.wrap IntKind.u64
  (IntKind.wrap IntKind.u64
  (IntKind.wrap IntKind.u64
  (IntKind.wrap IntKind.u64
  (IntKind.wrap IntKind.u64
  (IntKind.wrap IntKind.u64
  (IntKind.wrap IntKind.u64
  (IntKind.wrap IntKind.u64
  (IntKind.wrap IntKind.u64
  (IntKind.wrap IntKind.u64
  (IntKind.wrap IntKind.u64
  (IntKind.wrap
  IntKind.u64
  (IntKind.wrap
  IntKind.u64
  (IntKind.wrap
  IntKind.u64
  ((0 :
  Int) +
  IntKind.wrap
  IntKind.u64
  x0) *
  (256 :
  Int)) +
  IntKind.wrap
  IntKind.u64
  x1) *
  (256 : Int)) +
  IntKind.wrap IntKind.u64
  x2) *
  (256 : Int)) +
  IntKind.wrap IntKind.u64 x3) *
  (256 : Int)) +
  IntKind.wrap IntKind.u64 x4) *
  (256 : Int)) +
  IntKind.wrap IntKind.u64 x5) *
  (256 : Int)) +
  IntKind.wrap IntKind.u64 x6) *
  (256 : Int)) +
  IntKind.wrap IntKind.u64 x7)))))
  (256 : Int)))
  (256 : Int)))
  (256 : Int)))
  (256 : Int)))
  (256 : Int)))
  (256 : Int)))
  (256 : Int))))]
  (putT 2 0
  [Td.sc
  (Value.int IntKind.u8
  (IntKind.wrap IntKind.u8
  (Int.tmod
  (IntKind.wrap IntKind.u64
  (Int.tdiv
  (IntKind.wrap IntKind.u64
  (Int.tdiv
  (IntKind.wrap IntKind.u64
  (Int.tdiv
  (IntKind.wrap IntKind.u64
  (Int.tdiv
  (IntKind.wrap IntKind.u64
  (Int.tdiv
  (IntKind.wrap IntKind.u64
  (wrF (4 : Int)
  (IntKind.wrap IntKind.i64
  (IntKind.wrap IntKind.u64
  (IntKind.wrap IntKind.u64
  (IntKind.wrap IntKind.u64
  (IntKind.wrap IntKind.u64
  (IntKind.wrap IntKind.u64
  (IntKind.wrap IntKind.u64
  (IntKind.wrap IntKind.u64
  (IntKind.wrap IntKind.u64
  (IntKind.wrap IntKind.u64
  (IntKind.wrap IntKind.u64
  (IntKind.wrap IntKind.u64
  (IntKind.wrap IntKind.u64
  (IntKind.wrap
  IntKind.u64
  (IntKind.wrap
  IntKind.u64
  (IntKind.wrap
  IntKind.u64
  ((0 : Int) +
  IntKind.wrap
  IntKind.u64
  x0) *
  (256 : Int)) +
  IntKind.wrap
  IntKind.u64
  x1) *
  (256 : Int)) +
  IntKind.wrap IntKind.u64
  x2) *
  (256 : Int)) +
  IntKind.wrap IntKind.u64 x3) *
  (256 : Int)) +
  IntKind.wrap IntKind.u64 x4) *
  (256 : Int)) +
  IntKind.wrap IntKind.u64 x5) *
  (256 : Int)) +
  IntKind.wrap IntKind.u64 x6) *
  (256 : Int)) +
  IntKind.wrap IntKind.u64 x7)))))
  (256 : Int)))
  (256 : Int)))
  (256 : Int)))
  (256 : Int)))
  (256 : Int)))
  (256 : Int))))]
  (putT 3 0
  [Td.sc
  (Value.int IntKind.u8
  (IntKind.wrap IntKind.u8
  (Int.tmod
  (IntKind.wrap IntKind.u64
  (Int.tdiv
  (IntKind.wrap IntKind.u64
  (Int.tdiv
  (IntKind.wrap IntKind.u64
  (Int.tdiv
  (IntKind.wrap IntKind.u64
  (Int.tdiv
  (IntKind.wrap IntKind.u64
  (wrF (4 : Int)
  (IntKind.wrap IntKind.i64
  (IntKind.wrap IntKind.u64
  (IntKind.wrap IntKind.u64
  (IntKind.wrap IntKind.u64
  (IntKind.wrap IntKind.u64
  (IntKind.wrap IntKind.u64
  (IntKind.wrap IntKind.u64
  (IntKind.wrap IntKind.u64
  (IntKind.wrap IntKind.u64
  (IntKind.wrap IntKind.u64
  (IntKind.wrap IntKind.u64
  (IntKind.wrap IntKind.u64
  (IntKind.wrap IntKind.u64
  (IntKind.wrap IntKind.u64
  (IntKind.wrap
  IntKind.u64
  (IntKind.wrap
  IntKind.u64
  ((0 : Int) +
  IntKind.wrap
  IntKind.u64
  x0) *
  (256 : Int)) +
  IntKind.wrap
  IntKind.u64 x1) *
  (256 : Int)) +
  IntKind.wrap IntKind.u64
  x2) *
  (256 : Int)) +
  IntKind.wrap IntKind.u64 x3) *
  (256 : Int)) +
  IntKind.wrap IntKind.u64 x4) *
  (256 : Int)) +
  IntKind.wrap IntKind.u64 x5) *
  (256 : Int)) +
  IntKind.wrap IntKind.u64 x6) *
  (256 : Int)) +
  IntKind.wrap IntKind.u64 x7)))))
  (256 : Int)))
  (256 : Int)))
  (256 : Int)))
  (256 : Int)))
  (256 : Int))))]
  (putT 4 0
  [Td.sc
  (Value.int IntKind.u8
  (IntKind.wrap IntKind.u8
  (Int.tmod
  (IntKind.wrap IntKind.u64
  (Int.tdiv
  (IntKind.wrap IntKind.u64
  (Int.tdiv
  (IntKind.wrap IntKind.u64
  (Int.tdiv
  (IntKind.wrap IntKind.u64
  (wrF (4 : Int)
  (IntKind.wrap IntKind.i64
  (IntKind.wrap IntKind.u64
  (IntKind.wrap IntKind.u64
  (IntKind.wrap IntKind.u64
  (IntKind.wrap IntKind.u64
  (IntKind.wrap IntKind.u64
  (IntKind.wrap IntKind.u64
  (IntKind.wrap IntKind.u64
  (IntKind.wrap IntKind.u64
  (IntKind.wrap IntKind.u64
  (IntKind.wrap IntKind.u64
  (IntKind.wrap IntKind.u64
  (IntKind.wrap IntKind.u64
  (IntKind.wrap IntKind.u64
  (IntKind.wrap
  IntKind.u64
  (IntKind.wrap
  IntKind.u64
  ((0 : Int) +
  IntKind.wrap
  IntKind.u64
  x0) *
  (256 : Int)) +
  IntKind.wrap
  IntKind.u64 x1) *
  (256 : Int)) +
  IntKind.wrap IntKind.u64 x2) *
  (256 : Int)) +
  IntKind.wrap IntKind.u64 x3) *
  (256 : Int)) +
  IntKind.wrap IntKind.u64 x4) *
  (256 : Int)) +
  IntKind.wrap IntKind.u64 x5) *
  (256 : Int)) +
  IntKind.wrap IntKind.u64 x6) *
  (256 : Int)) +
  IntKind.wrap IntKind.u64 x7)))))
  (256 : Int)))
  (256 : Int)))
  (256 : Int)))
  (256 : Int))))]
  (putT 5 0
  [Td.sc
  (Value.int IntKind.u8
  (IntKind.wrap IntKind.u8
  (Int.tmod
  (IntKind.wrap IntKind.u64
  (Int.tdiv
  (IntKind.wrap IntKind.u64
  (Int.tdiv
  (IntKind.wrap IntKind.u64
  (wrF (4 : Int)
  (IntKind.wrap IntKind.i64
  (IntKind.wrap IntKind.u64
  (IntKind.wrap IntKind.u64
  (IntKind.wrap IntKind.u64
  (IntKind.wrap IntKind.u64
  (IntKind.wrap IntKind.u64
  (IntKind.wrap IntKind.u64
  (IntKind.wrap IntKind.u64
  (IntKind.wrap IntKind.u64
  (IntKind.wrap IntKind.u64
  (IntKind.wrap IntKind.u64
  (IntKind.wrap IntKind.u64
  (IntKind.wrap IntKind.u64
  (IntKind.wrap IntKind.u64
  (IntKind.wrap IntKind.u64
  (IntKind.wrap
  IntKind.u64
  ((0 : Int) +
  IntKind.wrap
  IntKind.u64
  x0) *
  (256 : Int)) +
  IntKind.wrap IntKind.u64
  x1) *
  (256 : Int)) +
  IntKind.wrap IntKind.u64 x2) *
  (256 : Int)) +
  IntKind.wrap IntKind.u64 x3) *
  (256 : Int)) +
  IntKind.wrap IntKind.u64 x4) *
  (256 : Int)) +
  IntKind.wrap IntKind.u64 x5) *
  (256 : Int)) +
  IntKind.wrap IntKind.u64 x6) *
  (256 : Int)) +
  IntKind.wrap IntKind.u64 x7)))))
  (256 : Int)))
  (256 : Int)))
  (256 : Int))))]
  (putT 6 0
  [Td.sc
  (Value.int IntKind.u8
  (IntKind.wrap IntKind.u8
  (Int.tmod
  (IntKind.wrap IntKind.u64
  (Int.tdiv
  (IntKind.wrap IntKind.u64
  (wrF (4 : Int)
  (IntKind.wrap IntKind.i64
  (IntKind.wrap IntKind.u64
  (IntKind.wrap IntKind.u64
  (IntKind.wrap IntKind.u64
  (IntKind.wrap IntKind.u64
  (IntKind.wrap IntKind.u64
  (IntKind.wrap IntKind.u64
  (IntKind.wrap IntKind.u64
  (IntKind.wrap IntKind.u64
  (IntKind.wrap IntKind.u64
  (IntKind.wrap IntKind.u64
  (IntKind.wrap IntKind.u64
  (IntKind.wrap IntKind.u64
  (IntKind.wrap IntKind.u64
  (IntKind.wrap IntKind.u64
  (IntKind.wrap
  IntKind.u64
  ((0 : Int) +
  IntKind.wrap
  IntKind.u64
  x0) *
  (256 : Int)) +
  IntKind.wrap IntKind.u64
  x1) *
  (256 : Int)) +
  IntKind.wrap IntKind.u64 x2) *
  (256 : Int)) +
  IntKind.wrap IntKind.u64 x3) *
  (256 : Int)) +
  IntKind.wrap IntKind.u64 x4) *
  (256 : Int)) +
  IntKind.wrap IntKind.u64 x5) *
  (256 : Int)) +
  IntKind.wrap IntKind.u64 x6) *
  (256 : Int)) +
  IntKind.wrap IntKind.u64 x7)))))
  (256 : Int)))
  (256 : Int))))]
  (putT 7 0
  [Td.sc
  (Value.int IntKind.u8
  (IntKind.wrap IntKind.u8
  (Int.tmod
  (IntKind.wrap IntKind.u64
  (wrF (4 : Int)
  (IntKind.wrap IntKind.i64
  (IntKind.wrap IntKind.u64
  (IntKind.wrap IntKind.u64
  (IntKind.wrap IntKind.u64
  (IntKind.wrap IntKind.u64
  (IntKind.wrap IntKind.u64
  (IntKind.wrap IntKind.u64
  (IntKind.wrap IntKind.u64
  (IntKind.wrap IntKind.u64
  (IntKind.wrap IntKind.u64
  (IntKind.wrap IntKind.u64
  (IntKind.wrap IntKind.u64
  (IntKind.wrap IntKind.u64
  (IntKind.wrap IntKind.u64
  (IntKind.wrap IntKind.u64
  (IntKind.wrap IntKind.u64
  ((0 : Int) +
  IntKind.wrap
  IntKind.u64 x0) *
  (256 : Int)) +
  IntKind.wrap IntKind.u64
  x1) *
  (256 : Int)) +
  IntKind.wrap IntKind.u64 x2) *
  (256 : Int)) +
  IntKind.wrap IntKind.u64 x3) *
  (256 : Int)) +
  IntKind.wrap IntKind.u64 x4) *
  (256 : Int)) +
  IntKind.wrap IntKind.u64 x5) *
  (256 : Int)) +
  IntKind.wrap IntKind.u64 x6) *
  (256 : Int)) +
  IntKind.wrap IntKind.u64 x7)))))
  (256 : Int))))]
  fun x => nthT [Td.sc (Value.int IntKind.u8 (0 : Int))])))))))
  (0 + j))]) := by kernel_rfl
theorem vc_tr5 (x0 x1 x2 x3 x4 x5 x6 x7 : Int) (c : Nat) (β : Bs) (K : AE → List (Option AObj) → Prop) : lawE Try.prog toldW1 100 20 β (fun _ => 20) (cnOf 1 fun _ => []) (fun _ _ => False) 29 [.int .i64 5, .slice (some ⟨0, 0, some 0⟩) 8 c] (mkS [some (rowO .look ([⟨x0⟩, ⟨x1⟩, ⟨x2⟩, ⟨x3⟩, ⟨x4⟩, ⟨x5⟩, ⟨x6⟩, ⟨x7⟩] : List U8))]) (outK K) =
(  K
  (AE.returned
  (Value.tuple
  (Array.mk
  [Value.agg
  (Array.mk
  [Value.int IntKind.i64 (5 : Int), Value.int IntKind.i64 (0 : Int),
  Value.float FloatKind.f64
  (Int.toNat
  (IntKind.wrap IntKind.u64
  (IntKind.wrap IntKind.u64
  (IntKind.wrap IntKind.u64
  (IntKind.wrap IntKind.u64
  (IntKind.wrap IntKind.u64
  (IntKind.wrap IntKind.u64
  (IntKind.wrap IntKind.u64
  (IntKind.wrap IntKind.u64
  (IntKind.wrap IntKind.u64
  (IntKind.wrap IntKind.u64
  (IntKind.wrap IntKind.u64
  (IntKind.wrap IntKind.u64
  (IntKind.wrap IntKind.u64
  (IntKind.wrap IntKind.u64
  (IntKind.wrap IntKind.u64
  ((0 : Int) +
  IntKind.wrap IntKind.u64 x0) *
  (256 : Int)) +
  IntKind.wrap IntKind.u64 x1) *
  (256 : Int)) +
  IntKind.wrap IntKind.u64 x2) *
  (256 : Int)) +
  IntKind.wrap IntKind.u64 x3) *
  (256 : Int)) +
  IntKind.wrap IntKind.u64 x4) *
  (256 : Int)) +
  IntKind.wrap IntKind.u64 x5) *
  (256 : Int)) +
  IntKind.wrap IntKind.u64 x6) *
  (256 : Int)) +
  IntKind.wrap IntKind.u64 x7)))]),
  Value.bool
  ([UInt8.ofBitVec
  (BitVec.ofNat 8
  (Int.toNat
  (IntKind.wrap IntKind.u8
  (Int.tmod
  (IntKind.wrap IntKind.u64
  (Int.tdiv
  (IntKind.wrap IntKind.u64
  (Int.tdiv
  (IntKind.wrap IntKind.u64
  (Int.tdiv
  (IntKind.wrap IntKind.u64
  (Int.tdiv
  (IntKind.wrap IntKind.u64
  (Int.tdiv
  (IntKind.wrap IntKind.u64
  (Int.tdiv
  (IntKind.wrap IntKind.u64
  (Int.tdiv
  (Int.ofNat
  (bitsN
  (Int.toNat
  (IntKind.wrap IntKind.u64
  (IntKind.wrap IntKind.u64
  (IntKind.wrap IntKind.u64
  (IntKind.wrap IntKind.u64
  (IntKind.wrap IntKind.u64
  (IntKind.wrap IntKind.u64
  (IntKind.wrap IntKind.u64
  (IntKind.wrap IntKind.u64
  (IntKind.wrap IntKind.u64
  (IntKind.wrap IntKind.u64
  (IntKind.wrap
  IntKind.u64
  (IntKind.wrap
  IntKind.u64
  (IntKind.wrap
  IntKind.u64
  (IntKind.wrap
  IntKind.u64
  (IntKind.wrap
  IntKind.u64
  ((0 :
  Int) +
  IntKind.wrap
  IntKind.u64
  x0) *
  (256 :
  Int)) +
  IntKind.wrap
  IntKind.u64
  x1) *
  (256 :
  Int)) +
  IntKind.wrap
  IntKind.u64
  x2) *
  (256 : Int)) +
  IntKind.wrap IntKind.u64
  x3) *
  (256 : Int)) +
  IntKind.wrap IntKind.u64 x4) *
  (256 : Int)) +
  IntKind.wrap IntKind.u64 x5) *
  (256 : Int)) +
  IntKind.wrap IntKind.u64 x6) *
  (256 : Int)) +
  IntKind.wrap IntKind.u64 x7)))))
  (256 : Int)))
  (256 : Int)))
  (256 : Int)))
  (256 : Int)))
  (256 : Int)))
  (256 : Int)))
  (256 : Int)))
  (256 : Int))))),
  UInt8.ofBitVec
  (BitVec.ofNat 8
  (Int.toNat
  (IntKind.wrap IntKind.u8
  (Int.tmod
  (IntKind.wrap IntKind.u64
  (Int.tdiv
  (IntKind.wrap IntKind.u64
  (Int.tdiv
  (IntKind.wrap IntKind.u64
  (Int.tdiv
  (IntKind.wrap IntKind.u64
  (Int.tdiv
  (IntKind.wrap IntKind.u64
  (Int.tdiv
  (IntKind.wrap IntKind.u64
  (Int.tdiv
  (Int.ofNat
  (bitsN
  (Int.toNat
  (IntKind.wrap IntKind.u64
  (IntKind.wrap IntKind.u64
  (IntKind.wrap IntKind.u64
  (IntKind.wrap IntKind.u64
  (IntKind.wrap IntKind.u64
  (IntKind.wrap IntKind.u64
  (IntKind.wrap IntKind.u64
  (IntKind.wrap IntKind.u64
  (IntKind.wrap IntKind.u64
  (IntKind.wrap IntKind.u64
  (IntKind.wrap IntKind.u64
  (IntKind.wrap
  IntKind.u64
  (IntKind.wrap
  IntKind.u64
  (IntKind.wrap
  IntKind.u64
  (IntKind.wrap
  IntKind.u64
  ((0 :
  Int) +
  IntKind.wrap
  IntKind.u64
  x0) *
  (256 :
  Int)) +
  IntKind.wrap
  IntKind.u64
  x1) *
  (256 : Int)) +
  IntKind.wrap
  IntKind.u64 x2) *
  (256 : Int)) +
  IntKind.wrap IntKind.u64
  x3) *
  (256 : Int)) +
  IntKind.wrap IntKind.u64 x4) *
  (256 : Int)) +
  IntKind.wrap IntKind.u64 x5) *
  (256 : Int)) +
  IntKind.wrap IntKind.u64 x6) *
  (256 : Int)) +
  IntKind.wrap IntKind.u64 x7)))))
  (256 : Int)))
  (256 : Int)))
  (256 : Int)))
  (256 : Int)))
  (256 : Int)))
  (256 : Int)))
  (256 : Int))))),
  UInt8.ofBitVec
  (BitVec.ofNat 8
  (Int.toNat
  (IntKind.wrap IntKind.u8
  (Int.tmod
  (IntKind.wrap IntKind.u64
  (Int.tdiv
  (IntKind.wrap IntKind.u64
  (Int.tdiv
  (IntKind.wrap IntKind.u64
  (Int.tdiv
  (IntKind.wrap IntKind.u64
  (Int.tdiv
  (IntKind.wrap IntKind.u64
  (Int.tdiv
  (Int.ofNat
  (bitsN
  (Int.toNat
  (IntKind.wrap IntKind.u64
  (IntKind.wrap IntKind.u64
  (IntKind.wrap IntKind.u64
  (IntKind.wrap IntKind.u64
  (IntKind.wrap IntKind.u64
  (IntKind.wrap IntKind.u64
  (IntKind.wrap IntKind.u64
  (IntKind.wrap IntKind.u64
  (IntKind.wrap IntKind.u64
  (IntKind.wrap IntKind.u64
  (IntKind.wrap IntKind.u64
  (IntKind.wrap IntKind.u64
  (IntKind.wrap
  IntKind.u64
  (IntKind.wrap
  IntKind.u64
  (IntKind.wrap
  IntKind.u64
  ((0 :
  Int) +
  IntKind.wrap
  IntKind.u64
  x0) *
  (256 :
  Int)) +
  IntKind.wrap
  IntKind.u64
  x1) *
  (256 : Int)) +
  IntKind.wrap IntKind.u64
  x2) *
  (256 : Int)) +
  IntKind.wrap IntKind.u64 x3) *
  (256 : Int)) +
  IntKind.wrap IntKind.u64 x4) *
  (256 : Int)) +
  IntKind.wrap IntKind.u64 x5) *
  (256 : Int)) +
  IntKind.wrap IntKind.u64 x6) *
  (256 : Int)) +
  IntKind.wrap IntKind.u64 x7)))))
  (256 : Int)))
  (256 : Int)))
  (256 : Int)))
  (256 : Int)))
  (256 : Int)))
  (256 : Int))))),
  UInt8.ofBitVec
  (BitVec.ofNat 8
  (Int.toNat
  (IntKind.wrap IntKind.u8
  (Int.tmod
  (IntKind.wrap IntKind.u64
  (Int.tdiv
  (IntKind.wrap IntKind.u64
  (Int.tdiv
  (IntKind.wrap IntKind.u64
  (Int.tdiv
  (IntKind.wrap IntKind.u64
  (Int.tdiv
  (Int.ofNat
  (bitsN
  (Int.toNat
  (IntKind.wrap IntKind.u64
  (IntKind.wrap IntKind.u64
  (IntKind.wrap IntKind.u64
  (IntKind.wrap IntKind.u64
  (IntKind.wrap IntKind.u64
  (IntKind.wrap IntKind.u64
  (IntKind.wrap IntKind.u64
  (IntKind.wrap IntKind.u64
  (IntKind.wrap IntKind.u64
  (IntKind.wrap IntKind.u64
  (IntKind.wrap IntKind.u64
  (IntKind.wrap IntKind.u64
  (IntKind.wrap IntKind.u64
  (IntKind.wrap
  IntKind.u64
  (IntKind.wrap
  IntKind.u64
  ((0 : Int) +
  IntKind.wrap
  IntKind.u64
  x0) *
  (256 : Int)) +
  IntKind.wrap
  IntKind.u64 x1) *
  (256 : Int)) +
  IntKind.wrap IntKind.u64
  x2) *
  (256 : Int)) +
  IntKind.wrap IntKind.u64 x3) *
  (256 : Int)) +
  IntKind.wrap IntKind.u64 x4) *
  (256 : Int)) +
  IntKind.wrap IntKind.u64 x5) *
  (256 : Int)) +
  IntKind.wrap IntKind.u64 x6) *
  (256 : Int)) +
  IntKind.wrap IntKind.u64 x7)))))
  (256 : Int)))
  (256 : Int)))
  (256 : Int)))
  (256 : Int)))
  (256 : Int))))),
  UInt8.ofBitVec
  (BitVec.ofNat 8
  (Int.toNat
  (IntKind.wrap IntKind.u8
  (Int.tmod
  (IntKind.wrap IntKind.u64
  (Int.tdiv
  (IntKind.wrap IntKind.u64
  (Int.tdiv
  (IntKind.wrap IntKind.u64
  (Int.tdiv
  (Int.ofNat
  (bitsN
  (Int.toNat
  (IntKind.wrap IntKind.u64
  (IntKind.wrap IntKind.u64
  (IntKind.wrap IntKind.u64
  (IntKind.wrap IntKind.u64
  (IntKind.wrap IntKind.u64
  (IntKind.wrap IntKind.u64
  (IntKind.wrap IntKind.u64
  (IntKind.wrap IntKind.u64
  (IntKind.wrap IntKind.u64
  (IntKind.wrap IntKind.u64
  (IntKind.wrap IntKind.u64
  (IntKind.wrap IntKind.u64
  (IntKind.wrap IntKind.u64
  (IntKind.wrap IntKind.u64
  (IntKind.wrap
  IntKind.u64
  ((0 : Int) +
  IntKind.wrap
  IntKind.u64
  x0) *
  (256 : Int)) +
  IntKind.wrap IntKind.u64
  x1) *
  (256 : Int)) +
  IntKind.wrap IntKind.u64 x2) *
  (256 : Int)) +
  IntKind.wrap IntKind.u64 x3) *
  (256 : Int)) +
  IntKind.wrap IntKind.u64 x4) *
  (256 : Int)) +
  IntKind.wrap IntKind.u64 x5) *
  (256 : Int)) +
  IntKind.wrap IntKind.u64 x6) *
  (256 : Int)) +
  IntKind.wrap IntKind.u64 x7)))))
  (256 : Int)))
  (256 : Int)))
  (256 : Int)))
  (256 : Int))))),
  UInt8.ofBitVec
  (BitVec.ofNat 8
  (Int.toNat
  (IntKind.wrap IntKind.u8
  (Int.tmod
  (IntKind.wrap IntKind.u64
  (Int.tdiv
  (IntKind.wrap IntKind.u64
  (Int.tdiv
  (Int.ofNat
  (bitsN
  (Int.toNat
  (IntKind.wrap IntKind.u64
  (IntKind.wrap IntKind.u64
  (IntKind.wrap IntKind.u64
  (IntKind.wrap IntKind.u64
  (IntKind.wrap IntKind.u64
  (IntKind.wrap IntKind.u64
  (IntKind.wrap IntKind.u64
  (IntKind.wrap IntKind.u64
  (IntKind.wrap IntKind.u64
  (IntKind.wrap IntKind.u64
  (IntKind.wrap IntKind.u64
  (IntKind.wrap IntKind.u64
  (IntKind.wrap IntKind.u64
  (IntKind.wrap IntKind.u64
  (IntKind.wrap IntKind.u64
  ((0 : Int) +
  IntKind.wrap
  IntKind.u64 x0) *
  (256 : Int)) +
  IntKind.wrap IntKind.u64
  x1) *
  (256 : Int)) +
  IntKind.wrap IntKind.u64 x2) *
  (256 : Int)) +
  IntKind.wrap IntKind.u64 x3) *
  (256 : Int)) +
  IntKind.wrap IntKind.u64 x4) *
  (256 : Int)) +
  IntKind.wrap IntKind.u64 x5) *
  (256 : Int)) +
  IntKind.wrap IntKind.u64 x6) *
  (256 : Int)) +
  IntKind.wrap IntKind.u64 x7)))))
  (256 : Int)))
  (256 : Int)))
  (256 : Int))))),
  UInt8.ofBitVec
  (BitVec.ofNat 8
  (Int.toNat
  (IntKind.wrap IntKind.u8
  (Int.tmod
  (IntKind.wrap IntKind.u64
  (Int.tdiv
  (Int.ofNat
  (bitsN
  (Int.toNat
  (IntKind.wrap IntKind.u64
  (IntKind.wrap IntKind.u64
  (IntKind.wrap IntKind.u64
  (IntKind.wrap IntKind.u64
  (IntKind.wrap IntKind.u64
  (IntKind.wrap IntKind.u64
  (IntKind.wrap IntKind.u64
  (IntKind.wrap IntKind.u64
  (IntKind.wrap IntKind.u64
  (IntKind.wrap IntKind.u64
  (IntKind.wrap IntKind.u64
  (IntKind.wrap IntKind.u64
  (IntKind.wrap IntKind.u64
  (IntKind.wrap IntKind.u64
  (IntKind.wrap IntKind.u64
  ((0 : Int) +
  IntKind.wrap IntKind.u64
  x0) *
  (256 : Int)) +
  IntKind.wrap IntKind.u64 x1) *
  (256 : Int)) +
  IntKind.wrap IntKind.u64 x2) *
  (256 : Int)) +
  IntKind.wrap IntKind.u64 x3) *
  (256 : Int)) +
  IntKind.wrap IntKind.u64 x4) *
  (256 : Int)) +
  IntKind.wrap IntKind.u64 x5) *
  (256 : Int)) +
  IntKind.wrap IntKind.u64 x6) *
  (256 : Int)) +
  IntKind.wrap IntKind.u64 x7)))))
  (256 : Int)))
  (256 : Int))))),
  UInt8.ofBitVec
  (BitVec.ofNat 8
  (Int.toNat
  (IntKind.wrap IntKind.u8
  (Int.tmod
  (Int.ofNat
  (bitsN
  (Int.toNat
  (IntKind.wrap IntKind.u64
  (IntKind.wrap IntKind.u64
  (IntKind.wrap IntKind.u64
  (IntKind.wrap IntKind.u64
  (IntKind.wrap IntKind.u64
  (IntKind.wrap IntKind.u64
  (IntKind.wrap IntKind.u64
  (IntKind.wrap IntKind.u64
  (IntKind.wrap IntKind.u64
  (IntKind.wrap IntKind.u64
  (IntKind.wrap IntKind.u64
  (IntKind.wrap IntKind.u64
  (IntKind.wrap IntKind.u64
  (IntKind.wrap IntKind.u64
  (IntKind.wrap IntKind.u64
  ((0 : Int) +
  IntKind.wrap IntKind.u64
  x0) *
  (256 : Int)) +
  IntKind.wrap IntKind.u64 x1) *
  (256 : Int)) +
  IntKind.wrap IntKind.u64 x2) *
  (256 : Int)) +
  IntKind.wrap IntKind.u64 x3) *
  (256 : Int)) +
  IntKind.wrap IntKind.u64 x4) *
  (256 : Int)) +
  IntKind.wrap IntKind.u64 x5) *
  (256 : Int)) +
  IntKind.wrap IntKind.u64 x6) *
  (256 : Int)) +
  IntKind.wrap IntKind.u64 x7)))))
  (256 : Int)))))] ==
  [UInt8.ofBitVec (BitVec.ofNat 8 (Int.toNat x0)),
  UInt8.ofBitVec (BitVec.ofNat 8 (Int.toNat x1)),
  UInt8.ofBitVec (BitVec.ofNat 8 (Int.toNat x2)),
  UInt8.ofBitVec (BitVec.ofNat 8 (Int.toNat x3)),
  UInt8.ofBitVec (BitVec.ofNat 8 (Int.toNat x4)),
  UInt8.ofBitVec (BitVec.ofNat 8 (Int.toNat x5)),
  UInt8.ofBitVec (BitVec.ofNat 8 (Int.toNat x6)),
  UInt8.ofBitVec (BitVec.ofNat 8 (Int.toNat x7))])])))
  [some
  (AObj.row Rk.look 1 0 8
  (encL [U8.mk x0, U8.mk x1, U8.mk x2, U8.mk x3, U8.mk x4, U8.mk x5, U8.mk x6, U8.mk x7])),
  some
  (AObj.cells
  [Value.int IntKind.i64 (5 : Int), Value.int IntKind.i64 (0 : Int),
  Value.float FloatKind.f64
  (Int.toNat
  (IntKind.wrap IntKind.u64
  (IntKind.wrap IntKind.u64
  (IntKind.wrap IntKind.u64
  (IntKind.wrap IntKind.u64
  (IntKind.wrap IntKind.u64
  (IntKind.wrap IntKind.u64
  (IntKind.wrap IntKind.u64
  (IntKind.wrap IntKind.u64
  (IntKind.wrap IntKind.u64
  (IntKind.wrap IntKind.u64
  (IntKind.wrap IntKind.u64
  (IntKind.wrap IntKind.u64
  (IntKind.wrap IntKind.u64
  (IntKind.wrap IntKind.u64
  (IntKind.wrap IntKind.u64
  ((0 : Int) + IntKind.wrap IntKind.u64 x0) *
  (256 : Int)) +
  IntKind.wrap IntKind.u64 x1) *
  (256 : Int)) +
  IntKind.wrap IntKind.u64 x2) *
  (256 : Int)) +
  IntKind.wrap IntKind.u64 x3) *
  (256 : Int)) +
  IntKind.wrap IntKind.u64 x4) *
  (256 : Int)) +
  IntKind.wrap IntKind.u64 x5) *
  (256 : Int)) +
  IntKind.wrap IntKind.u64 x6) *
  (256 : Int)) +
  IntKind.wrap IntKind.u64 x7)))]
  true 0),
  some
  (AObj.cells
  [Value.int IntKind.i64 (5 : Int), Value.int IntKind.i64 (0 : Int),
  Value.float FloatKind.f64
  (Int.toNat
  (IntKind.wrap IntKind.u64
  (IntKind.wrap IntKind.u64
  (IntKind.wrap IntKind.u64
  (IntKind.wrap IntKind.u64
  (IntKind.wrap IntKind.u64
  (IntKind.wrap IntKind.u64
  (IntKind.wrap IntKind.u64
  (IntKind.wrap IntKind.u64
  (IntKind.wrap IntKind.u64
  (IntKind.wrap IntKind.u64
  (IntKind.wrap IntKind.u64
  (IntKind.wrap IntKind.u64
  (IntKind.wrap IntKind.u64
  (IntKind.wrap IntKind.u64
  (IntKind.wrap IntKind.u64
  ((0 : Int) + IntKind.wrap IntKind.u64 x0) *
  (256 : Int)) +
  IntKind.wrap IntKind.u64 x1) *
  (256 : Int)) +
  IntKind.wrap IntKind.u64 x2) *
  (256 : Int)) +
  IntKind.wrap IntKind.u64 x3) *
  (256 : Int)) +
  IntKind.wrap IntKind.u64 x4) *
  (256 : Int)) +
  IntKind.wrap IntKind.u64 x5) *
  (256 : Int)) +
  IntKind.wrap IntKind.u64 x6) *
  (256 : Int)) +
  IntKind.wrap IntKind.u64 x7)))]
  true 0),
  some
  (AObj.cells
  [Value.int IntKind.i64 (5 : Int), Value.int IntKind.i64 (0 : Int),
  Value.float FloatKind.f64
  (Int.toNat
  (IntKind.wrap IntKind.u64
  (IntKind.wrap IntKind.u64
  (IntKind.wrap IntKind.u64
  (IntKind.wrap IntKind.u64
  (IntKind.wrap IntKind.u64
  (IntKind.wrap IntKind.u64
  (IntKind.wrap IntKind.u64
  (IntKind.wrap IntKind.u64
  (IntKind.wrap IntKind.u64
  (IntKind.wrap IntKind.u64
  (IntKind.wrap IntKind.u64
  (IntKind.wrap IntKind.u64
  (IntKind.wrap IntKind.u64
  (IntKind.wrap IntKind.u64
  (IntKind.wrap IntKind.u64
  ((0 : Int) + IntKind.wrap IntKind.u64 x0) *
  (256 : Int)) +
  IntKind.wrap IntKind.u64 x1) *
  (256 : Int)) +
  IntKind.wrap IntKind.u64 x2) *
  (256 : Int)) +
  IntKind.wrap IntKind.u64 x3) *
  (256 : Int)) +
  IntKind.wrap IntKind.u64 x4) *
  (256 : Int)) +
  IntKind.wrap IntKind.u64 x5) *
  (256 : Int)) +
  IntKind.wrap IntKind.u64 x6) *
  (256 : Int)) +
  IntKind.wrap IntKind.u64 x7)))]
  true 0),
  some
  (AObj.row Rk.mine 1 0 8
  (putT 0 0
  [Td.sc
  (Value.int IntKind.u8
  (IntKind.wrap IntKind.u8
  (Int.tmod
  (IntKind.wrap IntKind.u64
  (Int.tdiv
  (IntKind.wrap IntKind.u64
  (Int.tdiv
  (IntKind.wrap IntKind.u64
  (Int.tdiv
  (IntKind.wrap IntKind.u64
  (Int.tdiv
  (IntKind.wrap IntKind.u64
  (Int.tdiv
  (IntKind.wrap IntKind.u64
  (Int.tdiv
  (IntKind.wrap IntKind.u64
  (Int.tdiv
  (Int.ofNat
  (bitsN
  (Int.toNat
  (IntKind.wrap IntKind.u64
  (IntKind.wrap IntKind.u64
  (IntKind.wrap IntKind.u64
  (IntKind.wrap IntKind.u64
  (IntKind.wrap IntKind.u64
  (IntKind.wrap IntKind.u64
  (IntKind.wrap IntKind.u64
  (IntKind.wrap IntKind.u64
  (IntKind.wrap IntKind.u64
  (IntKind.wrap IntKind.u64
  (IntKind.wrap IntKind.u64
  (IntKind.wrap
  IntKind.u64
  (IntKind.wrap
  IntKind.u64
  (IntKind.wrap
  IntKind.u64
  (IntKind.wrap
  IntKind.u64
  ((0 :
  Int) +
  IntKind.wrap
  IntKind.u64
  x0) *
  (256 :
  Int)) +
  IntKind.wrap
  IntKind.u64
  x1) *
  (256 : Int)) +
  IntKind.wrap
  IntKind.u64 x2) *
  (256 : Int)) +
  IntKind.wrap IntKind.u64 x3) *
  (256 : Int)) +
  IntKind.wrap IntKind.u64 x4) *
  (256 : Int)) +
  IntKind.wrap IntKind.u64 x5) *
  (256 : Int)) +
  IntKind.wrap IntKind.u64 x6) *
  (256 : Int)) +
  IntKind.wrap IntKind.u64 x7)))))
  (256 : Int)))
  (256 : Int)))
  (256 : Int)))
  (256 : Int)))
  (256 : Int)))
  (256 : Int)))
  (256 : Int)))
  (256 : Int))))]
  (putT 1 0
  [Td.sc
  (Value.int IntKind.u8
  (IntKind.wrap IntKind.u8
  (Int.tmod
  (IntKind.wrap IntKind.u64
  (Int.tdiv
  (IntKind.wrap IntKind.u64
  (Int.tdiv
  (IntKind.wrap IntKind.u64
  (Int.tdiv
  (IntKind.wrap IntKind.u64
  (Int.tdiv
  (IntKind.wrap IntKind.u64
  (Int.tdiv
  (IntKind.wrap IntKind.u64
  (Int.tdiv
  (Int.ofNat
  (bitsN
  (Int.toNat
  (IntKind.wrap IntKind.u64
  (IntKind.wrap IntKind.u64
  (IntKind.wrap IntKind.u64
  (IntKind.wrap IntKind.u64
  (IntKind.wrap IntKind.u64
  (IntKind.wrap IntKind.u64
  (IntKind.wrap IntKind.u64
  (IntKind.wrap IntKind.u64
  (IntKind.wrap IntKind.u64
  (IntKind.wrap IntKind.u64
  (IntKind.wrap IntKind.u64
  (IntKind.wrap IntKind.u64
  (IntKind.wrap
  IntKind.u64
  (IntKind.wrap
  IntKind.u64
  (IntKind.wrap
  IntKind.u64
  ((0 :
  Int) +
  IntKind.wrap
  IntKind.u64
  x0) *
  (256 :
  Int)) +
  IntKind.wrap
  IntKind.u64
  x1) *
  (256 : Int)) +
  IntKind.wrap IntKind.u64
  x2) *
  (256 : Int)) +
  IntKind.wrap IntKind.u64 x3) *
  (256 : Int)) +
  IntKind.wrap IntKind.u64 x4) *
  (256 : Int)) +
  IntKind.wrap IntKind.u64 x5) *
  (256 : Int)) +
  IntKind.wrap IntKind.u64 x6) *
  (256 : Int)) +
  IntKind.wrap IntKind.u64 x7)))))
  (256 : Int)))
  (256 : Int)))
  (256 : Int)))
  (256 : Int)))
  (256 : Int)))
  (256 : Int)))
  (256 : Int))))]
  (putT 2 0
  [Td.sc
  (Value.int IntKind.u8
  (IntKind.wrap IntKind.u8
  (Int.tmod
  (IntKind.wrap IntKind.u64
  (Int.tdiv
  (IntKind.wrap IntKind.u64
  (Int.tdiv
  (IntKind.wrap IntKind.u64
  (Int.tdiv
  (IntKind.wrap IntKind.u64
  (Int.tdiv
  (IntKind.wrap IntKind.u64
  (Int.tdiv
  (Int.ofNat
  (bitsN
  (Int.toNat
  (IntKind.wrap IntKind.u64
  (IntKind.wrap IntKind.u64
  (IntKind.wrap IntKind.u64
  (IntKind.wrap IntKind.u64
  (IntKind.wrap IntKind.u64
  (IntKind.wrap IntKind.u64
  (IntKind.wrap IntKind.u64
  (IntKind.wrap IntKind.u64
  (IntKind.wrap IntKind.u64
  (IntKind.wrap IntKind.u64
  (IntKind.wrap IntKind.u64
  (IntKind.wrap IntKind.u64
  (IntKind.wrap
  IntKind.u64
  (IntKind.wrap
  IntKind.u64
  (IntKind.wrap
  IntKind.u64
  ((0 : Int) +
  IntKind.wrap
  IntKind.u64
  x0) *
  (256 : Int)) +
  IntKind.wrap
  IntKind.u64
  x1) *
  (256 : Int)) +
  IntKind.wrap IntKind.u64
  x2) *
  (256 : Int)) +
  IntKind.wrap IntKind.u64 x3) *
  (256 : Int)) +
  IntKind.wrap IntKind.u64 x4) *
  (256 : Int)) +
  IntKind.wrap IntKind.u64 x5) *
  (256 : Int)) +
  IntKind.wrap IntKind.u64 x6) *
  (256 : Int)) +
  IntKind.wrap IntKind.u64 x7)))))
  (256 : Int)))
  (256 : Int)))
  (256 : Int)))
  (256 : Int)))
  (256 : Int)))
  (256 : Int))))]
  (putT 3 0
  [Td.sc
  (Value.int IntKind.u8
  (IntKind.wrap IntKind.u8
  (Int.tmod
  (IntKind.wrap IntKind.u64
  (Int.tdiv
  (IntKind.wrap IntKind.u64
  (Int.tdiv
  (IntKind.wrap IntKind.u64
  (Int.tdiv
  (IntKind.wrap IntKind.u64
  (Int.tdiv
  (Int.ofNat
  (bitsN
  (Int.toNat
  (IntKind.wrap IntKind.u64
  (IntKind.wrap IntKind.u64
  (IntKind.wrap IntKind.u64
  (IntKind.wrap IntKind.u64
  (IntKind.wrap IntKind.u64
  (IntKind.wrap IntKind.u64
  (IntKind.wrap IntKind.u64
  (IntKind.wrap IntKind.u64
  (IntKind.wrap IntKind.u64
  (IntKind.wrap IntKind.u64
  (IntKind.wrap IntKind.u64
  (IntKind.wrap IntKind.u64
  (IntKind.wrap IntKind.u64
  (IntKind.wrap
  IntKind.u64
  (IntKind.wrap
  IntKind.u64
  ((0 : Int) +
  IntKind.wrap
  IntKind.u64
  x0) *
  (256 : Int)) +
  IntKind.wrap
  IntKind.u64 x1) *
  (256 : Int)) +
  IntKind.wrap IntKind.u64
  x2) *
  (256 : Int)) +
  IntKind.wrap IntKind.u64 x3) *
  (256 : Int)) +
  IntKind.wrap IntKind.u64 x4) *
  (256 : Int)) +
  IntKind.wrap IntKind.u64 x5) *
  (256 : Int)) +
  IntKind.wrap IntKind.u64 x6) *
  (256 : Int)) +
  IntKind.wrap IntKind.u64 x7)))))
  (256 : Int)))
  (256 : Int)))
  (256 : Int)))
  (256 : Int)))
  (256 : Int))))]
  (putT 4 0
  [Td.sc
  (Value.int IntKind.u8
  (IntKind.wrap IntKind.u8
  (Int.tmod
  (IntKind.wrap IntKind.u64
  (Int.tdiv
  (IntKind.wrap IntKind.u64
  (Int.tdiv
  (IntKind.wrap IntKind.u64
  (Int.tdiv
  (Int.ofNat
  (bitsN
  (Int.toNat
  (IntKind.wrap IntKind.u64
  (IntKind.wrap IntKind.u64
  (IntKind.wrap IntKind.u64
  (IntKind.wrap IntKind.u64
  (IntKind.wrap IntKind.u64
  (IntKind.wrap IntKind.u64
  (IntKind.wrap IntKind.u64
  (IntKind.wrap IntKind.u64
  (IntKind.wrap IntKind.u64
  (IntKind.wrap IntKind.u64
  (IntKind.wrap IntKind.u64
  (IntKind.wrap IntKind.u64
  (IntKind.wrap IntKind.u64
  (IntKind.wrap
  IntKind.u64
  (IntKind.wrap
  IntKind.u64
  ((0 : Int) +
  IntKind.wrap
  IntKind.u64
  x0) *
  (256 : Int)) +
  IntKind.wrap
  IntKind.u64 x1) *
  (256 : Int)) +
  IntKind.wrap IntKind.u64 x2) *
  (256 : Int)) +
  IntKind.wrap IntKind.u64 x3) *
  (256 : Int)) +
  IntKind.wrap IntKind.u64 x4) *
  (256 : Int)) +
  IntKind.wrap IntKind.u64 x5) *
  (256 : Int)) +
  IntKind.wrap IntKind.u64 x6) *
  (256 : Int)) +
  IntKind.wrap IntKind.u64 x7)))))
  (256 : Int)))
  (256 : Int)))
  (256 : Int)))
  (256 : Int))))]
  (putT 5 0
  [Td.sc
  (Value.int IntKind.u8
  (IntKind.wrap IntKind.u8
  (Int.tmod
  (IntKind.wrap IntKind.u64
  (Int.tdiv
  (IntKind.wrap IntKind.u64
  (Int.tdiv
  (Int.ofNat
  (bitsN
  (Int.toNat
  (IntKind.wrap IntKind.u64
  (IntKind.wrap IntKind.u64
  (IntKind.wrap IntKind.u64
  (IntKind.wrap IntKind.u64
  (IntKind.wrap IntKind.u64
  (IntKind.wrap IntKind.u64
  (IntKind.wrap IntKind.u64
  (IntKind.wrap IntKind.u64
  (IntKind.wrap IntKind.u64
  (IntKind.wrap IntKind.u64
  (IntKind.wrap IntKind.u64
  (IntKind.wrap IntKind.u64
  (IntKind.wrap IntKind.u64
  (IntKind.wrap IntKind.u64
  (IntKind.wrap
  IntKind.u64
  ((0 : Int) +
  IntKind.wrap
  IntKind.u64
  x0) *
  (256 : Int)) +
  IntKind.wrap IntKind.u64
  x1) *
  (256 : Int)) +
  IntKind.wrap IntKind.u64 x2) *
  (256 : Int)) +
  IntKind.wrap IntKind.u64 x3) *
  (256 : Int)) +
  IntKind.wrap IntKind.u64 x4) *
  (256 : Int)) +
  IntKind.wrap IntKind.u64 x5) *
  (256 : Int)) +
  IntKind.wrap IntKind.u64 x6) *
  (256 : Int)) +
  IntKind.wrap IntKind.u64 x7)))))
  (256 : Int)))
  (256 : Int)))
  (256 : Int))))]
  (putT 6 0
  [Td.sc
  (Value.int IntKind.u8
  (IntKind.wrap IntKind.u8
  (Int.tmod
  (IntKind.wrap IntKind.u64
  (Int.tdiv
  (Int.ofNat
  (bitsN
  (Int.toNat
  (IntKind.wrap IntKind.u64
  (IntKind.wrap IntKind.u64
  (IntKind.wrap IntKind.u64
  (IntKind.wrap IntKind.u64
  (IntKind.wrap IntKind.u64
  (IntKind.wrap IntKind.u64
  (IntKind.wrap IntKind.u64
  (IntKind.wrap IntKind.u64
  (IntKind.wrap IntKind.u64
  (IntKind.wrap IntKind.u64
  (IntKind.wrap IntKind.u64
  (IntKind.wrap IntKind.u64
  (IntKind.wrap IntKind.u64
  (IntKind.wrap IntKind.u64
  (IntKind.wrap
  IntKind.u64
  ((0 : Int) +
  IntKind.wrap
  IntKind.u64
  x0) *
  (256 : Int)) +
  IntKind.wrap IntKind.u64
  x1) *
  (256 : Int)) +
  IntKind.wrap IntKind.u64 x2) *
  (256 : Int)) +
  IntKind.wrap IntKind.u64 x3) *
  (256 : Int)) +
  IntKind.wrap IntKind.u64 x4) *
  (256 : Int)) +
  IntKind.wrap IntKind.u64 x5) *
  (256 : Int)) +
  IntKind.wrap IntKind.u64 x6) *
  (256 : Int)) +
  IntKind.wrap IntKind.u64 x7)))))
  (256 : Int)))
  (256 : Int))))]
  (putT 7 0
  [Td.sc
  (Value.int IntKind.u8
  (IntKind.wrap IntKind.u8
  (Int.tmod
  (Int.ofNat
  (bitsN
  (Int.toNat
  (IntKind.wrap IntKind.u64
  (IntKind.wrap IntKind.u64
  (IntKind.wrap IntKind.u64
  (IntKind.wrap IntKind.u64
  (IntKind.wrap IntKind.u64
  (IntKind.wrap IntKind.u64
  (IntKind.wrap IntKind.u64
  (IntKind.wrap IntKind.u64
  (IntKind.wrap IntKind.u64
  (IntKind.wrap IntKind.u64
  (IntKind.wrap IntKind.u64
  (IntKind.wrap IntKind.u64
  (IntKind.wrap IntKind.u64
  (IntKind.wrap IntKind.u64
  (IntKind.wrap IntKind.u64
  ((0 : Int) +
  IntKind.wrap
  IntKind.u64 x0) *
  (256 : Int)) +
  IntKind.wrap IntKind.u64
  x1) *
  (256 : Int)) +
  IntKind.wrap IntKind.u64 x2) *
  (256 : Int)) +
  IntKind.wrap IntKind.u64 x3) *
  (256 : Int)) +
  IntKind.wrap IntKind.u64 x4) *
  (256 : Int)) +
  IntKind.wrap IntKind.u64 x5) *
  (256 : Int)) +
  IntKind.wrap IntKind.u64 x6) *
  (256 : Int)) +
  IntKind.wrap IntKind.u64 x7)))))
  (256 : Int))))]
  fun x => nthT [Td.sc (Value.int IntKind.u8 (0 : Int))]))))))))),
  some
  (AObj.row Rk.mine 1 0 8 fun j =>
  putT 0 0
  [Td.sc
  (Value.int IntKind.u8
  (IntKind.wrap IntKind.u8
  (Int.tmod
  (IntKind.wrap IntKind.u64
  (Int.tdiv
  (IntKind.wrap IntKind.u64
  (Int.tdiv
  (IntKind.wrap IntKind.u64
  (Int.tdiv
  (IntKind.wrap IntKind.u64
  (Int.tdiv
  (IntKind.wrap IntKind.u64
  (Int.tdiv
  (IntKind.wrap IntKind.u64
  (Int.tdiv
  (IntKind.wrap IntKind.u64
  (Int.tdiv
  (Int.ofNat
  (bitsN
  (Int.toNat
  (IntKind.wrap IntKind.u64
  (IntKind.wrap IntKind.u64
  (IntKind.wrap IntKind.u64
  (IntKind.wrap IntKind.u64
  (IntKind.wrap IntKind.u64
  (IntKind.wrap IntKind.u64
  (IntKind.wrap IntKind.u64
  (IntKind.wrap IntKind.u64
  (IntKind.wrap IntKind.u64
  (IntKind.wrap IntKind.u64
  (IntKind.wrap IntKind.u64
  (IntKind.wrap
  IntKind.u64
  (IntKind.wrap
  IntKind.u64
  (IntKind.wrap
  IntKind.u64
  (IntKind.wrap
  IntKind.u64
  ((0 :
  Int) +
  IntKind.wrap
  IntKind.u64
  x0) *
  (256 :
  Int)) +
  IntKind.wrap
  IntKind.u64
  x1) *
  (256 : Int)) +
  IntKind.wrap
  IntKind.u64 x2) *
  (256 : Int)) +
  IntKind.wrap IntKind.u64 x3) *
  (256 : Int)) +
  IntKind.wrap IntKind.u64 x4) *
  (256 : Int)) +
  IntKind.wrap IntKind.u64 x5) *
  (256 : Int)) +
  IntKind.wrap IntKind.u64 x6) *
  (256 : Int)) +
  IntKind.wrap IntKind.u64 x7)))))
  (256 : Int)))
  (256 : Int)))
  (256 : Int)))
  (256 : Int)))
  (256 : Int)))
  (256 : Int)))
  (256 : Int)))
  (256 : Int))))]
  (putT 1 0
  [Td.sc
  (Value.int IntKind.u8
  (IntKind.wrap IntKind.u8
  (Int.tmod
  (IntKind.wrap IntKind.u64
  (Int.tdiv
  (IntKind.wrap IntKind.u64
  (Int.tdiv
  (IntKind.wrap IntKind.u64
  (Int.tdiv
  (IntKind.wrap IntKind.u64
  (Int.tdiv
  (IntKind.wrap IntKind.u64
  (Int.tdiv
  (IntKind.wrap IntKind.u64
  (Int.tdiv
  (Int.ofNat
  (bitsN
  (Int.toNat
  (IntKind.wrap IntKind.u64
  (IntKind.wrap IntKind.u64
  (IntKind.wrap IntKind.u64
  (IntKind.wrap IntKind.u64
  (IntKind.wrap IntKind.u64
  (IntKind.wrap IntKind.u64
  (IntKind.wrap IntKind.u64
  (IntKind.wrap IntKind.u64
  (IntKind.wrap IntKind.u64
  (IntKind.wrap IntKind.u64
  (IntKind.wrap IntKind.u64
  (IntKind.wrap IntKind.u64
  (IntKind.wrap
  IntKind.u64
  (IntKind.wrap
  IntKind.u64
  (IntKind.wrap
  IntKind.u64
  ((0 :
  Int) +
  IntKind.wrap
  IntKind.u64
  x0) *
  (256 :
  Int)) +
  IntKind.wrap
  IntKind.u64
  x1) *
  (256 : Int)) +
  IntKind.wrap IntKind.u64
  x2) *
  (256 : Int)) +
  IntKind.wrap IntKind.u64 x3) *
  (256 : Int)) +
  IntKind.wrap IntKind.u64 x4) *
  (256 : Int)) +
  IntKind.wrap IntKind.u64 x5) *
  (256 : Int)) +
  IntKind.wrap IntKind.u64 x6) *
  (256 : Int)) +
  IntKind.wrap IntKind.u64 x7)))))
  (256 : Int)))
  (256 : Int)))
  (256 : Int)))
  (256 : Int)))
  (256 : Int)))
  (256 : Int)))
  (256 : Int))))]
  (putT 2 0
  [Td.sc
  (Value.int IntKind.u8
  (IntKind.wrap IntKind.u8
  (Int.tmod
  (IntKind.wrap IntKind.u64
  (Int.tdiv
  (IntKind.wrap IntKind.u64
  (Int.tdiv
  (IntKind.wrap IntKind.u64
  (Int.tdiv
  (IntKind.wrap IntKind.u64
  (Int.tdiv
  (IntKind.wrap IntKind.u64
  (Int.tdiv
  (Int.ofNat
  (bitsN
  (Int.toNat
  (IntKind.wrap IntKind.u64
  (IntKind.wrap IntKind.u64
  (IntKind.wrap IntKind.u64
  (IntKind.wrap IntKind.u64
  (IntKind.wrap IntKind.u64
  (IntKind.wrap IntKind.u64
  (IntKind.wrap IntKind.u64
  (IntKind.wrap IntKind.u64
  (IntKind.wrap IntKind.u64
  (IntKind.wrap IntKind.u64
  (IntKind.wrap IntKind.u64
  (IntKind.wrap IntKind.u64
  (IntKind.wrap
  IntKind.u64
  (IntKind.wrap
  IntKind.u64
  (IntKind.wrap
  IntKind.u64
  ((0 : Int) +
  IntKind.wrap
  IntKind.u64
  x0) *
  (256 : Int)) +
  IntKind.wrap
  IntKind.u64
  x1) *
  (256 : Int)) +
  IntKind.wrap IntKind.u64
  x2) *
  (256 : Int)) +
  IntKind.wrap IntKind.u64 x3) *
  (256 : Int)) +
  IntKind.wrap IntKind.u64 x4) *
  (256 : Int)) +
  IntKind.wrap IntKind.u64 x5) *
  (256 : Int)) +
  IntKind.wrap IntKind.u64 x6) *
  (256 : Int)) +
  IntKind.wrap IntKind.u64 x7)))))
  (256 : Int)))
  (256 : Int)))
  (256 : Int)))
  (256 : Int)))
  (256 : Int)))
  (256 : Int))))]
  (putT 3 0
  [Td.sc
  (Value.int IntKind.u8
  (IntKind.wrap IntKind.u8
  (Int.tmod
  (IntKind.wrap IntKind.u64
  (Int.tdiv
  (IntKind.wrap IntKind.u64
  (Int.tdiv
  (IntKind.wrap IntKind.u64
  (Int.tdiv
  (IntKind.wrap IntKind.u64
  (Int.tdiv
  (Int.ofNat
  (bitsN
  (Int.toNat
  (IntKind.wrap IntKind.u64
  (IntKind.wrap IntKind.u64
  (IntKind.wrap IntKind.u64
  (IntKind.wrap IntKind.u64
  (IntKind.wrap IntKind.u64
  (IntKind.wrap IntKind.u64
  (IntKind.wrap IntKind.u64
  (IntKind.wrap IntKind.u64
  (IntKind.wrap IntKind.u64
  (IntKind.wrap IntKind.u64
  (IntKind.wrap IntKind.u64
  (IntKind.wrap IntKind.u64
  (IntKind.wrap IntKind.u64
  (IntKind.wrap
  IntKind.u64
  (IntKind.wrap
  IntKind.u64
  ((0 : Int) +
  IntKind.wrap
  IntKind.u64
  x0) *
  (256 : Int)) +
  IntKind.wrap
  IntKind.u64 x1) *
  (256 : Int)) +
  IntKind.wrap IntKind.u64
  x2) *
  (256 : Int)) +
  IntKind.wrap IntKind.u64 x3) *
  (256 : Int)) +
  IntKind.wrap IntKind.u64 x4) *
  (256 : Int)) +
  IntKind.wrap IntKind.u64 x5) *
  (256 : Int)) +
  IntKind.wrap IntKind.u64 x6) *
  (256 : Int)) +
  IntKind.wrap IntKind.u64 x7)))))
  (256 : Int)))
  (256 : Int)))
  (256 : Int)))
  (256 : Int)))
  (256 : Int))))]
  (putT 4 0
  [Td.sc
  (Value.int IntKind.u8
  (IntKind.wrap IntKind.u8
  (Int.tmod
  (IntKind.wrap IntKind.u64
  (Int.tdiv
  (IntKind.wrap IntKind.u64
  (Int.tdiv
  (IntKind.wrap IntKind.u64
  (Int.tdiv
  (Int.ofNat
  (bitsN
  (Int.toNat
  (IntKind.wrap IntKind.u64
  (IntKind.wrap IntKind.u64
  (IntKind.wrap IntKind.u64
  (IntKind.wrap IntKind.u64
  (IntKind.wrap IntKind.u64
  (IntKind.wrap IntKind.u64
  (IntKind.wrap IntKind.u64
  (IntKind.wrap IntKind.u64
  (IntKind.wrap IntKind.u64
  (IntKind.wrap IntKind.u64
  (IntKind.wrap IntKind.u64
  (IntKind.wrap IntKind.u64
  (IntKind.wrap IntKind.u64
  (IntKind.wrap
  IntKind.u64
  (IntKind.wrap
  IntKind.u64
  ((0 : Int) +
  IntKind.wrap
  IntKind.u64
  x0) *
  (256 : Int)) +
  IntKind.wrap
  IntKind.u64 x1) *
  (256 : Int)) +
  IntKind.wrap IntKind.u64 x2) *
  (256 : Int)) +
  IntKind.wrap IntKind.u64 x3) *
  (256 : Int)) +
  IntKind.wrap IntKind.u64 x4) *
  (256 : Int)) +
  IntKind.wrap IntKind.u64 x5) *
  (256 : Int)) +
  IntKind.wrap IntKind.u64 x6) *
  (256 : Int)) +
  IntKind.wrap IntKind.u64 x7)))))
  (256 : Int)))
  (256 : Int)))
  (256 : Int)))
  (256 : Int))))]
  (putT 5 0
  [Td.sc
  (Value.int IntKind.u8
  (IntKind.wrap IntKind.u8
  (Int.tmod
  (IntKind.wrap IntKind.u64
  (Int.tdiv
  (IntKind.wrap IntKind.u64
  (Int.tdiv
  (Int.ofNat
  (bitsN
  (Int.toNat
  (IntKind.wrap IntKind.u64
  (IntKind.wrap IntKind.u64
  (IntKind.wrap IntKind.u64
  (IntKind.wrap IntKind.u64
  (IntKind.wrap IntKind.u64
  (IntKind.wrap IntKind.u64
  (IntKind.wrap IntKind.u64
  (IntKind.wrap IntKind.u64
  (IntKind.wrap IntKind.u64
  (IntKind.wrap IntKind.u64
  (IntKind.wrap IntKind.u64
  (IntKind.wrap IntKind.u64
  (IntKind.wrap IntKind.u64
  (IntKind.wrap IntKind.u64
  (IntKind.wrap
  IntKind.u64
  ((0 : Int) +
  IntKind.wrap
  IntKind.u64
  x0) *
  (256 : Int)) +
  IntKind.wrap IntKind.u64
  x1) *
  (256 : Int)) +
  IntKind.wrap IntKind.u64 x2) *
  (256 : Int)) +
  IntKind.wrap IntKind.u64 x3) *
  (256 : Int)) +
  IntKind.wrap IntKind.u64 x4) *
  (256 : Int)) +
  IntKind.wrap IntKind.u64 x5) *
  (256 : Int)) +
  IntKind.wrap IntKind.u64 x6) *
  (256 : Int)) +
  IntKind.wrap IntKind.u64 x7)))))
  (256 : Int)))
  (256 : Int)))
  (256 : Int))))]
  (putT 6 0
  [Td.sc
  (Value.int IntKind.u8
  (IntKind.wrap IntKind.u8
  (Int.tmod
  (IntKind.wrap IntKind.u64
  (Int.tdiv
  (Int.ofNat
  (bitsN
  (Int.toNat
  (IntKind.wrap IntKind.u64
  (IntKind.wrap IntKind.u64
  (IntKind.wrap IntKind.u64
  (IntKind.wrap IntKind.u64
  (IntKind.wrap IntKind.u64
  (IntKind.wrap IntKind.u64
  (IntKind.wrap IntKind.u64
  (IntKind.wrap IntKind.u64
  (IntKind.wrap IntKind.u64
  (IntKind.wrap IntKind.u64
  (IntKind.wrap IntKind.u64
  (IntKind.wrap IntKind.u64
  (IntKind.wrap IntKind.u64
  (IntKind.wrap IntKind.u64
  (IntKind.wrap
  IntKind.u64
  ((0 : Int) +
  IntKind.wrap
  IntKind.u64
  x0) *
  (256 : Int)) +
  IntKind.wrap IntKind.u64
  x1) *
  (256 : Int)) +
  IntKind.wrap IntKind.u64 x2) *
  (256 : Int)) +
  IntKind.wrap IntKind.u64 x3) *
  (256 : Int)) +
  IntKind.wrap IntKind.u64 x4) *
  (256 : Int)) +
  IntKind.wrap IntKind.u64 x5) *
  (256 : Int)) +
  IntKind.wrap IntKind.u64 x6) *
  (256 : Int)) +
  IntKind.wrap IntKind.u64 x7)))))
  (256 : Int)))
  (256 : Int))))]
  (putT 7 0
  [Td.sc
  (Value.int IntKind.u8
  (IntKind.wrap IntKind.u8
  (Int.tmod
  (Int.ofNat
  (bitsN
  (Int.toNat
  (IntKind.wrap IntKind.u64
  (IntKind.wrap IntKind.u64
  (IntKind.wrap IntKind.u64
  (IntKind.wrap IntKind.u64
  (IntKind.wrap IntKind.u64
  (IntKind.wrap IntKind.u64
  (IntKind.wrap IntKind.u64
  (IntKind.wrap IntKind.u64
  (IntKind.wrap IntKind.u64
  (IntKind.wrap IntKind.u64
  (IntKind.wrap IntKind.u64
  (IntKind.wrap IntKind.u64
  (IntKind.wrap IntKind.u64
  (IntKind.wrap IntKind.u64
  (IntKind.wrap IntKind.u64
  ((0 : Int) +
  IntKind.wrap
  IntKind.u64 x0) *
  (256 : Int)) +
  IntKind.wrap IntKind.u64
  x1) *
  (256 : Int)) +
  IntKind.wrap IntKind.u64 x2) *
  (256 : Int)) +
  IntKind.wrap IntKind.u64 x3) *
  (256 : Int)) +
  IntKind.wrap IntKind.u64 x4) *
  (256 : Int)) +
  IntKind.wrap IntKind.u64 x5) *
  (256 : Int)) +
  IntKind.wrap IntKind.u64 x6) *
  (256 : Int)) +
  IntKind.wrap IntKind.u64 x7)))))
  (256 : Int))))]
  fun x => nthT [Td.sc (Value.int IntKind.u8 (0 : Int))])))))))
  (0 + j))]) := by kernel_rfl
end Go.Proofs.Ytncndnlbiijdoaa.Ev

/-! What has to hold: printed by the evaluator. -/
set_option linter.unusedVariables false
set_option maxRecDepth 1000000
namespace Go.Proofs.Ytncndnlbiijdoaa.Ev
open Go Go.Proofs
theorem vc_sz1 (β : Bs) (K : AE → List (Option AObj) → Prop) : lawE Try.prog noTold 100 20 β (fun _ => 8) (cnOf 0 fun _ => []) (fun _ _ => False) 28 [.int .i64 1] (mkS []) (outK K) =
(  K (AE.returned (Value.int IntKind.i64 (1 : Int)))
  [some
  (AObj.cells
  [Value.int IntKind.i64 (0 : Int), Value.int IntKind.i64 (1 : Int), Value.int IntKind.i64 (2 : Int),
  Value.int IntKind.i64 (4 : Int), Value.int IntKind.i64 (8 : Int), Value.int IntKind.i64 (8 : Int)]
  true 1)]) := by kernel_rfl
theorem vc_sz2 (β : Bs) (K : AE → List (Option AObj) → Prop) : lawE Try.prog noTold 100 20 β (fun _ => 8) (cnOf 0 fun _ => []) (fun _ _ => False) 28 [.int .i64 2] (mkS []) (outK K) =
(  K (AE.returned (Value.int IntKind.i64 (2 : Int)))
  [some
  (AObj.cells
  [Value.int IntKind.i64 (0 : Int), Value.int IntKind.i64 (1 : Int), Value.int IntKind.i64 (2 : Int),
  Value.int IntKind.i64 (4 : Int), Value.int IntKind.i64 (8 : Int), Value.int IntKind.i64 (8 : Int)]
  true 1)]) := by kernel_rfl
theorem vc_sz3 (β : Bs) (K : AE → List (Option AObj) → Prop) : lawE Try.prog noTold 100 20 β (fun _ => 8) (cnOf 0 fun _ => []) (fun _ _ => False) 28 [.int .i64 3] (mkS []) (outK K) =
(  K (AE.returned (Value.int IntKind.i64 (4 : Int)))
  [some
  (AObj.cells
  [Value.int IntKind.i64 (0 : Int), Value.int IntKind.i64 (1 : Int), Value.int IntKind.i64 (2 : Int),
  Value.int IntKind.i64 (4 : Int), Value.int IntKind.i64 (8 : Int), Value.int IntKind.i64 (8 : Int)]
  true 1)]) := by kernel_rfl
theorem vc_sz4 (β : Bs) (K : AE → List (Option AObj) → Prop) : lawE Try.prog noTold 100 20 β (fun _ => 8) (cnOf 0 fun _ => []) (fun _ _ => False) 28 [.int .i64 4] (mkS []) (outK K) =
(  K (AE.returned (Value.int IntKind.i64 (8 : Int)))
  [some
  (AObj.cells
  [Value.int IntKind.i64 (0 : Int), Value.int IntKind.i64 (1 : Int), Value.int IntKind.i64 (2 : Int),
  Value.int IntKind.i64 (4 : Int), Value.int IntKind.i64 (8 : Int), Value.int IntKind.i64 (8 : Int)]
  true 1)]) := by kernel_rfl
theorem vc_sz5 (β : Bs) (K : AE → List (Option AObj) → Prop) : lawE Try.prog noTold 100 20 β (fun _ => 8) (cnOf 0 fun _ => []) (fun _ _ => False) 28 [.int .i64 5] (mkS []) (outK K) =
(  K (AE.returned (Value.int IntKind.i64 (8 : Int)))
  [some
  (AObj.cells
  [Value.int IntKind.i64 (0 : Int), Value.int IntKind.i64 (1 : Int), Value.int IntKind.i64 (2 : Int),
  Value.int IntKind.i64 (4 : Int), Value.int IntKind.i64 (8 : Int), Value.int IntKind.i64 (8 : Int)]
  true 1)]) := by kernel_rfl
end Go.Proofs.Ytncndnlbiijdoaa.Ev

/-! ref7.TakeRaw: told to the evaluator. -/
set_option linter.unusedVariables false
set_option linter.unusedSimpArgs false
set_option maxRecDepth 100000
namespace Go.Proofs.Ytncndnlbiijdoaa.Ev
open Go Go.Proofs Go.RowKit

structure Hd (P : Prop) : Prop where
  ok : P
def u0 (x : Int) : Int := IntKind.wrap .u64 ((0 : Int) + IntKind.wrap .u64 x)
def us (a x : Int) : Int := IntKind.wrap .u64 (IntKind.wrap .u64 (a * (256 : Int)) + IntKind.wrap .u64 x)
theorem u0_nat {n : Nat} (h : n < 256) : u0 (n : Int) = (n : Int) := by
  unfold u0; rw [wrap64u (by omega), Int.zero_add, wrap64u (by omega)]
theorem us_nat {a n : Nat} (h : a < 72057594037927936) (hn : n < 256) : us (a : Int) (n : Int) = ((a * 256 + n : Nat) : Int) := by
  unfold us
  have e : (a : Int) * (256 : Int) = ((a * 256 : Nat) : Int) := by omega
  rw [e, wrap64u (n := a * 256) (by omega), wrap64u (n := n) (by omega)]
  have e2 : ((a * 256 : Nat) : Int) + (n : Int) = ((a * 256 + n : Nat) : Int) := by omega
  rw [e2, wrap64u (by omega)]
def trB1 (x0 : Int) : Bool := ([UInt8.ofBitVec   (BitVec.ofNat 8   (Int.toNat   (IntKind.wrap IntKind.u8   (Int.tmod   (IntKind.wrap IntKind.u64   (wrF (1 : Int)   (IntKind.wrap IntKind.i64   (IntKind.wrap IntKind.u64 ((0 : Int) + IntKind.wrap IntKind.u64 x0)))))   (256 : Int)))))] ==   [UInt8.ofBitVec (BitVec.ofNat 8 (Int.toNat x0))])
def trB2 (x0 x1 : Int) : Bool := ([UInt8.ofBitVec   (BitVec.ofNat 8   (Int.toNat   (IntKind.wrap IntKind.u8   (Int.tmod   (IntKind.wrap IntKind.u64   (Int.tdiv   (IntKind.wrap IntKind.u64   (wrF (2 : Int)   (IntKind.wrap IntKind.i64   (IntKind.wrap IntKind.u64   (IntKind.wrap IntKind.u64   (IntKind.wrap IntKind.u64 ((0 : Int) + IntKind.wrap IntKind.u64 x0) *   (256 : Int)) +   IntKind.wrap IntKind.u64 x1)))))   (256 : Int)))   (256 : Int))))),   UInt8.ofBitVec   (BitVec.ofNat 8   (Int.toNat   (IntKind.wrap IntKind.u8   (Int.tmod   (IntKind.wrap IntKind.u64   (wrF (2 : Int)   (IntKind.wrap IntKind.i64   (IntKind.wrap IntKind.u64   (IntKind.wrap IntKind.u64   (IntKind.wrap IntKind.u64 ((0 : Int) + IntKind.wrap IntKind.u64 x0) *   (256 : Int)) +   IntKind.wrap IntKind.u64 x1)))))   (256 : Int)))))] ==   [UInt8.ofBitVec (BitVec.ofNat 8 (Int.toNat x0)),   UInt8.ofBitVec (BitVec.ofNat 8 (Int.toNat x1))])
def trB3 (x0 x1 x2 x3 : Int) : Bool := ([UInt8.ofBitVec   (BitVec.ofNat 8   (Int.toNat   (IntKind.wrap IntKind.u8   (Int.tmod   (IntKind.wrap IntKind.u64   (Int.tdiv   (IntKind.wrap IntKind.u64   (Int.tdiv   (IntKind.wrap IntKind.u64   (Int.tdiv   (IntKind.wrap IntKind.u64   (wrF (3 : Int)   (IntKind.wrap IntKind.i64   (IntKind.wrap IntKind.u64   (IntKind.wrap IntKind.u64   (IntKind.wrap IntKind.u64   (IntKind.wrap IntKind.u64   (IntKind.wrap IntKind.u64   (IntKind.wrap IntKind.u64   (IntKind.wrap IntKind.u64   ((0 : Int) + IntKind.wrap IntKind.u64 x0) *   (256 : Int)) +   IntKind.wrap IntKind.u64 x1) *   (256 : Int)) +   IntKind.wrap IntKind.u64 x2) *   (256 : Int)) +   IntKind.wrap IntKind.u64 x3)))))   (256 : Int)))   (256 : Int)))   (256 : Int)))   (256 : Int))))),   UInt8.ofBitVec   (BitVec.ofNat 8   (Int.toNat   (IntKind.wrap IntKind.u8   (Int.tmod   (IntKind.wrap IntKind.u64   (Int.tdiv   (IntKind.wrap IntKind.u64   (Int.tdiv   (IntKind.wrap IntKind.u64   (wrF (3 : Int)   (IntKind.wrap IntKind.i64   (IntKind.wrap IntKind.u64   (IntKind.wrap IntKind.u64   (IntKind.wrap IntKind.u64   (IntKind.wrap IntKind.u64   (IntKind.wrap IntKind.u64   (IntKind.wrap IntKind.u64   (IntKind.wrap IntKind.u64   ((0 : Int) + IntKind.wrap IntKind.u64 x0) *   (256 : Int)) +   IntKind.wrap IntKind.u64 x1) *   (256 : Int)) +   IntKind.wrap IntKind.u64 x2) *   (256 : Int)) +   IntKind.wrap IntKind.u64 x3)))))   (256 : Int)))   (256 : Int)))   (256 : Int))))),   UInt8.ofBitVec   (BitVec.ofNat 8   (Int.toNat   (IntKind.wrap IntKind.u8   (Int.tmod   (IntKind.wrap IntKind.u64   (Int.tdiv   (IntKind.wrap IntKind.u64   (wrF (3 : Int)   (IntKind.wrap IntKind.i64   (IntKind.wrap IntKind.u64   (IntKind.wrap IntKind.u64   (IntKind.wrap IntKind.u64   (IntKind.wrap IntKind.u64   (IntKind.wrap IntKind.u64   (IntKind.wrap IntKind.u64   (IntKind.wrap IntKind.u64   ((0 : Int) + IntKind.wrap IntKind.u64 x0) *   (256 : Int)) +   IntKind.wrap IntKind.u64 x1) *   (256 : Int)) +   IntKind.wrap IntKind.u64 x2) *   (256 : Int)) +   IntKind.wrap IntKind.u64 x3)))))   (256 : Int)))   (256 : Int))))),   UInt8.ofBitVec   (BitVec.ofNat 8   (Int.toNat   (IntKind.wrap IntKind.u8   (Int.tmod   (IntKind.wrap IntKind.u64   (wrF (3 : Int)   (IntKind.wrap IntKind.i64   (IntKind.wrap IntKind.u64   (IntKind.wrap IntKind.u64   (IntKind.wrap IntKind.u64   (IntKind.wrap IntKind.u64   (IntKind.wrap IntKind.u64   (IntKind.wrap IntKind.u64   (IntKind.wrap IntKind.u64   ((0 : Int) + IntKind.wrap IntKind.u64 x0) *   (256 : Int)) +   IntKind.wrap IntKind.u64 x1) *   (256 : Int)) +   IntKind.wrap IntKind.u64 x2) *   (256 : Int)) +   IntKind.wrap IntKind.u64 x3)))))   (256 : Int)))))] ==   [UInt8.ofBitVec (BitVec.ofNat 8 (Int.toNat x0)),   UInt8.ofBitVec (BitVec.ofNat 8 (Int.toNat x1)),   UInt8.ofBitVec (BitVec.ofNat 8 (Int.toNat x2)),   UInt8.ofBitVec (BitVec.ofNat 8 (Int.toNat x3))])
def trB4 (x0 x1 x2 x3 x4 x5 x6 x7 : Int) : Bool := ([UInt8.ofBitVec   (BitVec.ofNat 8   (Int.toNat   (IntKind.wrap IntKind.u8   (Int.tmod   (IntKind.wrap IntKind.u64   (Int.tdiv   (IntKind.wrap IntKind.u64   (Int.tdiv   (IntKind.wrap IntKind.u64   (Int.tdiv   (IntKind.wrap IntKind.u64   (Int.tdiv   (IntKind.wrap IntKind.u64   (Int.tdiv   (IntKind.wrap IntKind.u64   (Int.tdiv   (IntKind.wrap IntKind.u64   (Int.tdiv   (IntKind.wrap IntKind.u64   (wrF (4 : Int)   (IntKind.wrap IntKind.i64   (IntKind.wrap IntKind.u64   (IntKind.wrap IntKind.u64   (IntKind.wrap IntKind.u64   (IntKind.wrap IntKind.u64   (IntKind.wrap IntKind.u64   (IntKind.wrap IntKind.u64   (IntKind.wrap IntKind.u64   (IntKind.wrap IntKind.u64   (IntKind.wrap IntKind.u64   (IntKind.wrap IntKind.u64   (IntKind.wrap   IntKind.u64   (IntKind.wrap   IntKind.u64   (IntKind.wrap   IntKind.u64   (IntKind.wrap   IntKind.u64   (IntKind.wrap   IntKind.u64   ((0 :   Int) +   IntKind.wrap   IntKind.u64   x0) *   (256 :   Int)) +   IntKind.wrap   IntKind.u64   x1) *   (256 :   Int)) +   IntKind.wrap   IntKind.u64   x2) *   (256 : Int)) +   IntKind.wrap IntKind.u64   x3) *   (256 : Int)) +   IntKind.wrap IntKind.u64 x4) *   (256 : Int)) +   IntKind.wrap IntKind.u64 x5) *   (256 : Int)) +   IntKind.wrap IntKind.u64 x6) *   (256 : Int)) +   IntKind.wrap IntKind.u64 x7)))))   (256 : Int)))   (256 : Int)))   (256 : Int)))   (256 : Int)))   (256 : Int)))   (256 : Int)))   (256 : Int)))   (256 : Int))))),   UInt8.ofBitVec   (BitVec.ofNat 8   (Int.toNat   (IntKind.wrap IntKind.u8   (Int.tmod   (IntKind.wrap IntKind.u64   (Int.tdiv   (IntKind.wrap IntKind.u64   (Int.tdiv   (IntKind.wrap IntKind.u64   (Int.tdiv   (IntKind.wrap IntKind.u64   (Int.tdiv   (IntKind.wrap IntKind.u64   (Int.tdiv   (IntKind.wrap IntKind.u64   (Int.tdiv   (IntKind.wrap IntKind.u64   (wrF (4 : Int)   (IntKind.wrap IntKind.i64   (IntKind.wrap IntKind.u64   (IntKind.wrap IntKind.u64   (IntKind.wrap IntKind.u64   (IntKind.wrap IntKind.u64   (IntKind.wrap IntKind.u64   (IntKind.wrap IntKind.u64   (IntKind.wrap IntKind.u64   (IntKind.wrap IntKind.u64   (IntKind.wrap IntKind.u64   (IntKind.wrap IntKind.u64   (IntKind.wrap IntKind.u64   (IntKind.wrap   IntKind.u64   (IntKind.wrap   IntKind.u64   (IntKind.wrap   IntKind.u64   (IntKind.wrap   IntKind.u64   ((0 :   Int) +   IntKind.wrap   IntKind.u64   x0) *   (256 :   Int)) +   IntKind.wrap   IntKind.u64   x1) *   (256 : Int)) +   IntKind.wrap   IntKind.u64 x2) *   (256 : Int)) +   IntKind.wrap IntKind.u64   x3) *   (256 : Int)) +   IntKind.wrap IntKind.u64 x4) *   (256 : Int)) +   IntKind.wrap IntKind.u64 x5) *   (256 : Int)) +   IntKind.wrap IntKind.u64 x6) *   (256 : Int)) +   IntKind.wrap IntKind.u64 x7)))))   (256 : Int)))   (256 : Int)))   (256 : Int)))   (256 : Int)))   (256 : Int)))   (256 : Int)))   (256 : Int))))),   UInt8.ofBitVec   (BitVec.ofNat 8   (Int.toNat   (IntKind.wrap IntKind.u8   (Int.tmod   (IntKind.wrap IntKind.u64   (Int.tdiv   (IntKind.wrap IntKind.u64   (Int.tdiv   (IntKind.wrap IntKind.u64   (Int.tdiv   (IntKind.wrap IntKind.u64   (Int.tdiv   (IntKind.wrap IntKind.u64   (Int.tdiv   (IntKind.wrap IntKind.u64   (wrF (4 : Int)   (IntKind.wrap IntKind.i64   (IntKind.wrap IntKind.u64   (IntKind.wrap IntKind.u64   (IntKind.wrap IntKind.u64   (IntKind.wrap IntKind.u64   (IntKind.wrap IntKind.u64   (IntKind.wrap IntKind.u64   (IntKind.wrap IntKind.u64   (IntKind.wrap IntKind.u64   (IntKind.wrap IntKind.u64   (IntKind.wrap IntKind.u64   (IntKind.wrap IntKind.u64   (IntKind.wrap IntKind.u64   (IntKind.wrap   IntKind.u64   (IntKind.wrap   IntKind.u64   (IntKind.wrap   IntKind.u64   ((0 :   Int) +   IntKind.wrap   IntKind.u64   x0) *   (256 :   Int)) +   IntKind.wrap   IntKind.u64   x1) *   (256 : Int)) +   IntKind.wrap IntKind.u64   x2) *   (256 : Int)) +   IntKind.wrap IntKind.u64 x3) *   (256 : Int)) +   IntKind.wrap IntKind.u64 x4) *   (256 : Int)) +   IntKind.wrap IntKind.u64 x5) *   (256 : Int)) +   IntKind.wrap IntKind.u64 x6) *   (256 : Int)) +   IntKind.wrap IntKind.u64 x7)))))   (256 : Int)))   (256 : Int)))   (256 : Int)))   (256 : Int)))   (256 : Int)))   (256 : Int))))),   UInt8.ofBitVec   (BitVec.ofNat 8   (Int.toNat   (IntKind.wrap IntKind.u8   (Int.tmod   (IntKind.wrap IntKind.u64   (Int.tdiv   (IntKind.wrap IntKind.u64   (Int.tdiv   (IntKind.wrap IntKind.u64   (Int.tdiv   (IntKind.wrap IntKind.u64   (Int.tdiv   (IntKind.wrap IntKind.u64   (wrF (4 : Int)   (IntKind.wrap IntKind.i64   (IntKind.wrap IntKind.u64   (IntKind.wrap IntKind.u64   (IntKind.wrap IntKind.u64   (IntKind.wrap IntKind.u64   (IntKind.wrap IntKind.u64   (IntKind.wrap IntKind.u64   (IntKind.wrap IntKind.u64   (IntKind.wrap IntKind.u64   (IntKind.wrap IntKind.u64   (IntKind.wrap IntKind.u64   (IntKind.wrap IntKind.u64   (IntKind.wrap IntKind.u64   (IntKind.wrap IntKind.u64   (IntKind.wrap   IntKind.u64   (IntKind.wrap   IntKind.u64   ((0 : Int) +   IntKind.wrap   IntKind.u64   x0) *   (256 : Int)) +   IntKind.wrap   IntKind.u64 x1) *   (256 : Int)) +   IntKind.wrap IntKind.u64   x2) *   (256 : Int)) +   IntKind.wrap IntKind.u64 x3) *   (256 : Int)) +   IntKind.wrap IntKind.u64 x4) *   (256 : Int)) +   IntKind.wrap IntKind.u64 x5) *   (256 : Int)) +   IntKind.wrap IntKind.u64 x6) *   (256 : Int)) +   IntKind.wrap IntKind.u64 x7)))))   (256 : Int)))   (256 : Int)))   (256 : Int)))   (256 : Int)))   (256 : Int))))),   UInt8.ofBitVec   (BitVec.ofNat 8   (Int.toNat   (IntKind.wrap IntKind.u8   (Int.tmod   (IntKind.wrap IntKind.u64   (Int.tdiv   (IntKind.wrap IntKind.u64   (Int.tdiv   (IntKind.wrap IntKind.u64   (Int.tdiv   (IntKind.wrap IntKind.u64   (wrF (4 : Int)   (IntKind.wrap IntKind.i64   (IntKind.wrap IntKind.u64   (IntKind.wrap IntKind.u64   (IntKind.wrap IntKind.u64   (IntKind.wrap IntKind.u64   (IntKind.wrap IntKind.u64   (IntKind.wrap IntKind.u64   (IntKind.wrap IntKind.u64   (IntKind.wrap IntKind.u64   (IntKind.wrap IntKind.u64   (IntKind.wrap IntKind.u64   (IntKind.wrap IntKind.u64   (IntKind.wrap IntKind.u64   (IntKind.wrap IntKind.u64   (IntKind.wrap IntKind.u64   (IntKind.wrap   IntKind.u64   ((0 : Int) +   IntKind.wrap   IntKind.u64   x0) *   (256 : Int)) +   IntKind.wrap IntKind.u64   x1) *   (256 : Int)) +   IntKind.wrap IntKind.u64 x2) *   (256 : Int)) +   IntKind.wrap IntKind.u64 x3) *   (256 : Int)) +   IntKind.wrap IntKind.u64 x4) *   (256 : Int)) +   IntKind.wrap IntKind.u64 x5) *   (256 : Int)) +   IntKind.wrap IntKind.u64 x6) *   (256 : Int)) +   IntKind.wrap IntKind.u64 x7)))))   (256 : Int)))   (256 : Int)))   (256 : Int)))   (256 : Int))))),   UInt8.ofBitVec   (BitVec.ofNat 8   (Int.toNat   (IntKind.wrap IntKind.u8   (Int.tmod   (IntKind.wrap IntKind.u64   (Int.tdiv   (IntKind.wrap IntKind.u64   (Int.tdiv   (IntKind.wrap IntKind.u64   (wrF (4 : Int)   (IntKind.wrap IntKind.i64   (IntKind.wrap IntKind.u64   (IntKind.wrap IntKind.u64   (IntKind.wrap IntKind.u64   (IntKind.wrap IntKind.u64   (IntKind.wrap IntKind.u64   (IntKind.wrap IntKind.u64   (IntKind.wrap IntKind.u64   (IntKind.wrap IntKind.u64   (IntKind.wrap IntKind.u64   (IntKind.wrap IntKind.u64   (IntKind.wrap IntKind.u64   (IntKind.wrap IntKind.u64   (IntKind.wrap IntKind.u64   (IntKind.wrap IntKind.u64   (IntKind.wrap IntKind.u64   ((0 : Int) +   IntKind.wrap   IntKind.u64 x0) *   (256 : Int)) +   IntKind.wrap IntKind.u64   x1) *   (256 : Int)) +   IntKind.wrap IntKind.u64 x2) *   (256 : Int)) +   IntKind.wrap IntKind.u64 x3) *   (256 : Int)) +   IntKind.wrap IntKind.u64 x4) *   (256 : Int)) +   IntKind.wrap IntKind.u64 x5) *   (256 : Int)) +   IntKind.wrap IntKind.u64 x6) *   (256 : Int)) +   IntKind.wrap IntKind.u64 x7)))))   (256 : Int)))   (256 : Int)))   (256 : Int))))),   UInt8.ofBitVec   (BitVec.ofNat 8   (Int.toNat   (IntKind.wrap IntKind.u8   (Int.tmod   (IntKind.wrap IntKind.u64   (Int.tdiv   (IntKind.wrap IntKind.u64   (wrF (4 : Int)   (IntKind.wrap IntKind.i64   (IntKind.wrap IntKind.u64   (IntKind.wrap IntKind.u64   (IntKind.wrap IntKind.u64   (IntKind.wrap IntKind.u64   (IntKind.wrap IntKind.u64   (IntKind.wrap IntKind.u64   (IntKind.wrap IntKind.u64   (IntKind.wrap IntKind.u64   (IntKind.wrap IntKind.u64   (IntKind.wrap IntKind.u64   (IntKind.wrap IntKind.u64   (IntKind.wrap IntKind.u64   (IntKind.wrap IntKind.u64   (IntKind.wrap IntKind.u64   (IntKind.wrap IntKind.u64   ((0 : Int) +   IntKind.wrap IntKind.u64   x0) *   (256 : Int)) +   IntKind.wrap IntKind.u64 x1) *   (256 : Int)) +   IntKind.wrap IntKind.u64 x2) *   (256 : Int)) +   IntKind.wrap IntKind.u64 x3) *   (256 : Int)) +   IntKind.wrap IntKind.u64 x4) *   (256 : Int)) +   IntKind.wrap IntKind.u64 x5) *   (256 : Int)) +   IntKind.wrap IntKind.u64 x6) *   (256 : Int)) +   IntKind.wrap IntKind.u64 x7)))))   (256 : Int)))   (256 : Int))))),   UInt8.ofBitVec   (BitVec.ofNat 8   (Int.toNat   (IntKind.wrap IntKind.u8   (Int.tmod   (IntKind.wrap IntKind.u64   (wrF (4 : Int)   (IntKind.wrap IntKind.i64   (IntKind.wrap IntKind.u64   (IntKind.wrap IntKind.u64   (IntKind.wrap IntKind.u64   (IntKind.wrap IntKind.u64   (IntKind.wrap IntKind.u64   (IntKind.wrap IntKind.u64   (IntKind.wrap IntKind.u64   (IntKind.wrap IntKind.u64   (IntKind.wrap IntKind.u64   (IntKind.wrap IntKind.u64   (IntKind.wrap IntKind.u64   (IntKind.wrap IntKind.u64   (IntKind.wrap IntKind.u64   (IntKind.wrap IntKind.u64   (IntKind.wrap IntKind.u64   ((0 : Int) +   IntKind.wrap IntKind.u64   x0) *   (256 : Int)) +   IntKind.wrap IntKind.u64 x1) *   (256 : Int)) +   IntKind.wrap IntKind.u64 x2) *   (256 : Int)) +   IntKind.wrap IntKind.u64 x3) *   (256 : Int)) +   IntKind.wrap IntKind.u64 x4) *   (256 : Int)) +   IntKind.wrap IntKind.u64 x5) *   (256 : Int)) +   IntKind.wrap IntKind.u64 x6) *   (256 : Int)) +   IntKind.wrap IntKind.u64 x7)))))   (256 : Int)))))] ==   [UInt8.ofBitVec (BitVec.ofNat 8 (Int.toNat x0)),   UInt8.ofBitVec (BitVec.ofNat 8 (Int.toNat x1)),   UInt8.ofBitVec (BitVec.ofNat 8 (Int.toNat x2)),   UInt8.ofBitVec (BitVec.ofNat 8 (Int.toNat x3)),   UInt8.ofBitVec (BitVec.ofNat 8 (Int.toNat x4)),   UInt8.ofBitVec (BitVec.ofNat 8 (Int.toNat x5)),   UInt8.ofBitVec (BitVec.ofNat 8 (Int.toNat x6)),   UInt8.ofBitVec (BitVec.ofNat 8 (Int.toNat x7))])
def trB5 (x0 x1 x2 x3 x4 x5 x6 x7 : Int) : Bool := ([UInt8.ofBitVec   (BitVec.ofNat 8   (Int.toNat   (IntKind.wrap IntKind.u8   (Int.tmod   (IntKind.wrap IntKind.u64   (Int.tdiv   (IntKind.wrap IntKind.u64   (Int.tdiv   (IntKind.wrap IntKind.u64   (Int.tdiv   (IntKind.wrap IntKind.u64   (Int.tdiv   (IntKind.wrap IntKind.u64   (Int.tdiv   (IntKind.wrap IntKind.u64   (Int.tdiv   (IntKind.wrap IntKind.u64   (Int.tdiv   (Int.ofNat   (bitsN   (Int.toNat   (IntKind.wrap IntKind.u64   (IntKind.wrap IntKind.u64   (IntKind.wrap IntKind.u64   (IntKind.wrap IntKind.u64   (IntKind.wrap IntKind.u64   (IntKind.wrap IntKind.u64   (IntKind.wrap IntKind.u64   (IntKind.wrap IntKind.u64   (IntKind.wrap IntKind.u64   (IntKind.wrap IntKind.u64   (IntKind.wrap   IntKind.u64   (IntKind.wrap   IntKind.u64   (IntKind.wrap   IntKind.u64   (IntKind.wrap   IntKind.u64   (IntKind.wrap   IntKind.u64   ((0 :   Int) +   IntKind.wrap   IntKind.u64   x0) *   (256 :   Int)) +   IntKind.wrap   IntKind.u64   x1) *   (256 :   Int)) +   IntKind.wrap   IntKind.u64   x2) *   (256 : Int)) +   IntKind.wrap IntKind.u64   x3) *   (256 : Int)) +   IntKind.wrap IntKind.u64 x4) *   (256 : Int)) +   IntKind.wrap IntKind.u64 x5) *   (256 : Int)) +   IntKind.wrap IntKind.u64 x6) *   (256 : Int)) +   IntKind.wrap IntKind.u64 x7)))))   (256 : Int)))   (256 : Int)))   (256 : Int)))   (256 : Int)))   (256 : Int)))   (256 : Int)))   (256 : Int)))   (256 : Int))))),   UInt8.ofBitVec   (BitVec.ofNat 8   (Int.toNat   (IntKind.wrap IntKind.u8   (Int.tmod   (IntKind.wrap IntKind.u64   (Int.tdiv   (IntKind.wrap IntKind.u64   (Int.tdiv   (IntKind.wrap IntKind.u64   (Int.tdiv   (IntKind.wrap IntKind.u64   (Int.tdiv   (IntKind.wrap IntKind.u64   (Int.tdiv   (IntKind.wrap IntKind.u64   (Int.tdiv   (Int.ofNat   (bitsN   (Int.toNat   (IntKind.wrap IntKind.u64   (IntKind.wrap IntKind.u64   (IntKind.wrap IntKind.u64   (IntKind.wrap IntKind.u64   (IntKind.wrap IntKind.u64   (IntKind.wrap IntKind.u64   (IntKind.wrap IntKind.u64   (IntKind.wrap IntKind.u64   (IntKind.wrap IntKind.u64   (IntKind.wrap IntKind.u64   (IntKind.wrap IntKind.u64   (IntKind.wrap   IntKind.u64   (IntKind.wrap   IntKind.u64   (IntKind.wrap   IntKind.u64   (IntKind.wrap   IntKind.u64   ((0 :   Int) +   IntKind.wrap   IntKind.u64   x0) *   (256 :   Int)) +   IntKind.wrap   IntKind.u64   x1) *   (256 : Int)) +   IntKind.wrap   IntKind.u64 x2) *   (256 : Int)) +   IntKind.wrap IntKind.u64   x3) *   (256 : Int)) +   IntKind.wrap IntKind.u64 x4) *   (256 : Int)) +   IntKind.wrap IntKind.u64 x5) *   (256 : Int)) +   IntKind.wrap IntKind.u64 x6) *   (256 : Int)) +   IntKind.wrap IntKind.u64 x7)))))   (256 : Int)))   (256 : Int)))   (256 : Int)))   (256 : Int)))   (256 : Int)))   (256 : Int)))   (256 : Int))))),   UInt8.ofBitVec   (BitVec.ofNat 8   (Int.toNat   (IntKind.wrap IntKind.u8   (Int.tmod   (IntKind.wrap IntKind.u64   (Int.tdiv   (IntKind.wrap IntKind.u64   (Int.tdiv   (IntKind.wrap IntKind.u64   (Int.tdiv   (IntKind.wrap IntKind.u64   (Int.tdiv   (IntKind.wrap IntKind.u64   (Int.tdiv   (Int.ofNat   (bitsN   (Int.toNat   (IntKind.wrap IntKind.u64   (IntKind.wrap IntKind.u64   (IntKind.wrap IntKind.u64   (IntKind.wrap IntKind.u64   (IntKind.wrap IntKind.u64   (IntKind.wrap IntKind.u64   (IntKind.wrap IntKind.u64   (IntKind.wrap IntKind.u64   (IntKind.wrap IntKind.u64   (IntKind.wrap IntKind.u64   (IntKind.wrap IntKind.u64   (IntKind.wrap IntKind.u64   (IntKind.wrap   IntKind.u64   (IntKind.wrap   IntKind.u64   (IntKind.wrap   IntKind.u64   ((0 :   Int) +   IntKind.wrap   IntKind.u64   x0) *   (256 :   Int)) +   IntKind.wrap   IntKind.u64   x1) *   (256 : Int)) +   IntKind.wrap IntKind.u64   x2) *   (256 : Int)) +   IntKind.wrap IntKind.u64 x3) *   (256 : Int)) +   IntKind.wrap IntKind.u64 x4) *   (256 : Int)) +   IntKind.wrap IntKind.u64 x5) *   (256 : Int)) +   IntKind.wrap IntKind.u64 x6) *   (256 : Int)) +   IntKind.wrap IntKind.u64 x7)))))   (256 : Int)))   (256 : Int)))   (256 : Int)))   (256 : Int)))   (256 : Int)))   (256 : Int))))),   UInt8.ofBitVec   (BitVec.ofNat 8   (Int.toNat   (IntKind.wrap IntKind.u8   (Int.tmod   (IntKind.wrap IntKind.u64   (Int.tdiv   (IntKind.wrap IntKind.u64   (Int.tdiv   (IntKind.wrap IntKind.u64   (Int.tdiv   (IntKind.wrap IntKind.u64   (Int.tdiv   (Int.ofNat   (bitsN   (Int.toNat   (IntKind.wrap IntKind.u64   (IntKind.wrap IntKind.u64   (IntKind.wrap IntKind.u64   (IntKind.wrap IntKind.u64   (IntKind.wrap IntKind.u64   (IntKind.wrap IntKind.u64   (IntKind.wrap IntKind.u64   (IntKind.wrap IntKind.u64   (IntKind.wrap IntKind.u64   (IntKind.wrap IntKind.u64   (IntKind.wrap IntKind.u64   (IntKind.wrap IntKind.u64   (IntKind.wrap IntKind.u64   (IntKind.wrap   IntKind.u64   (IntKind.wrap   IntKind.u64   ((0 : Int) +   IntKind.wrap   IntKind.u64   x0) *   (256 : Int)) +   IntKind.wrap   IntKind.u64 x1) *   (256 : Int)) +   IntKind.wrap IntKind.u64   x2) *   (256 : Int)) +   IntKind.wrap IntKind.u64 x3) *   (256 : Int)) +   IntKind.wrap IntKind.u64 x4) *   (256 : Int)) +   IntKind.wrap IntKind.u64 x5) *   (256 : Int)) +   IntKind.wrap IntKind.u64 x6) *   (256 : Int)) +   IntKind.wrap IntKind.u64 x7)))))   (256 : Int)))   (256 : Int)))   (256 : Int)))   (256 : Int)))   (256 : Int))))),   UInt8.ofBitVec   (BitVec.ofNat 8   (Int.toNat   (IntKind.wrap IntKind.u8   (Int.tmod   (IntKind.wrap IntKind.u64   (Int.tdiv   (IntKind.wrap IntKind.u64   (Int.tdiv   (IntKind.wrap IntKind.u64   (Int.tdiv   (Int.ofNat   (bitsN   (Int.toNat   (IntKind.wrap IntKind.u64   (IntKind.wrap IntKind.u64   (IntKind.wrap IntKind.u64   (IntKind.wrap IntKind.u64   (IntKind.wrap IntKind.u64   (IntKind.wrap IntKind.u64   (IntKind.wrap IntKind.u64   (IntKind.wrap IntKind.u64   (IntKind.wrap IntKind.u64   (IntKind.wrap IntKind.u64   (IntKind.wrap IntKind.u64   (IntKind.wrap IntKind.u64   (IntKind.wrap IntKind.u64   (IntKind.wrap IntKind.u64   (IntKind.wrap   IntKind.u64   ((0 : Int) +   IntKind.wrap   IntKind.u64   x0) *   (256 : Int)) +   IntKind.wrap IntKind.u64   x1) *   (256 : Int)) +   IntKind.wrap IntKind.u64 x2) *   (256 : Int)) +   IntKind.wrap IntKind.u64 x3) *   (256 : Int)) +   IntKind.wrap IntKind.u64 x4) *   (256 : Int)) +   IntKind.wrap IntKind.u64 x5) *   (256 : Int)) +   IntKind.wrap IntKind.u64 x6) *   (256 : Int)) +   IntKind.wrap IntKind.u64 x7)))))   (256 : Int)))   (256 : Int)))   (256 : Int)))   (256 : Int))))),   UInt8.ofBitVec   (BitVec.ofNat 8   (Int.toNat   (IntKind.wrap IntKind.u8   (Int.tmod   (IntKind.wrap IntKind.u64   (Int.tdiv   (IntKind.wrap IntKind.u64   (Int.tdiv   (Int.ofNat   (bitsN   (Int.toNat   (IntKind.wrap IntKind.u64   (IntKind.wrap IntKind.u64   (IntKind.wrap IntKind.u64   (IntKind.wrap IntKind.u64   (IntKind.wrap IntKind.u64   (IntKind.wrap IntKind.u64   (IntKind.wrap IntKind.u64   (IntKind.wrap IntKind.u64   (IntKind.wrap IntKind.u64   (IntKind.wrap IntKind.u64   (IntKind.wrap IntKind.u64   (IntKind.wrap IntKind.u64   (IntKind.wrap IntKind.u64   (IntKind.wrap IntKind.u64   (IntKind.wrap IntKind.u64   ((0 : Int) +   IntKind.wrap   IntKind.u64 x0) *   (256 : Int)) +   IntKind.wrap IntKind.u64   x1) *   (256 : Int)) +   IntKind.wrap IntKind.u64 x2) *   (256 : Int)) +   IntKind.wrap IntKind.u64 x3) *   (256 : Int)) +   IntKind.wrap IntKind.u64 x4) *   (256 : Int)) +   IntKind.wrap IntKind.u64 x5) *   (256 : Int)) +   IntKind.wrap IntKind.u64 x6) *   (256 : Int)) +   IntKind.wrap IntKind.u64 x7)))))   (256 : Int)))   (256 : Int)))   (256 : Int))))),   UInt8.ofBitVec   (BitVec.ofNat 8   (Int.toNat   (IntKind.wrap IntKind.u8   (Int.tmod   (IntKind.wrap IntKind.u64   (Int.tdiv   (Int.ofNat   (bitsN   (Int.toNat   (IntKind.wrap IntKind.u64   (IntKind.wrap IntKind.u64   (IntKind.wrap IntKind.u64   (IntKind.wrap IntKind.u64   (IntKind.wrap IntKind.u64   (IntKind.wrap IntKind.u64   (IntKind.wrap IntKind.u64   (IntKind.wrap IntKind.u64   (IntKind.wrap IntKind.u64   (IntKind.wrap IntKind.u64   (IntKind.wrap IntKind.u64   (IntKind.wrap IntKind.u64   (IntKind.wrap IntKind.u64   (IntKind.wrap IntKind.u64   (IntKind.wrap IntKind.u64   ((0 : Int) +   IntKind.wrap IntKind.u64   x0) *   (256 : Int)) +   IntKind.wrap IntKind.u64 x1) *   (256 : Int)) +   IntKind.wrap IntKind.u64 x2) *   (256 : Int)) +   IntKind.wrap IntKind.u64 x3) *   (256 : Int)) +   IntKind.wrap IntKind.u64 x4) *   (256 : Int)) +   IntKind.wrap IntKind.u64 x5) *   (256 : Int)) +   IntKind.wrap IntKind.u64 x6) *   (256 : Int)) +   IntKind.wrap IntKind.u64 x7)))))   (256 : Int)))   (256 : Int))))),   UInt8.ofBitVec   (BitVec.ofNat 8   (Int.toNat   (IntKind.wrap IntKind.u8   (Int.tmod   (Int.ofNat   (bitsN   (Int.toNat   (IntKind.wrap IntKind.u64   (IntKind.wrap IntKind.u64   (IntKind.wrap IntKind.u64   (IntKind.wrap IntKind.u64   (IntKind.wrap IntKind.u64   (IntKind.wrap IntKind.u64   (IntKind.wrap IntKind.u64   (IntKind.wrap IntKind.u64   (IntKind.wrap IntKind.u64   (IntKind.wrap IntKind.u64   (IntKind.wrap IntKind.u64   (IntKind.wrap IntKind.u64   (IntKind.wrap IntKind.u64   (IntKind.wrap IntKind.u64   (IntKind.wrap IntKind.u64   ((0 : Int) +   IntKind.wrap IntKind.u64   x0) *   (256 : Int)) +   IntKind.wrap IntKind.u64 x1) *   (256 : Int)) +   IntKind.wrap IntKind.u64 x2) *   (256 : Int)) +   IntKind.wrap IntKind.u64 x3) *   (256 : Int)) +   IntKind.wrap IntKind.u64 x4) *   (256 : Int)) +   IntKind.wrap IntKind.u64 x5) *   (256 : Int)) +   IntKind.wrap IntKind.u64 x6) *   (256 : Int)) +   IntKind.wrap IntKind.u64 x7)))))   (256 : Int)))))] ==   [UInt8.ofBitVec (BitVec.ofNat 8 (Int.toNat x0)),   UInt8.ofBitVec (BitVec.ofNat 8 (Int.toNat x1)),   UInt8.ofBitVec (BitVec.ofNat 8 (Int.toNat x2)),   UInt8.ofBitVec (BitVec.ofNat 8 (Int.toNat x3)),   UInt8.ofBitVec (BitVec.ofNat 8 (Int.toNat x4)),   UInt8.ofBitVec (BitVec.ofNat 8 (Int.toNat x5)),   UInt8.ofBitVec (BitVec.ofNat 8 (Int.toNat x6)),   UInt8.ofBitVec (BitVec.ofNat 8 (Int.toNat x7))])
def trB (kd : Int) (b : List U8) : Bool := if kd = 1 then (match b with | [x0] => trB1 x0.v | _ => false) else if kd = 2 then (match b with | [x0, x1] => trB2 x0.v x1.v | _ => false) else if kd = 3 then (match b with | [x0, x1, x2, x3] => trB3 x0.v x1.v x2.v x3.v | _ => false) else if kd = 4 then (match b with | [x0, x1, x2, x3, x4, x5, x6, x7] => trB4 x0.v x1.v x2.v x3.v x4.v x5.v x6.v x7.v | _ => false) else if kd = 5 then (match b with | [x0, x1, x2, x3, x4, x5, x6, x7] => trB5 x0.v x1.v x2.v x3.v x4.v x5.v x6.v x7.v | _ => false) else false
def rvR (kd : Int) (b : List U8) : Vl := if kd = 5 then ⟨kd, 0, rdW (vwid kd) b 0⟩ else ⟨kd, wrF kd (IntKind.wrap .i64 (rdW (vwid kd) b 0 : Nat)), 0⟩
def trA (kd : Int) (b : List U8) : Ans := .rets [.agg [.sc (.int .i64 kd), .sc (.int .i64 (rvR kd b).i), .sc (.float .f64 (rvR kd b).f)], .cell (.sc (.bool (trB kd b)))]
def okTr (ts : List Ta) : Bool := match ts with
  | [.cell (.sc (.int .i64 kd)), .cell t] => decide (1 ≤ kd) && decide (kd ≤ 5) && okT U8 t && (listT U8 t).all (okA U8) && Nat.beq (listT U8 t).length (vwid kd)
  | _ => false
def ansTr (ts : List Ta) : Ans := match ts with
  | [.cell (.sc (.int .i64 kd)), .cell t] => trA kd (listT U8 t)
  | _ => .pan .nilIface
theorem tr_leaf {kd i : Int} {f : Nat} {b : List U8} {q : Bool} {M : List (Option AObj)} (h1 : i = (rvR kd b).i) (h2 : f = (rvR kd b).f) (h3 : q = trB kd b) : ∃ m2, objsR M m2 ∧ ansE (trA kd b) (.returned (.tuple ⟨[.agg ⟨[.int .i64 kd, .int .i64 i, .float .f64 f]⟩, .bool q]⟩)) (mkS m2) := by
  subst h1 h2 h3
  exact ⟨_, objsR.refl _, ⟨_, [], rfl, ⟨[], [], rfl, ⟨_, rfl, ⟨[], [], rfl, ⟨rfl, rfl, rfl⟩, [], [], rfl, ⟨rfl, rfl, rfl⟩, [], [], rfl, ⟨rfl, rfl, rfl⟩, rfl⟩⟩, [], [], rfl, ⟨rfl, rfl, rfl⟩, rfl⟩, by simp⟩⟩
theorem tr_1 {n0 : Nat} {c : Nat} {β : Bs} (h0 : n0 < 256) (b : List U8) (hb : b = ([⟨(n0 : Nat)⟩] : List U8)) : Hd (lawE Try.prog toldW1 100 20 β (fun _ => 20) (cnOf 1 fun _ => []) (fun _ _ => False) 29 [.int .i64 1, .slice (some ⟨0, 0, some 0⟩) b.length c] (mkS [some (rowO .look b)]) (outR (ansE (trA 1 b)))) := by
  subst hb
  refine ⟨?_⟩
  show lawE _ _ _ _ _ _ _ _ _ [.int .i64 1, .slice (some ⟨0, 0, some 0⟩) 1 c] _ (outK fun r m => ∃ m2, objsR m m2 ∧ ansE (trA 1 [⟨(n0 : Nat)⟩]) r (mkS m2))
  rw [vc_tr1]
  exact tr_leaf (by show wrF 1 (IntKind.wrap .i64 (u0 (n0 : Nat))) = _; rw [u0_nat h0]; rfl) rfl rfl
theorem tr_2 {n0 n1 : Nat} {c : Nat} {β : Bs} (h0 : n0 < 256) (h1 : n1 < 256) (b : List U8) (hb : b = ([⟨(n0 : Nat)⟩, ⟨(n1 : Nat)⟩] : List U8)) : Hd (lawE Try.prog toldW1 100 20 β (fun _ => 20) (cnOf 1 fun _ => []) (fun _ _ => False) 29 [.int .i64 2, .slice (some ⟨0, 0, some 0⟩) b.length c] (mkS [some (rowO .look b)]) (outR (ansE (trA 2 b)))) := by
  subst hb
  refine ⟨?_⟩
  show lawE _ _ _ _ _ _ _ _ _ [.int .i64 2, .slice (some ⟨0, 0, some 0⟩) 2 c] _ (outK fun r m => ∃ m2, objsR m m2 ∧ ansE (trA 2 [⟨(n0 : Nat)⟩, ⟨(n1 : Nat)⟩]) r (mkS m2))
  rw [vc_tr2]
  exact tr_leaf (by show wrF 2 (IntKind.wrap .i64 (us (u0 (n0 : Nat)) (n1 : Nat))) = _; rw [u0_nat h0, us_nat (by omega) h1]; rfl) rfl rfl
theorem tr_3 {n0 n1 n2 n3 : Nat} {c : Nat} {β : Bs} (h0 : n0 < 256) (h1 : n1 < 256) (h2 : n2 < 256) (h3 : n3 < 256) (b : List U8) (hb : b = ([⟨(n0 : Nat)⟩, ⟨(n1 : Nat)⟩, ⟨(n2 : Nat)⟩, ⟨(n3 : Nat)⟩] : List U8)) : Hd (lawE Try.prog toldW1 100 20 β (fun _ => 20) (cnOf 1 fun _ => []) (fun _ _ => False) 29 [.int .i64 3, .slice (some ⟨0, 0, some 0⟩) b.length c] (mkS [some (rowO .look b)]) (outR (ansE (trA 3 b)))) := by
  subst hb
  refine ⟨?_⟩
  show lawE _ _ _ _ _ _ _ _ _ [.int .i64 3, .slice (some ⟨0, 0, some 0⟩) 4 c] _ (outK fun r m => ∃ m2, objsR m m2 ∧ ansE (trA 3 [⟨(n0 : Nat)⟩, ⟨(n1 : Nat)⟩, ⟨(n2 : Nat)⟩, ⟨(n3 : Nat)⟩]) r (mkS m2))
  rw [vc_tr3]
  exact tr_leaf (by show wrF 3 (IntKind.wrap .i64 (us (us (us (u0 (n0 : Nat)) (n1 : Nat)) (n2 : Nat)) (n3 : Nat))) = _; rw [u0_nat h0, us_nat (by omega) h1, us_nat (by omega) h2, us_nat (by omega) h3]; rfl) rfl rfl
theorem tr_4 {n0 n1 n2 n3 n4 n5 n6 n7 : Nat} {c : Nat} {β : Bs} (h0 : n0 < 256) (h1 : n1 < 256) (h2 : n2 < 256) (h3 : n3 < 256) (h4 : n4 < 256) (h5 : n5 < 256) (h6 : n6 < 256) (h7 : n7 < 256) (b : List U8) (hb : b = ([⟨(n0 : Nat)⟩, ⟨(n1 : Nat)⟩, ⟨(n2 : Nat)⟩, ⟨(n3 : Nat)⟩, ⟨(n4 : Nat)⟩, ⟨(n5 : Nat)⟩, ⟨(n6 : Nat)⟩, ⟨(n7 : Nat)⟩] : List U8)) : Hd (lawE Try.prog toldW1 100 20 β (fun _ => 20) (cnOf 1 fun _ => []) (fun _ _ => False) 29 [.int .i64 4, .slice (some ⟨0, 0, some 0⟩) b.length c] (mkS [some (rowO .look b)]) (outR (ansE (trA 4 b)))) := by
  subst hb
  refine ⟨?_⟩
  show lawE _ _ _ _ _ _ _ _ _ [.int .i64 4, .slice (some ⟨0, 0, some 0⟩) 8 c] _ (outK fun r m => ∃ m2, objsR m m2 ∧ ansE (trA 4 [⟨(n0 : Nat)⟩, ⟨(n1 : Nat)⟩, ⟨(n2 : Nat)⟩, ⟨(n3 : Nat)⟩, ⟨(n4 : Nat)⟩, ⟨(n5 : Nat)⟩, ⟨(n6 : Nat)⟩, ⟨(n7 : Nat)⟩]) r (mkS m2))
  rw [vc_tr4]
  exact tr_leaf (by show wrF 4 (IntKind.wrap .i64 (us (us (us (us (us (us (us (u0 (n0 : Nat)) (n1 : Nat)) (n2 : Nat)) (n3 : Nat)) (n4 : Nat)) (n5 : Nat)) (n6 : Nat)) (n7 : Nat))) = _; rw [u0_nat h0, us_nat (by omega) h1, us_nat (by omega) h2, us_nat (by omega) h3, us_nat (by omega) h4, us_nat (by omega) h5, us_nat (by omega) h6, us_nat (by omega) h7]; rfl) rfl rfl
theorem tr_5 {n0 n1 n2 n3 n4 n5 n6 n7 : Nat} {c : Nat} {β : Bs} (h0 : n0 < 256) (h1 : n1 < 256) (h2 : n2 < 256) (h3 : n3 < 256) (h4 : n4 < 256) (h5 : n5 < 256) (h6 : n6 < 256) (h7 : n7 < 256) (b : List U8) (hb : b = ([⟨(n0 : Nat)⟩, ⟨(n1 : Nat)⟩, ⟨(n2 : Nat)⟩, ⟨(n3 : Nat)⟩, ⟨(n4 : Nat)⟩, ⟨(n5 : Nat)⟩, ⟨(n6 : Nat)⟩, ⟨(n7 : Nat)⟩] : List U8)) : Hd (lawE Try.prog toldW1 100 20 β (fun _ => 20) (cnOf 1 fun _ => []) (fun _ _ => False) 29 [.int .i64 5, .slice (some ⟨0, 0, some 0⟩) b.length c] (mkS [some (rowO .look b)]) (outR (ansE (trA 5 b)))) := by
  subst hb
  refine ⟨?_⟩
  show lawE _ _ _ _ _ _ _ _ _ [.int .i64 5, .slice (some ⟨0, 0, some 0⟩) 8 c] _ (outK fun r m => ∃ m2, objsR m m2 ∧ ansE (trA 5 [⟨(n0 : Nat)⟩, ⟨(n1 : Nat)⟩, ⟨(n2 : Nat)⟩, ⟨(n3 : Nat)⟩, ⟨(n4 : Nat)⟩, ⟨(n5 : Nat)⟩, ⟨(n6 : Nat)⟩, ⟨(n7 : Nat)⟩]) r (mkS m2))
  rw [vc_tr5]
  exact tr_leaf rfl (by show Int.toNat (us (us (us (us (us (us (us (u0 (n0 : Nat)) (n1 : Nat)) (n2 : Nat)) (n3 : Nat)) (n4 : Nat)) (n5 : Nat)) (n6 : Nat)) (n7 : Nat)) = _; rw [u0_nat h0, us_nat (by omega) h1, us_nat (by omega) h2, us_nat (by omega) h3, us_nat (by omega) h4, us_nat (by omega) h5, us_nat (by omega) h6, us_nat (by omega) h7, Int.toNat_natCast]; rfl) rfl
theorem list_cons {b : List U8} {k : Nat} (h : b.all (okA U8) = true) (hl : b.length = k + 1) : ∃ (n : Nat) (t : List U8), b = ⟨n⟩ :: t ∧ n < 256 ∧ t.all (okA U8) = true ∧ t.length = k := by
  match b, hl, h with
  | x :: t, hl, h =>
    simp only [List.all_cons, Bool.and_eq_true, okU_iff] at h
    exact ⟨x.v.toNat, t, by rw [Int.toNat_of_nonneg h.1.1], by omega, h.2, by simpa using hl⟩
theorem list_n1 {Q : List U8 → Prop} {b : List U8} (h : b.all (okA U8) = true) (hl : b.length = 1) (k : ∀ n0 : Nat, n0 < 256 → b = ([⟨(n0 : Nat)⟩] : List U8) → Q b) : Q b := by
  obtain ⟨n0, b0, e0, h0, p0, q0⟩ := list_cons h hl
  have z := List.eq_nil_of_length_eq_zero q0
  exact k n0 h0 (by rw [e0, z])
theorem list_n2 {Q : List U8 → Prop} {b : List U8} (h : b.all (okA U8) = true) (hl : b.length = 2) (k : ∀ n0 n1 : Nat, n0 < 256 → n1 < 256 → b = ([⟨(n0 : Nat)⟩, ⟨(n1 : Nat)⟩] : List U8) → Q b) : Q b := by
  obtain ⟨n0, b0, e0, h0, p0, q0⟩ := list_cons h hl
  obtain ⟨n1, b1, e1, h1, p1, q1⟩ := list_cons p0 q0
  have z := List.eq_nil_of_length_eq_zero q1
  exact k n0 n1 h0 h1 (by rw [e0, e1, z])
theorem list_n4 {Q : List U8 → Prop} {b : List U8} (h : b.all (okA U8) = true) (hl : b.length = 4) (k : ∀ n0 n1 n2 n3 : Nat, n0 < 256 → n1 < 256 → n2 < 256 → n3 < 256 → b = ([⟨(n0 : Nat)⟩, ⟨(n1 : Nat)⟩, ⟨(n2 : Nat)⟩, ⟨(n3 : Nat)⟩] : List U8) → Q b) : Q b := by
  obtain ⟨n0, b0, e0, h0, p0, q0⟩ := list_cons h hl
  obtain ⟨n1, b1, e1, h1, p1, q1⟩ := list_cons p0 q0
  obtain ⟨n2, b2, e2, h2, p2, q2⟩ := list_cons p1 q1
  obtain ⟨n3, b3, e3, h3, p3, q3⟩ := list_cons p2 q2
  have z := List.eq_nil_of_length_eq_zero q3
  exact k n0 n1 n2 n3 h0 h1 h2 h3 (by rw [e0, e1, e2, e3, z])
theorem list_n8 {Q : List U8 → Prop} {b : List U8} (h : b.all (okA U8) = true) (hl : b.length = 8) (k : ∀ n0 n1 n2 n3 n4 n5 n6 n7 : Nat, n0 < 256 → n1 < 256 → n2 < 256 → n3 < 256 → n4 < 256 → n5 < 256 → n6 < 256 → n7 < 256 → b = ([⟨(n0 : Nat)⟩, ⟨(n1 : Nat)⟩, ⟨(n2 : Nat)⟩, ⟨(n3 : Nat)⟩, ⟨(n4 : Nat)⟩, ⟨(n5 : Nat)⟩, ⟨(n6 : Nat)⟩, ⟨(n7 : Nat)⟩] : List U8) → Q b) : Q b := by
  obtain ⟨n0, b0, e0, h0, p0, q0⟩ := list_cons h hl
  obtain ⟨n1, b1, e1, h1, p1, q1⟩ := list_cons p0 q0
  obtain ⟨n2, b2, e2, h2, p2, q2⟩ := list_cons p1 q1
  obtain ⟨n3, b3, e3, h3, p3, q3⟩ := list_cons p2 q2
  obtain ⟨n4, b4, e4, h4, p4, q4⟩ := list_cons p3 q3
  obtain ⟨n5, b5, e5, h5, p5, q5⟩ := list_cons p4 q4
  obtain ⟨n6, b6, e6, h6, p6, q6⟩ := list_cons p5 q5
  obtain ⟨n7, b7, e7, h7, p7, q7⟩ := list_cons p6 q6
  have z := List.eq_nil_of_length_eq_zero q7
  exact k n0 n1 n2 n3 n4 n5 n6 n7 h0 h1 h2 h3 h4 h5 h6 h7 (by rw [e0, e1, e2, e3, e4, e5, e6, e7, z])
theorem trb_1 {c : Nat} {β : Bs} {b : List U8} (h : b.all (okA U8) = true) (hl : b.length = 1) : Hd (lawE Try.prog toldW1 100 20 β (fun _ => 20) (cnOf 1 fun _ => []) (fun _ _ => False) 29 [.int .i64 1, .slice (some ⟨0, 0, some 0⟩) b.length c] (mkS [some (rowO .look b)]) (outR (ansE (trA 1 b)))) :=
  list_n1 (Q := fun b => Hd (lawE Try.prog toldW1 100 20 β (fun _ => 20) (cnOf 1 fun _ => []) (fun _ _ => False) 29 [.int .i64 1, .slice (some ⟨0, 0, some 0⟩) b.length c] (mkS [some (rowO .look b)]) (outR (ansE (trA 1 b))))) h hl fun n0 h0 e => tr_1 h0 b e
theorem trb_2 {c : Nat} {β : Bs} {b : List U8} (h : b.all (okA U8) = true) (hl : b.length = 2) : Hd (lawE Try.prog toldW1 100 20 β (fun _ => 20) (cnOf 1 fun _ => []) (fun _ _ => False) 29 [.int .i64 2, .slice (some ⟨0, 0, some 0⟩) b.length c] (mkS [some (rowO .look b)]) (outR (ansE (trA 2 b)))) :=
  list_n2 (Q := fun b => Hd (lawE Try.prog toldW1 100 20 β (fun _ => 20) (cnOf 1 fun _ => []) (fun _ _ => False) 29 [.int .i64 2, .slice (some ⟨0, 0, some 0⟩) b.length c] (mkS [some (rowO .look b)]) (outR (ansE (trA 2 b))))) h hl fun n0 n1 h0 h1 e => tr_2 h0 h1 b e
theorem trb_3 {c : Nat} {β : Bs} {b : List U8} (h : b.all (okA U8) = true) (hl : b.length = 4) : Hd (lawE Try.prog toldW1 100 20 β (fun _ => 20) (cnOf 1 fun _ => []) (fun _ _ => False) 29 [.int .i64 3, .slice (some ⟨0, 0, some 0⟩) b.length c] (mkS [some (rowO .look b)]) (outR (ansE (trA 3 b)))) :=
  list_n4 (Q := fun b => Hd (lawE Try.prog toldW1 100 20 β (fun _ => 20) (cnOf 1 fun _ => []) (fun _ _ => False) 29 [.int .i64 3, .slice (some ⟨0, 0, some 0⟩) b.length c] (mkS [some (rowO .look b)]) (outR (ansE (trA 3 b))))) h hl fun n0 n1 n2 n3 h0 h1 h2 h3 e => tr_3 h0 h1 h2 h3 b e
theorem trb_4 {c : Nat} {β : Bs} {b : List U8} (h : b.all (okA U8) = true) (hl : b.length = 8) : Hd (lawE Try.prog toldW1 100 20 β (fun _ => 20) (cnOf 1 fun _ => []) (fun _ _ => False) 29 [.int .i64 4, .slice (some ⟨0, 0, some 0⟩) b.length c] (mkS [some (rowO .look b)]) (outR (ansE (trA 4 b)))) :=
  list_n8 (Q := fun b => Hd (lawE Try.prog toldW1 100 20 β (fun _ => 20) (cnOf 1 fun _ => []) (fun _ _ => False) 29 [.int .i64 4, .slice (some ⟨0, 0, some 0⟩) b.length c] (mkS [some (rowO .look b)]) (outR (ansE (trA 4 b))))) h hl fun n0 n1 n2 n3 n4 n5 n6 n7 h0 h1 h2 h3 h4 h5 h6 h7 e => tr_4 h0 h1 h2 h3 h4 h5 h6 h7 b e
theorem trb_5 {c : Nat} {β : Bs} {b : List U8} (h : b.all (okA U8) = true) (hl : b.length = 8) : Hd (lawE Try.prog toldW1 100 20 β (fun _ => 20) (cnOf 1 fun _ => []) (fun _ _ => False) 29 [.int .i64 5, .slice (some ⟨0, 0, some 0⟩) b.length c] (mkS [some (rowO .look b)]) (outR (ansE (trA 5 b)))) :=
  list_n8 (Q := fun b => Hd (lawE Try.prog toldW1 100 20 β (fun _ => 20) (cnOf 1 fun _ => []) (fun _ _ => False) 29 [.int .i64 5, .slice (some ⟨0, 0, some 0⟩) b.length c] (mkS [some (rowO .look b)]) (outR (ansE (trA 5 b))))) h hl fun n0 n1 n2 n3 n4 n5 n6 n7 h0 h1 h2 h3 h4 h5 h6 h7 e => tr_5 h0 h1 h2 h3 h4 h5 h6 h7 b e
theorem int15 {Q : Int → Prop} {kd : Int} (h1 : 1 ≤ kd) (h5 : kd ≤ 5) (q1 : Q 1) (q2 : Q 2) (q3 : Q 3) (q4 : Q 4) (q5 : Q 5) : Q kd := by
  have hk : kd = 1 ∨ kd = 2 ∨ kd = 3 ∨ kd = 4 ∨ kd = 5 := by omega
  rcases hk with rfl | rfl | rfl | rfl | rfl <;> assumption
theorem trb_all {kd : Int} {c : Nat} {β : Bs} {b : List U8} (k1 : 1 ≤ kd) (k5 : kd ≤ 5) (h : b.all (okA U8) = true) : b.length = vwid kd → Hd (lawE Try.prog toldW1 100 20 β (fun _ => 20) (cnOf 1 fun _ => []) (fun _ _ => False) 29 [.int .i64 kd, .slice (some ⟨0, 0, some 0⟩) b.length c] (mkS [some (rowO .look b)]) (outR (ansE (trA kd b)))) :=
  int15 (Q := fun kd => b.length = vwid kd → Hd (lawE Try.prog toldW1 100 20 β (fun _ => 20) (cnOf 1 fun _ => []) (fun _ _ => False) 29 [.int .i64 kd, .slice (some ⟨0, 0, some 0⟩) b.length c] (mkS [some (rowO .look b)]) (outR (ansE (trA kd b))))) k1 k5 (fun hl => trb_1 h hl) (fun hl => trb_2 h hl) (fun hl => trb_3 h hl) (fun hl => trb_4 h hl) (fun hl => trb_5 h hl)
theorem tr_told : ToldW Try.prog 29 okTr ansTr := by
  intro ts hok w args' F hF ha
  unfold okTr at hok
  split at hok
  · rename_i kd t
    simp only [Bool.and_eq_true, decide_eq_true_eq] at hok
    obtain ⟨⟨⟨⟨k1, k5⟩, o1⟩, o2⟩, o3⟩ := hok
    have o3 := Nat.eq_of_beq_eq_true o3
    obtain ⟨h1, h2⟩ := okT_len o1
    obtain ⟨y, m, e, hy, hm'⟩ := ha.uncons
    obtain ⟨z, m', rfl, hz, hm2⟩ := hm'.uncons
    have := hm2.nil_inv
    subst this
    have ha' : PW (TaR w F) [.cell (.sc (.int .i64 kd)), .cell (tdL (listT U8 t) (nilT t))] args'.toList := by rw [e]; exact PW.cons hy (PW.cons (okT_TRo o1 hz) (PW.nil _))
    show Calls _ _ _ _ fun e w' => AnsR w F (trA kd (listT U8 t)) e w'
    refine toldW_out (ts := [.cell (.sc (.int .i64 kd)), .cell (tdL (listT U8 t) (nilT t))]) follows ⟨toldW1, 100, 20, fun _ => 20, fun _ => [], fun _ _ => False, toldW1_ok, fun β hβ => ?_⟩ w args' F hF ha'
    generalize listT U8 t = b at *
    generalize nilT t = c at *
    show lawE _ _ _ _ _ _ (cnOf 1 fun _ => []) _ _ [.int .i64 kd, .slice (some ⟨0, 0, some 0⟩) b.length c] (mkS [some (rowO .look b)]) (outR (ansE (trA kd b)))
    exact (trb_all k1 k5 o2 o3).ok
  · cases hok
def okSz (ts : List Ta) : Bool := match ts with
  | [.cell (.sc (.int .i64 k))] => decide (1 ≤ k) && decide (k ≤ 5)
  | _ => false
def ansSz (ts : List Ta) : Ans := match ts with
  | [.cell (.sc (.int .i64 k))] => .ret (.cell (.sc (.int .i64 (Int.ofNat (vwid k)))))
  | _ => .pan .nilIface
theorem sz_told : ToldW Try.prog 28 okSz ansSz := by
  intro ts hok w args' F hF ha
  unfold okSz at hok
  split at hok
  · rename_i k
    simp only [Bool.and_eq_true, decide_eq_true_eq] at hok
    show Calls _ _ _ _ fun e w' => AnsR w F (.ret (.cell (.sc (.int .i64 (Int.ofNat (vwid k)))))) e w'
    refine toldW_out (ts := [.cell (.sc (.int .i64 k))]) follows ⟨noTold, 100, 20, fun _ => 8, fun _ => [], fun _ _ => False, noTold_ok _, fun β hβ => ?_⟩ w args' F hF ha
    show lawE _ _ _ _ _ _ (cnOf 0 fun _ => []) _ _ [.int .i64 k] (mkS []) (outK fun r M => ∃ m2, objsR M m2 ∧ ansE (.ret (.cell (.sc (.int .i64 (Int.ofNat (vwid k)))))) r (mkS m2))
    have hk : k = 1 ∨ k = 2 ∨ k = 3 ∨ k = 4 ∨ k = 5 := by omega
    rcases hk with rfl | rfl | rfl | rfl | rfl
    · rw [vc_sz1]; exact ⟨_, objsR.refl _, ⟨[], ⟨rfl, rfl, rfl⟩, List.nodup_nil⟩⟩
    · rw [vc_sz2]; exact ⟨_, objsR.refl _, ⟨[], ⟨rfl, rfl, rfl⟩, List.nodup_nil⟩⟩
    · rw [vc_sz3]; exact ⟨_, objsR.refl _, ⟨[], ⟨rfl, rfl, rfl⟩, List.nodup_nil⟩⟩
    · rw [vc_sz4]; exact ⟨_, objsR.refl _, ⟨[], ⟨rfl, rfl, rfl⟩, List.nodup_nil⟩⟩
    · rw [vc_sz5]; exact ⟨_, objsR.refl _, ⟨[], ⟨rfl, rfl, rfl⟩, List.nodup_nil⟩⟩
  · cases hok
noncomputable def toldW2 : Told := (toldW1.tree 29 okTr ansTr).tree 28 okSz ansSz
theorem toldW2_ok : ToldS Try.prog toldW2 := Told.tree_ok (Told.tree_ok toldW1_ok tr_told) sz_told
end Go.Proofs.Ytncndnlbiijdoaa.Ev

/-! What has to hold: printed by the evaluator. -/
set_option linter.unusedVariables false
set_option maxRecDepth 1000000
namespace Go.Proofs.Ytncndnlbiijdoaa.Ev
open Go Go.Proofs
def slTi : List Nat := [0, 4, 5, 6, 7]
def lvTi : AX → List Nat := fun x => match x with
  | .ret => [2, 3]
  | .exit _ => [0, 4, 6]
  | _ => slTi
def FTi (b : List U8) (l : List In) (c k m cb : Nat) (n i : Int) : AFr := mkF 110 [(0, .slice (some ⟨0, 0, some k⟩) m cb), (4, .slice (some ⟨0, 0, some 0⟩) b.length c), (5, .int .i64 n), (6, .slice (some ⟨1, 0, some 0⟩) l.length 1), (7, .int .i64 i)]
def STi (b : List U8) (l : List In) : ASt := mkS [some (rowO .look b), some (rowO .mine l)]
def FTiX (b : List U8) (l : List In) (c k m cb : Nat) : AFr := mkF 110 [(0, .slice (some ⟨0, 0, some k⟩) m cb), (4, .slice (some ⟨0, 0, some 0⟩) b.length c), (6, .slice (some ⟨1, 0, some 0⟩) l.length 1)]
def FTi0 : AFr := mkF 110 [(2, .slice none 0 0), (3, .bool false)]
def STi0 (b : List U8) : ASt := mkS [some (rowO .look b)]
def FTiR (b : List U8) (l : List In) (c k m cb : Nat) (n i : Int) : AFr := mkF 110 [(0, .slice (some ⟨0, 0, some k⟩) m cb), (4, .slice (some ⟨0, 0, some 0⟩) b.length c), (5, .int .i64 n), (6, .slice (some ⟨1, 0, some 0⟩) (l.length + 1) 1), (7, .int .i64 i)]
def GoodTi (b : List U8) (l : List In) (m : Nat) : Prop := GoodTk b l ∧ (isPar b l → m = 0)
def exTi (b : List U8) (c : Nat) : Nat → Kt → Prop := fun x K => (∀ (l : List In) (k m cb : Nat), GoodTi b l m → K (.exit x) (FTiX b l c k m cb) (STi b l)) ∧ ((¬ ∃ l, isPar b l) → K .ret FTi0 (STi0 b))
def shpTi (b : List U8) (l : List In) (c : Nat) (n i' : Int) (k' m' cb' : Nat) (x0' x1' x2' x3' x4' x5' : Int) (x6' : Nat) : AFr × ASt := (FTiR b l c k' m' cb' n i', mkS [some (rowO .look b), some (.row .mine 7 0 (l.length + 1) fun j k => mrgT (Nat.blt j l.length) (encL l (0 + j) k) (selT 7 1 [.sc (.int .i64 x0'), .sc (.int .i64 x1'), .sc (.int .i64 x2'), .sc (.int .i64 x3'), .sc (.int .i64 x4'), .sc (.int .i64 x5'), .sc (.float .f64 x6')] (j - l.length) k))])
def shpTiX (b : List U8) (l : List In) (c k m cb : Nat) : AFr × ASt := (FTiX b l c k m cb, STi b l)
def shpTi0 (b : List U8) : AFr × ASt := (FTi0, STi0 b)
theorem vc_ti_r (b : List U8) (l : List In) (c k m cb : Nat) (n i : Int) (β : Bs) (N : Kt) (ex : Nat → Kt → Prop) : roundJ Try.prog toldW2 100 20 β (fun _ => 0) (cnOf 1 fun _ => slTi) ex 11 0 1 lvTi (FTi b l c k m cb n i) (STi b l) N =
(  br (decide (i < n))
  (br (decide (Int.ofNat m < (5 : Int))) (onP N AX.ret (shpTi0 b))
  (need (Nat.blt 0 m)
  (need (Nat.ble 0 (k + 0) && Nat.blt (k + 0) (List.length b))
  (need (Nat.blt 1 m)
  (need (Nat.ble 0 (k + 1) && Nat.blt (k + 1) (List.length b))
  (need (Nat.blt 2 m)
  (need (Nat.ble 0 (k + 2) && Nat.blt (k + 2) (List.length b))
  (need (Nat.blt 3 m)
  (need (Nat.ble 0 (k + 3) && Nat.blt (k + 3) (List.length b))
  (need (Nat.blt 4 m)
  (need (Nat.ble 0 (k + 4) && Nat.blt (k + 4) (List.length b))
  (need (Nat.ble 5 m)
  (br (IntKind.wrap IntKind.i64 (U8.v (List.getD b (k + 0) Enc.dflt)) == (1 : Int))
  (br
  (decide
  (IntKind.wrap IntKind.i64 (U8.v (List.getD b (k + 1) Enc.dflt)) < (1 : Int)))
  (onP N AX.ret (shpTi0 b))
  (br
  (decide
  (IntKind.wrap IntKind.i64 (U8.v (List.getD b (k + 1) Enc.dflt)) > (5 : Int)))
  (onP N AX.ret (shpTi0 b))
  (need
  (okSz
  [Ta.cell
  (Td.sc
  (Value.int IntKind.i64
  (IntKind.wrap IntKind.i64 (U8.v (List.getD b (k + 1) Enc.dflt)))))])
  (br
  (decide
  (Int.ofNat (m - 5) <
  Int.ofNat
  (vwid
  (IntKind.wrap IntKind.i64 (U8.v (List.getD b (k + 1) Enc.dflt))))))
  (onP N AX.ret (shpTi0 b))
  (need
  (okSz
  [Ta.cell
  (Td.sc
  (Value.int IntKind.i64
  (IntKind.wrap IntKind.i64
  (U8.v (List.getD b (k + 1) Enc.dflt)))))])
  (need
  (Nat.ble
  (Int.toNat
  (Int.ofNat
  (vwid
  (IntKind.wrap IntKind.i64
  (U8.v (List.getD b (k + 1) Enc.dflt))))))
  (m - 5))
  (need
  (Nat.ble 0 (k + 5 + 0) &&
  Nat.ble
  (k + 5 + 0 +
  (Int.toNat
  (Int.ofNat
  (vwid
  (IntKind.wrap IntKind.i64
  (U8.v (List.getD b (k + 1) Enc.dflt))))) -
  0))
  (List.length b))
  (need
  (okTr
  [Ta.cell
  (Td.sc
  (Value.int IntKind.i64
  (IntKind.wrap IntKind.i64
  (U8.v (List.getD b (k + 1) Enc.dflt))))),
  Ta.cell
  (Td.fr 1
  (Int.toNat
  (Int.ofNat
  (vwid
  (IntKind.wrap IntKind.i64
  (U8.v (List.getD b (k + 1) Enc.dflt))))) -
  0)
  (bif Nat.beq (m - 5) 0 then
  bif Nat.beq m 0 then cb else 0
  else 0)
  fun i => encL b (k + 5 + 0 + i))])
  (need
  (okSz
  [Ta.cell
  (Td.sc
  (Value.int IntKind.i64
  (IntKind.wrap IntKind.i64
  (U8.v (List.getD b (k + 1) Enc.dflt)))))])
  (need
  (Nat.ble
  (Int.toNat
  (Int.ofNat
  (vwid
  (IntKind.wrap IntKind.i64
  (U8.v (List.getD b (k + 1) Enc.dflt))))))
  (m - 5))
  (need (Nat.ble (List.length l + 1) 1000000)
  (need (true && Nat.ble (0 + List.length l) (List.length l))
  (onP N AX.normal
  (shpTi b l c n (IntKind.wrap IntKind.i64 (i + (1 : Int)))
  (k + 5 +
  Int.toNat
  (Int.ofNat
  (vwid
  (IntKind.wrap IntKind.i64
  (U8.v (List.getD b (k + 1) Enc.dflt))))))
  (m - 5 -
  Int.toNat
  (Int.ofNat
  (vwid
  (IntKind.wrap IntKind.i64
  (U8.v (List.getD b (k + 1) Enc.dflt))))))
  (bif Nat.beq (m - 5) 0 then
  bif Nat.beq m 0 then cb else 0
  else 0)
  (IntKind.wrap IntKind.i64
  (U8.v (List.getD b (k + 0) Enc.dflt)))
  (IntKind.wrap IntKind.i64
  (U8.v (List.getD b (k + 1) Enc.dflt)))
  (IntKind.wrap IntKind.i64
  (IntKind.wrap IntKind.i64
  (IntKind.wrap IntKind.i64
  (U8.v (List.getD b (k + 2) Enc.dflt)) *
  (256 : Int)) +
  IntKind.wrap IntKind.i64
  (U8.v (List.getD b (k + 3) Enc.dflt))))
  (IntKind.wrap IntKind.i64
  (U8.v (List.getD b (k + 4) Enc.dflt)))
  (IntKind.wrap IntKind.i64
  (U8.v (List.getD b (k + 1) Enc.dflt)))
  (Vl.i
  (rvR
  (IntKind.wrap IntKind.i64
  (U8.v (List.getD b (k + 1) Enc.dflt)))
  (listT U8
  (Td.fr 1
  (Int.toNat
  (Int.ofNat
  (vwid
  (IntKind.wrap IntKind.i64
  (U8.v
  (List.getD b (k + 1) Enc.dflt))))) -
  0)
  (bif Nat.beq (m - 5) 0 then
  bif Nat.beq m 0 then cb else 0
  else 0)
  fun i => encL b (k + 5 + 0 + i)))))
  (Vl.f
  (rvR
  (IntKind.wrap IntKind.i64
  (U8.v (List.getD b (k + 1) Enc.dflt)))
  (listT U8
  (Td.fr 1
  (Int.toNat
  (Int.ofNat
  (vwid
  (IntKind.wrap IntKind.i64
  (U8.v
  (List.getD b (k + 1) Enc.dflt))))) -
  0)
  (bif Nat.beq (m - 5) 0 then
  bif Nat.beq m 0 then cb else 0
  else 0)
  fun i =>
  encL b (k + 5 + 0 + i)))))))))))))))))))
  (need (Nat.ble (List.length l + 1) 1000000)
  (need (true && Nat.ble (0 + List.length l) (List.length l))
  (onP N AX.normal
  (shpTi b l c n (IntKind.wrap IntKind.i64 (i + (1 : Int))) (k + 5)
  (m - 5) (bif Nat.beq m 0 then cb else 0)
  (IntKind.wrap IntKind.i64 (U8.v (List.getD b (k + 0) Enc.dflt)))
  (IntKind.wrap IntKind.i64 (U8.v (List.getD b (k + 1) Enc.dflt)))
  (IntKind.wrap IntKind.i64
  (IntKind.wrap IntKind.i64
  (IntKind.wrap IntKind.i64 (U8.v (List.getD b (k + 2) Enc.dflt)) *
  (256 : Int)) +
  IntKind.wrap IntKind.i64 (U8.v (List.getD b (k + 3) Enc.dflt))))
  (IntKind.wrap IntKind.i64 (U8.v (List.getD b (k + 4) Enc.dflt))) (0 : Int)
  (0 : Int) 0)))))))))))))))))
  (onP N (AX.exit 0) (shpTiX b l c k m cb))) := by kernel_rfl
theorem vc_ti (b : List U8) (c : Nat) (β : Bs) (K : AE → List (Option AObj) → Prop) : lawE Try.prog toldW2 100 20 β (fun _ => 0) (cnOf 1 fun _ => slTi) (exTi b c) 11 [.slice (some ⟨0, 0, some 0⟩) b.length c] (mkS [some (rowO .look b)]) (outK K) =
(  br (decide (Int.ofNat (List.length b) < (2 : Int)))
  (K (AE.returned (Value.tuple (Array.mk [Value.slice none 0 0, Value.bool false])))
  [some (AObj.row Rk.look 1 0 (List.length b) (encL b))])
  (need (Nat.blt 0 (List.length b))
  (need (true && Nat.blt 0 (List.length b))
  (need (Nat.blt 1 (List.length b))
  (need (true && Nat.blt 1 (List.length b))
  (need (Nat.ble 2 (List.length b))
  (LoopJ Try.prog β (exTi b c) 0 (loopOf Try.prog 11 0)
  (mkF 110
  [(0,
  Value.slice (some (Addr.mk 0 0 (some 2))) (List.length b - 2)
  (bif Nat.beq (List.length b) 0 then c else 0)),
  (4, Value.slice (some (Addr.mk 0 0 (some 0))) (List.length b) c),
  (5,
  Value.int IntKind.i64
  (IntKind.wrap IntKind.i64
  (IntKind.wrap IntKind.i64
  (IntKind.wrap IntKind.i64 (U8.v (List.getD b 0 Enc.dflt)) * (256 : Int)) +
  IntKind.wrap IntKind.i64 (U8.v (List.getD b 1 Enc.dflt))))),
  (6, Value.slice none 0 0), (7, Value.int IntKind.i64 (0 : Int))])
  (mkS [some (AObj.row Rk.look 1 0 (List.length b) (encL b))]) ∧
  (∀ (l : List In) (k m cb : Nat),
  GoodTi b l m →
  need (true && Nat.ble (0 + List.length l) (List.length l))
  (need
  (ok1 In (fun l x => List.all l (okA In))
  [Ta.cell (Td.fr 7 (List.length l) 1 fun i => encL l (0 + i))])
  (need
  (true &&
  Nat.ble
  (0 +
  List.length
  (ipL
  (listT In
  (Td.fr 7 (List.length l) 1 fun i => encL l (0 + i)))))
  (List.length
  (ipL
  (listT In
  (Td.fr 7 (List.length l) 1 fun i => encL l (0 + i))))))
  (need
  (allB
  (List.length
  (ipL
  (listT In
  (Td.fr 7 (List.length l) 1 fun i => encL l (0 + i)))))
  fun j =>
  encL
  (ipL
  (listT In
  (Td.fr 7 (List.length l) 1 fun i => encL l (0 + i))))
  (0 + j))
  (need (true && Nat.ble (0 + List.length b) (List.length b))
  (need (allB (List.length b) fun j => encL b (0 + j))
  (br
  (!List.map
  (fun j =>
  byteF
  (encL
  (ipL
  (listT In
  (Td.fr 7 (List.length l) 1 fun i =>
  encL l (0 + i))))
  (0 + j) 0))
  (List.range
  (List.length
  (ipL
  (listT In
  (Td.fr 7 (List.length l) 1 fun i =>
  encL l (0 + i)))))) ==
  List.map (fun j => byteF (encL b (0 + j) 0))
  (List.range (List.length b)))
  (K
  (AE.returned
  (Value.tuple (Array.mk [Value.slice none 0 0, Value.bool false])))
  [some (AObj.row Rk.look 1 0 (List.length b) (encL b)),
  some (AObj.row Rk.mine 7 0 (List.length l) (encL l)), none,
  some
  (AObj.row Rk.mine 1 0
  (List.length
  (ipL
  (listT In
  (Td.fr 7 (List.length l) 1 fun i =>
  encL l (0 + i)))))
  (encL
  (ipL
  (listT In
  (Td.fr 7 (List.length l) 1 fun i =>
  encL l (0 + i))))))])
  (br (decide (Int.ofNat m > (0 : Int)))
  (K
  (AE.returned
  (Value.tuple
  (Array.mk [Value.slice none 0 0, Value.bool false])))
  [some (AObj.row Rk.look 1 0 (List.length b) (encL b)),
  some (AObj.row Rk.mine 7 0 (List.length l) (encL l)), none,
  some
  (AObj.row Rk.mine 1 0
  (List.length
  (ipL
  (listT In
  (Td.fr 7 (List.length l) 1 fun i =>
  encL l (0 + i)))))
  (encL
  (ipL
  (listT In
  (Td.fr 7 (List.length l) 1 fun i =>
  encL l (0 + i))))))])
  (K
  (AE.returned
  (Value.tuple
  (Array.mk
  [Value.slice (some (Addr.mk 1 0 (some 0)))
  (List.length l) 1,
  Value.bool true])))
  [some (AObj.row Rk.look 1 0 (List.length b) (encL b)),
  some (AObj.row Rk.mine 7 0 (List.length l) (encL l)), none,
  some
  (AObj.row Rk.mine 1 0
  (List.length
  (ipL
  (listT In
  (Td.fr 7 (List.length l) 1 fun i =>
  encL l (0 + i)))))
  (encL
  (ipL
  (listT In
  (Td.fr 7 (List.length l) 1 fun i =>
  encL l (0 + i))))))]))))))))) ∧
  ((¬∃ l, isPar b l) →
  K (AE.returned (Value.tuple (Array.mk [Value.slice none 0 0, Value.bool false])))
  [some (AObj.row Rk.look 1 0 (List.length b) (encL b))])))))))) := by kernel_rfl
end Go.Proofs.Ytncndnlbiijdoaa.Ev

/-! What has to hold: printed by the evaluator. -/
set_option linter.unusedVariables false
set_option maxRecDepth 1000000
namespace Go.Proofs.Ytncndnlbiijdoaa.Ev
open Go Go.Proofs
noncomputable def mF (l : List In) : List In := l.filter mayB
def slBk : List Nat := [0, 1, 2, 7, 8]
def lvBk : AX → List Nat := fun x => match x with
  | .ret => [6]
  | _ => slBk
def FBk (l m : List In) (c d : Nat) (cut more i : Int) : AFr := mkF 84 [(0, .slice (some ⟨0, 0, some 0⟩) l.length c), (1, .int .u16 cut), (2, .int .u8 more), (7, .slice (some ⟨1, 0, some 0⟩) m.length d), (8, .int .i64 i)]
def SBk (l m : List In) : ASt := mkS [some (rowO .still l), some (rowO .mine m)]
def exBk (l : List In) (c : Nat) (cut more : Int) : Nat → Kt → Prop := fun x K => K (.exit x) (FBk l (mF l) c 1 cut more l.length) (SBk l (mF l))
def shpBk (l m : List In) (c d : Nat) (cut more i' : Int) : AFr × ASt := (FBk l m c d cut more i', SBk l m)
theorem vc_bk_r (l m : List In) (c d : Nat) (cut more i : Int) (β : Bs) (N : Kt) (ex : Nat → Kt → Prop) : roundJ Try.prog toldV1 100 20 β (fun _ => 0) (cnOf 1 fun _ => slBk) ex 4 0 1 lvBk (FBk l m c d cut more i) (SBk l m) N =
(  br (decide (i < Int.ofNat (List.length l)))
  (need (decide ((0 : Int) ≤ i))
  (need (Nat.blt (Int.toNat i) (List.length l))
  (need (Nat.ble 0 (0 + Int.toNat i) && Nat.blt (0 + Int.toNat i) (List.length l))
  (br
  (mayB
  (In.mk (In.op (List.getD l (0 + Int.toNat i) Enc.dflt))
  (In.kd (List.getD l (0 + Int.toNat i) Enc.dflt))
  (In.a (List.getD l (0 + Int.toNat i) Enc.dflt))
  (In.n (List.getD l (0 + Int.toNat i) Enc.dflt))
  (Vl.mk (Vl.k (In.v (List.getD l (0 + Int.toNat i) Enc.dflt)))
  (Vl.i (In.v (List.getD l (0 + Int.toNat i) Enc.dflt)))
  (Vl.f (In.v (List.getD l (0 + Int.toNat i) Enc.dflt))))))
  (need (decide ((0 : Int) ≤ i))
  (need (Nat.blt (Int.toNat i) (List.length l))
  (need (Nat.ble 0 (0 + Int.toNat i) && Nat.blt (0 + Int.toNat i) (List.length l))
  (need (Nat.ble (List.length m + 1) 1000000)
  (need (true && Nat.ble (0 + List.length m) (List.length m))
  (N AX.normal
  (mkF 84
  [(0,
  Value.slice (some (Addr.mk 0 0 (some 0))) (List.length l) c),
  (1, Value.int IntKind.u16 cut), (2, Value.int IntKind.u8 more),
  (7,
  Value.slice (some (Addr.mk 1 0 (some 0)))
  (List.length m + 1) d),
  (8, Value.int IntKind.i64 (IntKind.wrap IntKind.i64 (i + (1 : Int))))])
  (mkS
  [some (AObj.row Rk.still 7 0 (List.length l) (encL l)),
  some
  (AObj.row Rk.mine 7 0 (List.length m + 1) fun j k =>
  mrgT (Nat.blt j (List.length m)) (encL m (0 + j) k)
  (selT 7 1
  [Td.sc
  (Value.int IntKind.i64 (In.op (List.getD l (0 + Int.toNat i) Enc.dflt))),
  Td.sc
  (Value.int IntKind.i64 (In.kd (List.getD l (0 + Int.toNat i) Enc.dflt))),
  Td.sc
  (Value.int IntKind.i64 (In.a (List.getD l (0 + Int.toNat i) Enc.dflt))),
  Td.sc
  (Value.int IntKind.i64 (In.n (List.getD l (0 + Int.toNat i) Enc.dflt))),
  Td.sc
  (Value.int IntKind.i64
  (Vl.k (In.v (List.getD l (0 + Int.toNat i) Enc.dflt)))),
  Td.sc
  (Value.int IntKind.i64
  (Vl.i (In.v (List.getD l (0 + Int.toNat i) Enc.dflt)))),
  Td.sc
  (Value.float FloatKind.f64
  (Vl.f (In.v (List.getD l (0 + Int.toNat i) Enc.dflt))))]
  (j - List.length m) k))])))))))
  (onP N AX.normal (shpBk l m c d cut more (IntKind.wrap IntKind.i64 (i + (1 : Int)))))))))
  (onP N (AX.exit 0) (shpBk l m c d cut more i))) := by kernel_rfl
theorem vc_bk (l : List In) (c : Nat) (cut more : Int) (β : Bs) : lawE Try.prog toldV1 100 20 β (fun _ => 0) (cnOf 1 fun _ => slBk) (exBk l c cut more) 4 [.slice (some ⟨0, 0, some 0⟩) l.length c, .int .u16 cut, .int .u8 more] (mkS [some (rowO .still l)]) trueE =
(  br (decide (Int.ofNat (List.length l) > (20 : Int))) True
  (LoopJ Try.prog β (exBk l c cut more) 0 (loopOf Try.prog 4 0)
  (mkF 84
  [(0, Value.slice (some (Addr.mk 0 0 (some 0))) (List.length l) c),
  (1, Value.int IntKind.u16 cut), (2, Value.int IntKind.u8 more),
  (7, Value.slice none 0 0), (8, Value.int IntKind.i64 (0 : Int))])
  (mkS [some (AObj.row Rk.still 7 0 (List.length l) (encL l))]) ∧
  need (true && Nat.ble (0 + List.length (mF l)) (List.length (mF l)))
  (need
  (ok1 In (fun l x => List.all l (okA In))
  [Ta.cell (Td.fr 7 (List.length (mF l)) 1 fun i => encL (mF l) (0 + i))])
  (br
  (decide
  (Int.ofNat
  (List.length
  (ipL
  (listT In (Td.fr 7 (List.length (mF l)) 1 fun i => encL (mF l) (0 + i))))) <
  (2 : Int)))
  False
  (need
  (true &&
  Nat.ble
  (0 +
  List.length
  (ipL
  (listT In (Td.fr 7 (List.length (mF l)) 1 fun i => encL (mF l) (0 + i)))))
  (List.length
  (ipL
  (listT In (Td.fr 7 (List.length (mF l)) 1 fun i => encL (mF l) (0 + i))))))
  (need
  (ok1 U8 (fun l x => List.all l (okA U8))
  [Ta.cell
  (Td.fr 1
  (List.length
  (ipL
  (listT In
  (Td.fr 7 (List.length (mF l)) 1 fun i => encL (mF l) (0 + i)))))
  (ipC
  (listT In
  (Td.fr 7 (List.length (mF l)) 1 fun i => encL (mF l) (0 + i))))
  fun i =>
  encL
  (ipL
  (listT In
  (Td.fr 7 (List.length (mF l)) 1 fun i => encL (mF l) (0 + i))))
  (0 + i))])
  (need
  (true &&
  !decide
  (Int.ofNat
  (List.length
  (ipL
  (listT In
  (Td.fr 7 (List.length (mF l)) 1 fun i =>
  encL (mF l) (0 + i))))) =
  (0 : Int)))
  (need
  (decide
  ((0 : Int) ≤
  Int.tmod (IntKind.wrap IntKind.i64 cut)
  (Int.ofNat
  (List.length
  (ipL
  (listT In
  (Td.fr 7 (List.length (mF l)) 1 fun i =>
  encL (mF l) (0 + i))))))))
  (need
  (Nat.ble
  (Int.toNat
  (Int.tmod (IntKind.wrap IntKind.i64 cut)
  (Int.ofNat
  (List.length
  (ipL
  (listT In
  (Td.fr 7 (List.length (mF l)) 1 fun i =>
  encL (mF l) (0 + i))))))))
  (List.length
  (ipL
  (listT In
  (Td.fr 7 (List.length (mF l)) 1 fun i => encL (mF l) (0 + i))))))
  (need
  (true &&
  Nat.ble
  (0 +
  (Int.toNat
  (Int.tmod (IntKind.wrap IntKind.i64 cut)
  (Int.ofNat
  (List.length
  (ipL
  (listT In
  (Td.fr 7 (List.length (mF l)) 1 fun i =>
  encL (mF l) (0 + i))))))) -
  0))
  (List.length
  (ipL
  (listT In
  (Td.fr 7 (List.length (mF l)) 1 fun i =>
  encL (mF l) (0 + i))))))
  (need
  (ok1 U8 (fun l x => List.all l (okA U8))
  [Ta.cell
  (Td.fr 1
  (Int.toNat
  (Int.tmod (IntKind.wrap IntKind.i64 cut)
  (Int.ofNat
  (List.length
  (ipL
  (listT In
  (Td.fr 7 (List.length (mF l)) 1 fun i =>
  encL (mF l) (0 + i))))))) -
  0)
  (bif
  Nat.beq
  (List.length
  (ipL
  (listT In
  (Td.fr 7 (List.length (mF l)) 1 fun i =>
  encL (mF l) (0 + i)))))
  0 then
  ipC
  (listT In
  (Td.fr 7 (List.length (mF l)) 1 fun i =>
  encL (mF l) (0 + i)))
  else 0)
  fun i =>
  encL
  (ipL
  (listT In
  (Td.fr 7 (List.length (mF l)) 1 fun i =>
  encL (mF l) (0 + i))))
  (0 + i))])
  (need
  (true &&
  Nat.ble
  (0 +
  List.length
  (ipL
  (listT In
  (Td.fr 7 (List.length (mF l)) 1 fun i =>
  encL (mF l) (0 + i)))))
  (List.length
  (ipL
  (listT In
  (Td.fr 7 (List.length (mF l)) 1 fun i =>
  encL (mF l) (0 + i))))))
  (need
  (Nat.ble
  (0 +
  List.length
  (ipL
  (listT In
  (Td.fr 7 (List.length (mF l)) 1 fun i =>
  encL (mF l) (0 + i)))))
  1000000)
  (need
  (Nat.ble
  (List.length
  (ipL
  (listT In
  (Td.fr 7 (List.length (mF l)) 1 fun i =>
  encL (mF l) (0 + i)))) +
  1)
  1000000)
  (need
  (true &&
  Nat.ble
  (0 +
  List.length
  (ipL
  (listT In
  (Td.fr 7 (List.length (mF l)) 1 fun i =>
  encL (mF l) (0 + i)))))
  (List.length
  (ipL
  (listT In
  (Td.fr 7 (List.length (mF l)) 1 fun i =>
  encL (mF l) (0 + i))))))
  (need
  (true &&
  Nat.ble
  (0 +
  (List.length
  (ipL
  (listT In
  (Td.fr 7 (List.length (mF l)) 1 fun i =>
  encL (mF l) (0 + i)))) +
  1))
  (List.length
  (ipL
  (listT In
  (Td.fr 7 (List.length (mF l)) 1 fun i =>
  encL (mF l) (0 + i)))) +
  1))
  (need
  (ok1 U8 (fun l x => List.all l (okA U8))
  [Ta.cell
  (Td.fr 1
  (List.length
  (ipL
  (listT In
  (Td.fr 7 (List.length (mF l)) 1 fun i =>
  encL (mF l) (0 + i)))) +
  1)
  0 fun i k =>
  mrgT
  (Nat.blt (0 + i)
  (List.length
  (ipL
  (listT In
  (Td.fr 7 (List.length (mF l)) 1 fun i =>
  encL (mF l) (0 + i))))))
  (encL
  (ipL
  (listT In
  (Td.fr 7 (List.length (mF l)) 1 fun i =>
  encL (mF l) (0 + i))))
  (0 + (0 + (0 + i))) k)
  (selT 1 1 [Td.sc (Value.int IntKind.u8 more)]
  (0 + i -
  List.length
  (ipL
  (listT In
  (Td.fr 7 (List.length (mF l)) 1 fun i =>
  encL (mF l) (0 + i)))))
  k))])
  (need
  (tiO
  (listT U8
  (Td.fr 1
  (List.length
  (ipL
  (listT In
  (Td.fr 7 (List.length (mF l)) 1 fun i =>
  encL (mF l) (0 + i)))))
  (ipC
  (listT In
  (Td.fr 7 (List.length (mF l)) 1 fun i =>
  encL (mF l) (0 + i))))
  fun i =>
  encL
  (ipL
  (listT In
  (Td.fr 7 (List.length (mF l)) 1 fun i =>
  encL (mF l) (0 + i))))
  (0 + i))))
  (need
  (true &&
  Nat.ble
  (0 +
  List.length
  (tiL
  (listT U8
  (Td.fr 1
  (List.length
  (ipL
  (listT In
  (Td.fr 7 (List.length (mF l)) 1 fun i =>
  encL (mF l) (0 + i)))))
  (ipC
  (listT In
  (Td.fr 7 (List.length (mF l)) 1 fun i =>
  encL (mF l) (0 + i))))
  fun i =>
  encL
  (ipL
  (listT In
  (Td.fr 7 (List.length (mF l)) 1 fun i =>
  encL (mF l) (0 + i))))
  (0 + i)))))
  (List.length
  (tiL
  (listT U8
  (Td.fr 1
  (List.length
  (ipL
  (listT In
  (Td.fr 7 (List.length (mF l)) 1 fun i =>
  encL (mF l) (0 + i)))))
  (ipC
  (listT In
  (Td.fr 7 (List.length (mF l)) 1 fun i =>
  encL (mF l) (0 + i))))
  fun i =>
  encL
  (ipL
  (listT In
  (Td.fr 7 (List.length (mF l)) 1 fun i =>
  encL (mF l) (0 + i))))
  (0 + i))))))
  (need (true && Nat.ble (0 + List.length (mF l)) (List.length (mF l)))
  (need
  (ok2 In In (fun x x_1 x_2 x_3 => true)
  [Ta.cell
  (Td.fr 7
  (List.length
  (tiL
  (listT U8
  (Td.fr 1
  (List.length
  (ipL
  (listT In
  (Td.fr 7 (List.length (mF l)) 1
  fun i => encL (mF l) (0 + i)))))
  (ipC
  (listT In
  (Td.fr 7 (List.length (mF l)) 1 fun i =>
  encL (mF l) (0 + i))))
  fun i =>
  encL
  (ipL
  (listT In
  (Td.fr 7 (List.length (mF l)) 1
  fun i => encL (mF l) (0 + i))))
  (0 + i)))))
  1 fun i =>
  encL
  (tiL
  (listT U8
  (Td.fr 1
  (List.length
  (ipL
  (listT In
  (Td.fr 7 (List.length (mF l)) 1
  fun i => encL (mF l) (0 + i)))))
  (ipC
  (listT In
  (Td.fr 7 (List.length (mF l)) 1 fun i =>
  encL (mF l) (0 + i))))
  fun i =>
  encL
  (ipL
  (listT In
  (Td.fr 7 (List.length (mF l)) 1
  fun i => encL (mF l) (0 + i))))
  (0 + i))))
  (0 + i)),
  Ta.cell
  (Td.fr 7 (List.length (mF l)) 1 fun i =>
  encL (mF l) (0 + i))])
  (need
  (sameIs
  (listT In
  (Td.fr 7
  (List.length
  (tiL
  (listT U8
  (Td.fr 1
  (List.length
  (ipL
  (listT In
  (Td.fr 7 (List.length (mF l)) 1
  fun i => encL (mF l) (0 + i)))))
  (ipC
  (listT In
  (Td.fr 7 (List.length (mF l)) 1 fun i =>
  encL (mF l) (0 + i))))
  fun i =>
  encL
  (ipL
  (listT In
  (Td.fr 7 (List.length (mF l)) 1
  fun i => encL (mF l) (0 + i))))
  (0 + i)))))
  1 fun i =>
  encL
  (tiL
  (listT U8
  (Td.fr 1
  (List.length
  (ipL
  (listT In
  (Td.fr 7 (List.length (mF l)) 1
  fun i => encL (mF l) (0 + i)))))
  (ipC
  (listT In
  (Td.fr 7 (List.length (mF l)) 1 fun i =>
  encL (mF l) (0 + i))))
  fun i =>
  encL
  (ipL
  (listT In
  (Td.fr 7 (List.length (mF l)) 1
  fun i => encL (mF l) (0 + i))))
  (0 + i))))
  (0 + i)))
  (listT In
  (Td.fr 7 (List.length (mF l)) 1 fun i =>
  encL (mF l) (0 + i))))
  (need
  (!tiO
  (listT U8
  (Td.fr 1
  (Int.toNat
  (Int.tmod (IntKind.wrap IntKind.i64 cut)
  (Int.ofNat
  (List.length
  (ipL
  (listT In
  (Td.fr 7 (List.length (mF l)) 1
  fun i => encL (mF l) (0 + i))))))) -
  0)
  (bif
  Nat.beq
  (List.length
  (ipL
  (listT In
  (Td.fr 7 (List.length (mF l)) 1
  fun i => encL (mF l) (0 + i)))))
  0 then
  ipC
  (listT In
  (Td.fr 7 (List.length (mF l)) 1 fun i =>
  encL (mF l) (0 + i)))
  else 0)
  fun i =>
  encL
  (ipL
  (listT In
  (Td.fr 7 (List.length (mF l)) 1 fun i =>
  encL (mF l) (0 + i))))
  (0 + i))))
  (need
  (!tiO
  (listT U8
  (Td.fr 1
  (List.length
  (ipL
  (listT In
  (Td.fr 7 (List.length (mF l)) 1
  fun i => encL (mF l) (0 + i)))) +
  1)
  0 fun i k =>
  mrgT
  (Nat.blt (0 + i)
  (List.length
  (ipL
  (listT In
  (Td.fr 7 (List.length (mF l)) 1
  fun i => encL (mF l) (0 + i))))))
  (encL
  (ipL
  (listT In
  (Td.fr 7 (List.length (mF l)) 1
  fun i => encL (mF l) (0 + i))))
  (0 + (0 + (0 + i))) k)
  (selT 1 1
  [Td.sc (Value.int IntKind.u8 more)]
  (0 + i -
  List.length
  (ipL
  (listT In
  (Td.fr 7 (List.length (mF l)) 1
  fun i => encL (mF l) (0 + i)))))
  k))))
  True)))))))))))))))))))))))) := by kernel_rfl
end Go.Proofs.Ytncndnlbiijdoaa.Ev

/-! InstBack: what has to hold holds. -/
set_option linter.unusedVariables false
set_option linter.unusedSimpArgs false
set_option maxRecDepth 100000
namespace Go.Proofs.Ytncndnlbiijdoaa.Ev
open Go Go.Proofs Go.RowKit

theorem bits_idem (f : Nat) : bitsN (bitsN f) = bitsN f := by
  unfold bitsN
  cases h : nanB .f64 f with
  | true => rfl
  | false => show cond (nanB .f64 f) _ f = f; rw [h]; rfl
theorem valP_can (k i : Int) (f : Nat) : valP k i (bitsN f) ↔ valP k i f := by unfold valP; rw [bits_idem]
theorem valN_can (k i : Int) (f : Nat) : valN k i (bitsN f) = valN k i f := by
  unfold valN
  by_cases h : valP k i f
  · rw [if_pos h, if_pos ((valP_can k i f).2 h)]
  · rw [if_neg h, if_neg fun q => h ((valP_can k i f).1 q)]
theorem mayB_can (x : In) : mayB (canI x) = mayB x := by
  have : mayP (canI x) ↔ mayP x := by
    unfold mayP
    simp only [canI, bits_idem, valN_can]
  unfold mayB
  rw [Bool.eq_iff_iff, decide_eq_true_iff, decide_eq_true_iff]; exact this
theorem fit_can {x : In} (h : inFit x = true) : inFit (canI x) = true := by
  unfold inFit at h ⊢
  simp only [Bool.and_eq_true, decide_eq_true_eq] at h ⊢
  exact ⟨⟨bits_lt h.1.1, h.1.2⟩, h.2⟩
theorem can_idem (x : In) : canI (canI x) = canI x := by
  show (⟨x.op, x.kd, x.a, x.n, ⟨x.v.k, x.v.i, bitsN (bitsN x.v.f)⟩⟩ : In) = _
  rw [bits_idem]; rfl
theorem same_can (x : In) : sameIn (canI x) x = true := (sameIn_iff _ _).2 ⟨rfl, rfl, rfl, rfl, rfl, rfl, bits_idem _⟩
theorem sameP_can : ∀ (l : List In), sameP (l.map canI) l := by
  intro l
  induction l with
  | nil => exact trivial
  | cons x l ih => exact ⟨same_can x, ih⟩
theorem par_of {l : List In} (hl : l.length ≤ 400) (h1 : l.all mayB = true) (h2 : l.all inFit = true) : isPar (putN l l.length) (l.map canI) := by
  refine ⟨by simpa using hl, ?_, ?_, put_same (sameP_can l), ?_⟩
  · rw [List.all_map, List.all_eq_true] at *
    exact fun x hx => by show mayB (canI x) = true; rw [mayB_can]; exact h1 x hx
  · rw [List.all_map, List.all_eq_true] at *
    exact fun x hx => fit_can (h2 x hx)
  · rw [List.map_map]
    exact List.map_congr_left fun x _ => can_idem x
theorem take_yes {l : List In} (hl : l.length ≤ 400) (h1 : l.all mayB = true) (h2 : l.all inFit = true) : tiO (putN l l.length) = true ∧ tiL (putN l l.length) = l.map canI := by
  have hg := tk_good (putN_ok l l.length) (n0 := _) rfl
  have hp := par_of hl h1 h2
  have e := hg.2.2.2 _ hp
  rw [← e] at hp
  obtain ⟨a, b⟩ := ti_yes hg hp
  exact ⟨a, by rw [b, e]⟩
theorem take_cut {l : List In} (hl : l.length ≤ 400) (h1 : l.all mayB = true) (h2 : l.all inFit = true) {n : Nat} (hn : n < (putN l l.length).length) : tiO ((putN l l.length).take n) = false := by
  have hg := tk_good (take_all (putN_ok l l.length) n) (n0 := _) rfl
  refine (ti_no hg fun h => ?_).1
  obtain ⟨p1, p2, p3, p4, p5⟩ := h
  generalize (parI _ _).2 = L at *
  have e : putN L L.length ++ (putN l l.length).drop n = putN l l.length ++ [] := by rw [p4, List.take_append_drop, List.append_nil]
  have := (put_inj p1 hl p2 h1 p3 h2 e).2
  have := congrArg List.length this
  simp at this
  omega
theorem take_more {l : List In} (hl : l.length ≤ 400) (h1 : l.all mayB = true) (h2 : l.all inFit = true) {u : U8} (hu : okA U8 u = true) : tiO (putN l l.length ++ [u]) = false := by
  have ho : (putN l l.length ++ [u]).all (okA U8) = true := by rw [List.all_append, putN_ok]; simp [hu]
  have hg := tk_good ho (n0 := _) rfl
  refine (ti_no hg fun h => ?_).1
  obtain ⟨p1, p2, p3, p4, p5⟩ := h
  generalize (parI _ _).2 = L at *
  have e : putN L L.length ++ [] = putN l l.length ++ [u] := by rw [p4, List.append_nil]
  have := (put_inj p1 hl p2 h1 p3 h2 e).2
  cases this
theorem mF_may (l : List In) : (mF l).all mayB = true := by
  rw [List.all_eq_true]
  exact fun x hx => (List.mem_filter.1 hx).2
theorem mF_fit {l : List In} (h : l.all (okA In) = true) : (mF l).all (okA In) = true := by
  rw [List.all_eq_true] at *
  exact fun x hx => h x (List.mem_filter.1 hx).1
theorem mF_len (l : List In) : (mF l).length ≤ l.length := List.length_filter_le _ _
theorem mF_step {l : List In} {k : Nat} (hk : k < l.length) : mF (l.take (k + 1)) = bif mayB (l.getD k Enc.dflt) then mF (l.take k) ++ [l.getD k Enc.dflt] else mF (l.take k) := by
  have : l.take (k + 1) = l.take k ++ [l.getD k Enc.dflt] := by
    rw [List.take_add_one]; simp [List.getD, hk]
  rw [this]
  unfold mF
  rw [List.filter_append]
  clear this
  generalize l.getD k Enc.dflt = x
  cases h : mayB x with
  | true => simp [List.filter, h]
  | false => simp [List.filter, h]
theorem bk_loop {l : List In} {c : Nat} {cut more : Int} {β : Bs} (hβ : β.X.length = 1) (hl : l.length ≤ 20) :
    LoopJ Try.prog β (exBk l c cut more) 0 (loopOf Try.prog 4 0) (FBk l (mF (l.take 0)) c 1 cut more ((0 : Nat) : Int)) (SBk l (mF (l.take 0))) := by
  refine loop_rule (fun k : Nat => k ≤ l.length) (fun k => FBk l (mF (l.take k)) c 1 cut more (k : Int)) (fun k => SBk l (mF (l.take k))) (fun k => l.length - k) (fun k hk K hK => ?_) 0 (Nat.zero_le _)
  have hK : K (.exit 0) (FBk l (mF l) c 1 cut more l.length) (SBk l (mF l)) := hK
  show J Try.prog β (loopOf Try.prog 4 0) (FBk l (mF (l.take k)) c 1 cut more (k : Int)) (SBk l (mF (l.take k))) (Nn β (fun k : Nat => k ≤ l.length) (fun k => l.length - k) (fun k => FBk l (mF (l.take k)) c 1 cut more (k : Int)) (fun k => SBk l (mF (l.take k))) k K)
  refine roundJ_ok (E := 1) (lvs := fun _ => slBk) (un := fun _ => 0) (fuel := 100) (n := 20) (ex := fun _ _ => False) follows toldV1_ok hβ (lv := lvBk) ?_
  rw [vc_bk_r]
  generalize hN : Nn β (fun k : Nat => k ≤ l.length) (fun k => l.length - k) (fun k => FBk l (mF (l.take k)) c 1 cut more (k : Int)) (fun k => SBk l (mF (l.take k))) k K = N
  have hm : (mF (l.take k)).length ≤ 20 := Nat.le_trans (mF_len _) (by rw [List.length_take]; omega)
  by_cases hkn : k < l.length
  · have c1 : decide ((k : Int) < Int.ofNat l.length) = true := by simpa using hkn
    have i1 : decide ((0 : Int) ≤ (k : Int)) = true := by simp
    have i2 : Int.toNat (k : Int) = k := Int.toNat_natCast k
    have i3 : Nat.blt k l.length = true := by simpa using hkn
    have i4 : Nat.ble 0 k = true := by simp
    have hw : IntKind.wrap .i64 ((k : Int) + 1) = ((k + 1 : Nat) : Int) := w64 (by omega) (by omega)
    have hx : ∀ x : In, (⟨x.op, x.kd, x.a, x.n, ⟨x.v.k, x.v.i, x.v.f⟩⟩ : In) = x := fun x => rfl
    have b1 : Nat.ble ((mF (l.take k)).length + 1) 1000000 = true := Nat.ble_eq_true_of_le (by omega)
    have hs := mF_step hkn
    simp only [c1, i1, i2, i3, i4, b1, Nat.zero_add, bleS, Bool.true_and, need_t, br_t, hw, hx]
    refine br_of (fun q1 => ?_) (fun q1 => ?_)
    · subst hN
      rw [q1] at hs
      have hs : mF (l.take (k + 1)) = mF (l.take k) ++ [l.getD k Enc.dflt] := hs
      refine Nn.next (I := fun k : Nat => k ≤ l.length) (m := fun k => l.length - k) (F := fun k => FBk l (mF (l.take k)) c 1 cut more (k : Int)) (S := fun k => SBk l (mF (l.take k))) (p := k) (k + 1) hkn (by omega) ?_
      have hF : FBk l (mF (l.take (k + 1))) c 1 cut more ((k + 1 : Nat) : Int) = mkF 84 [(0, Value.slice (some (Addr.mk 0 0 (some 0))) (List.length l) c), (1, Value.int IntKind.u16 cut), (2, Value.int IntKind.u8 more), (7, Value.slice (some (Addr.mk 1 0 (some 0))) ((mF (l.take k)).length + 1) 1), (8, Value.int IntKind.i64 ((k + 1 : Nat) : Int))] := by
        unfold FBk; rw [hs, List.length_append]; rfl
      have hS : SBk l (mF (l.take (k + 1))) = mkS [some (rowO .still l), some (rowO .mine (mF (l.take k) ++ [l.getD k Enc.dflt]))] := by
        unfold SBk; rw [hs]
      show Seen β _ _ (FBk l (mF (l.take (k + 1))) c 1 cut more ((k + 1 : Nat) : Int)) (SBk l (mF (l.take (k + 1))))
      rw [hF, hS]
      refine Seen.two rfl rfl (fun _ _ _ h => h) fun ρ s w h => ?_
      refine row_app (α := In) (es := 7) (n := (mF (l.take k)).length) (g := fun i j => encL (mF (l.take k)) i j) (ts := _) rfl rfl (fun i j => rfl) (fun j hj => ?_) (by simpa only [Nat.zero_add] using h)
      match j, hj with
      | 0, _ => rfl
      | 1, _ => rfl
      | 2, _ => rfl
      | 3, _ => rfl
      | 4, _ => rfl
      | 5, _ => rfl
      | 6, _ => rfl
    · subst hN
      rw [q1] at hs
      have hs : mF (l.take (k + 1)) = mF (l.take k) := hs
      refine Nn.next (I := fun k : Nat => k ≤ l.length) (m := fun k => l.length - k) (F := fun k => FBk l (mF (l.take k)) c 1 cut more (k : Int)) (S := fun k => SBk l (mF (l.take k))) (p := k) (k + 1) hkn (by omega) ?_
      show Seen β _ _ (FBk l (mF (l.take (k + 1))) c 1 cut more ((k + 1 : Nat) : Int)) (SBk l (mF (l.take (k + 1))))
      rw [hs]
      exact Seen.refl _ _ _
  · have c1 : decide ((k : Int) < Int.ofNat l.length) = false := by simpa using hkn
    have hkn' : k = l.length := by omega
    simp only [c1, br_f]
    subst hkn' hN
    rw [List.take_length]
    exact Nn.exit (Seen.refl _ _ _) hK
theorem ok1_in {l : List In} {c : Nat} (hok : l.all (okA In) = true) (hl : l.length ≤ 1000000) (hc : c ≤ 1) : ok1 In (fun l x => List.all l (okA In)) [Ta.cell (Td.fr 7 l.length c (encL l))] = true := by
  show (okT In (tdL l c) && (listT In (tdL l c)).all (okA In)) = true
  rw [okT_tdL hok hl hc, listT_tdL, hok]; rfl
theorem ok2_in {l m : List In} {c d : Nat} (hl : l.all (okA In) = true) (hm : m.all (okA In) = true) (h1 : l.length ≤ 1000000) (h2 : m.length ≤ 1000000) (hc : c ≤ 1) (hd : d ≤ 1) : ok2 In In (fun _ _ _ _ => true) [Ta.cell (Td.fr 7 l.length c (encL l)), Ta.cell (Td.fr 7 m.length d (encL m))] = true := by
  show (okT In (tdL l c) && okT In (tdL m d) && true) = true
  rw [okT_tdL hl h1 hc, okT_tdL hm h2 hd]; rfl
theorem ipG_may {l : List In} (h : l.length ≤ 400) (h2 : l.all mayB = true) : ipG l = true := by unfold ipG; rw [decide_eq_true h, h2]; rfl
theorem lU_take (l : List U8) {n : Nat} (c : Nat) (h : n ≤ l.length) : listT U8 (Td.fr 1 n c (encL l)) = l.take n := by
  have := listU_mid l (k := 0) (n := n) c (by omega)
  simp only [Nat.zero_add, List.drop_zero] at this
  exact this
theorem ok1_take {l : List U8} (hl : l.all (okA U8) = true) {n c : Nat} (h : n ≤ l.length) (hn : n ≤ 1000000) (hc : c ≤ 1) : ok1 U8 (fun l _ => l.all (okA U8)) [Ta.cell (Td.fr 1 n c (encL l))] = true := by
  have := ok1_mid hl (k := 0) (n := n) (c := c) (by omega) hn hc
  simp only [Nat.zero_add] at this
  exact this
theorem back_law {l : List In} {c : Nat} {cut more : Int} (hc : c ≤ 1) (hl : l.all (okA In) = true) (hcut : 0 ≤ cut ∧ cut < 65536) (hmore : 0 ≤ more ∧ more < 256) (w : World) (args' : Array Value) (ha : PW (TR w (There w)) [tdL l c, .sc (.int .u16 cut), .sc (.int .u8 more)] args'.toList) :
    Calls Try.prog 4 args' w fun e w' => e = .returned (.bool true) ∧ Below w.heap.size w w' := by
  refine law_top (C := toldV1) (fuel := 100) (n := 20) (un := fun _ => 0) (lvs := fun _ => slBk) (ex := exBk l c cut more) follows toldV1_ok (fun β hβ => ?_) w args' ha
  show lawE _ _ _ _ _ _ (cnOf 1 fun _ => slBk) _ _ [.slice (some ⟨0, 0, some 0⟩) l.length c, .int .u16 cut, .int .u8 more] (mkS [some (rowO .still l)]) trueE
  rw [vc_bk]
  refine br_of (fun _ => trivial) (fun q1 => ?_)
  have hl20 : l.length ≤ 20 := by simp at q1; omega
  refine ⟨LoopJ.seen ?_ (bk_loop (l := l) (c := c) (cut := cut) (more := more) hβ hl20), ?_⟩
  · refine Seen.nilSlot 7 7 (encL ([] : List In)) rfl rfl rfl fun t v h => ?_
    rcases mkFT_get _ _ t v h with h1 | h1
    · simp at h1
      rcases h1 with ⟨rfl, rfl⟩ | ⟨rfl, rfl⟩ | ⟨rfl, rfl⟩ | ⟨rfl, rfl⟩ | ⟨rfl, rfl⟩
      · exact .inr rfl
      · exact .inr rfl
      · exact .inr rfl
      · exact .inl ⟨rfl, rfl⟩
      · exact .inr rfl
    · cases h1
  have hm1 := mF_may l
  have hm2 := mF_fit hl
  have hm3 : (mF l).length ≤ 20 := Nat.le_trans (mF_len l) hl20
  generalize mF l = m at *
  have hg := ipG_may (l := m) (by omega) hm1
  have e1 : ipL m = putN m m.length := by unfold ipL; rw [hg]; rfl
  have e2 : ipC m = 0 := by unfold ipC; rw [hg]; rfl
  have t1 := take_yes (l := m) (by omega) hm1 hm2
  have t2 := fun n hn => take_cut (l := m) (n := n) (by omega) hm1 hm2 hn
  have hu : okA U8 (⟨more⟩ : U8) = true := (okU_iff _).2 hmore
  have t3 := take_more (l := m) (u := ⟨more⟩) (by omega) hm1 hm2 hu
  have hP := putN_len m m.length
  have hPo := putN_ok m m.length
  have o1 := ok1_in (c := 1) hm2 (by omega) (by omega)
  have hcl : (m.map canI).length = m.length := by simp
  have hco : (m.map canI).all (okA In) = true := (par_of (l := m) (by omega) hm1 hm2).2.2.1
  have o4 := ok2_in (c := 1) (d := 1) hco hm2 (by omega) (by omega) (by omega) (by omega)
  have hs : sameIs (m.map canI) m = true := (sameP_iff _ _).2 (sameP_can m)
  obtain ⟨t1, t1'⟩ := t1
  generalize putN m m.length = P at *
  have hPl : 2 ≤ P.length ∧ P.length ≤ 10000 := by omega
  have o2 := ok1U (c := 0) hPo (by omega) (by omega)
  obtain ⟨a, rfl⟩ := Int.eq_ofNat_of_zero_le hcut.1
  have W1 : IntKind.wrap .i64 (a : Int) = (a : Int) := w64 (by omega) (by omega)
  have W2 : Int.tmod (a : Int) (P.length : Int) = ((a % P.length : Nat) : Int) := (Int.ofNat_tmod _ _).symm
  have hK : a % P.length < P.length := Nat.mod_lt _ (by omega)
  have t2 := t2 _ hK
  have z0 : decide ((P.length : Int) < 2) = false := decide_eq_false (by omega)
  have z1 : Nat.beq P.length 0 = false := beq_false (by omega)
  have z2 : decide ((P.length : Int) = 0) = false := decide_eq_false (by omega)
  have z3 : decide ((0 : Int) ≤ ((a % P.length : Nat) : Int)) = true := decide_eq_true (by omega)
  have b1 : Nat.ble P.length 1000000 = true := Nat.ble_eq_true_of_le (by omega)
  have b2 : Nat.ble (P.length + 1) 1000000 = true := Nat.ble_eq_true_of_le (by omega)
  have b3 : Nat.ble (a % P.length) P.length = true := Nat.ble_eq_true_of_le (by omega)
  have o3 := ok1_take (c := 0) hPo (n := a % P.length) (by omega) (by omega) (by omega)
  have l3 := lU_take P (n := a % P.length) 0 (by omega)
  have l5 : listT U8 (Td.fr 1 (P.length + 1) 0 fun i k => mrgT (Nat.blt i P.length) (encL P i k) (selT 1 1 [Td.sc (.int .u8 more)] (i - P.length) k)) = P ++ [⟨more⟩] := listT_app (a := (⟨more⟩ : U8)) rfl (fun _ _ => rfl) (fun j hj => match j, hj with | 0, _ => rfl)
  have ho5 : (P ++ [(⟨more⟩ : U8)]).all (okA U8) = true := by rw [List.all_append, hPo]; simp [hu]
  have o5 : ok1 U8 (fun l x => List.all l (okA U8)) [Ta.cell (Td.fr 1 (P.length + 1) 0 fun i k => mrgT (Nat.blt i P.length) (encL P i k) (selT 1 1 [Td.sc (.int .u8 more)] (i - P.length) k))] = true := by
    have h5 : okT U8 (Td.fr 1 (P.length + 1) 0 fun i k => mrgT (Nat.blt i P.length) (encL P i k) (selT 1 1 [Td.sc (.int .u8 more)] (i - P.length) k)) = true := okT_app (a := (⟨more⟩ : U8)) rfl (fun _ _ => rfl) (fun j hj => match j, hj with | 0, _ => rfl) ho5 (by omega) (by omega)
    show (okT U8 _ && (listT U8 _).all (okA U8)) = true
    rw [l5, ho5, h5]; rfl
  simp only [encZ, Nat.zero_add, Nat.sub_zero, bleS, Bool.true_and, Bool.and_true, need_t, br_f, o1, o2, lIn, lU, e1, e2, t1, t1', Int.ofNat_eq_natCast, W1, W2, z0, z1, z2, z3, b1, b2, b3, cond_false, Int.toNat_natCast, Bool.not_false, o3, l3, o5, l5, o4, hs, t2, t3]
end Go.Proofs.Ytncndnlbiijdoaa.Ev

/-! ref7.TakeInsts: told to the evaluator. -/
set_option linter.unusedVariables false
set_option linter.unusedSimpArgs false
set_option maxRecDepth 100000
namespace Go.Proofs.Ytncndnlbiijdoaa.Ev
open Go Go.Proofs Go.RowKit

theorem bt_i64 {b : List U8} (h : b.all (okA U8) = true) (j : Nat) : IntKind.wrap .i64 (U8.v (List.getD b j Enc.dflt)) = ((bt b j : Nat) : Int) := by
  have h0 : 0 ≤ (b.getD j Enc.dflt).v ∧ (b.getD j Enc.dflt).v < 256 := by
    rcases Nat.lt_or_ge j b.length with hj | hj
    · exact all_getU h hj
    · have : b.getD j Enc.dflt = (Enc.dflt : U8) := by simp [List.getD, List.getElem?_eq_none hj]
      rw [this]; exact ⟨by show (0 : Int) ≤ 0; omega, by show (0 : Int) < 256; omega⟩
  unfold bt
  rw [w64 (by omega) (by omega), Int.toNat_of_nonneg h0.1]
theorem no_par {b : List U8} {l0 : List In} {n0 j : Nat} (hp : isPar b l0) (hn : n0 = bt b 0 * 256 + bt b 1) (hj : j < n0) : (parI b j).1 + wdI b (parI b j).1 ≤ b.length ∧ mayB (rdIn b (parI b j).1) = true := by
  obtain ⟨p1, p2, p3, p4, p5⟩ := hp
  have e := par_hd p1 p4
  refine ⟨par_wd p2 p3 p4 (by omega), ?_⟩
  have hq := congrArg Prod.snd (par_put p2 p3 (j + 1) (by omega))
  rw [p4] at hq
  have hm : rdIn b (parI b j).1 ∈ (parI b (j + 1)).2 := by show _ ∈ (parI b j).2 ++ [_]; simp
  rw [hq] at hm
  obtain ⟨y, hy, e⟩ := List.mem_map.1 hm
  rw [← e, mayB_can]
  exact List.all_eq_true.1 p2 y (List.mem_of_mem_take hy)
theorem may_kd {x : In} (h : mayB x = true) (ho : x.op = 1) : 1 ≤ x.kd ∧ x.kd ≤ 5 := by
  obtain ⟨h1, h2⟩ := (may_inv h).2.2.2.2.2.2.2.2.1 ho
  unfold valP at h2
  omega
def fixI (x : In) : In := if x.op = 1 ∧ x.kd = 1 then ⟨x.op, x.kd, x.a, x.n, ⟨x.v.k, if x.v.i = 0 then 0 else 1, x.v.f⟩⟩ else x
theorem fix_may {x : In} (h : mayB x = true) : fixI x = x := by
  unfold fixI
  by_cases q : x.op = 1 ∧ x.kd = 1
  · rw [if_pos q]
    obtain ⟨h1, h2⟩ := (may_inv h).2.2.2.2.2.2.2.2.1 q.1
    unfold valP at h2
    have hi : x.v.i = 0 ∨ x.v.i = 1 := by omega
    obtain ⟨op, kd, a, n, k, i, f⟩ := x
    rcases hi with hi | hi
    · have hi : i = 0 := hi
      subst hi; rfl
    · have hi : i = 1 := hi
      subst hi; rfl
  · rw [if_neg q]
theorem fix_fit {x : In} (h : inFit x = true) : inFit (fixI x) = true := by
  unfold fixI
  split
  · unfold inFit at h ⊢
    simp only [Bool.and_eq_true, decide_eq_true_eq] at h ⊢
    refine ⟨⟨h.1.1, ?_⟩, ?_⟩ <;> split <;> omega
  · exact h
theorem fix_all {l : List In} (h : l.all mayB = true) : l.map fixI = l := by
  have : l.map fixI = l.map id := List.map_congr_left fun x hx => fix_may (List.all_eq_true.1 h x hx)
  rw [this, List.map_id]
theorem can_may {l : List In} (h : l.all mayB = true) : (l.map canI).all mayB = true := by
  rw [List.all_map, List.all_eq_true] at *
  exact fun x hx => by show mayB (canI x) = true; rw [mayB_can]; exact h x hx
theorem tk_good2 {b : List U8} (hb : b.all (okA U8) = true) {n0 : Nat} (hn : n0 = bt b 0 * 256 + bt b 1) : GoodTi b ((parI b n0).2.map fixI) (b.length - (parI b n0).1) := by
  have hG := tk_good hb hn
  have hl := parI_len b n0
  have hf : ((parI b n0).2.map fixI).all inFit = true := by
    have := hG.1
    rw [List.all_map, List.all_eq_true] at *
    exact fun x hx => fix_fit (this x hx)
  have hML : ((parI b n0).2.map fixI).length = n0 := by simp [hl]
  have key : ((parI b n0).2.map fixI).all mayB = true → putN ((parI b n0).2.map fixI) ((parI b n0).2.map fixI).length = b → ((parI b n0).2.map fixI).map canI = (parI b n0).2.map fixI := fun g2 hp => by
    have e := par_all g2 hf hp
    rw [hML] at e
    have h3 : ((parI b n0).2.map fixI) = (((parI b n0).2.map fixI).map canI).map fixI := by rw [← e]
    rw [fix_all (can_may g2)] at h3
    exact h3.symm
  refine ⟨⟨hf, by rw [hML, ← hl]; exact hG.2.1, fun hg hp => ?_, fun l0 h0 => ?_⟩, fun h0 => ?_⟩
  · obtain ⟨g1, g2⟩ := ipG_inv hg
    exact ⟨g1, g2, hf, hp, key g2 hp⟩
  · rw [hG.2.2.2 l0 h0]; exact fix_all h0.2.1
  · have e := hG.2.2.2 _ h0
    obtain ⟨p1, p2, p3, p4, p5⟩ := h0
    generalize (parI b n0).2.map fixI = L at *
    have hq := congrArg Prod.fst (par_put p2 p3 L.length (Nat.le_refl _))
    rw [p4, hML] at hq
    have hl2 : (putN L L.length).length = 2 + (L.flatMap inBy).length := by rw [put_flat]; simp [num2]; omega
    rw [← hML, List.take_length] at hq
    rw [p4] at hl2
    have hq : (parI b n0).1 = 2 + (L.flatMap inBy).length := by rw [← hML]; exact hq
    omega
theorem rdW_mid (b : List U8) {w k : Nat} (h : k + w ≤ b.length) : rdW w ((b.drop k).take w) 0 = rdW w b k := by
  have hb : ∀ j, j < w → bt ((b.drop k).take w) j = bt b (k + j) := fun j hj => by
    unfold bt
    have := mid_get b h hj Enc.dflt
    rw [show ((b.drop k).take w).getD j Enc.dflt = b.getD (k + j) Enc.dflt by simp only [List.getD]; rw [this]; rfl]
  unfold rdW
  split
  · exact hb 0 (by omega)
  · rw [hb 0 (by omega), hb (0 + 1) (by omega)]; rfl
  · rw [hb 0 (by omega), hb (0 + 1) (by omega), hb (0 + 2) (by omega), hb (0 + 3) (by omega)]; simp only [Nat.zero_add, Nat.add_zero]
  · rw [hb 0 (by omega), hb (0 + 1) (by omega), hb (0 + 2) (by omega), hb (0 + 3) (by omega), hb (0 + 4) (by omega), hb (0 + 5) (by omega), hb (0 + 6) (by omega), hb (0 + 7) (by omega)]; simp only [Nat.zero_add, Nat.add_zero]
  · rfl
theorem wi64 (x : Int) : IntKind.wrap .i64 x = if x % 18446744073709551616 < 9223372036854775808 then x % 18446744073709551616 else x % 18446744073709551616 - 18446744073709551616 := by
  unfold IntKind.wrap
  simp only [IntKind.signed, IntKind.bits]
  have e1 : (2 : Int) ^ 64 = 18446744073709551616 := by decide
  have e2 : (2 : Int) ^ (64 - 1) = 9223372036854775808 := by decide
  simp only [e1, e2]
  (try simp) <;> (try omega)
theorem rd_fix {b : List U8} (hb : b.all (okA U8) = true) {k : Nat} (ho : bt b k = 1) (h1 : 1 ≤ (bt b (k + 1) : Int)) (h5 : (bt b (k + 1) : Int) ≤ 5) (hk : k + 5 + vwid (bt b (k + 1)) ≤ b.length) :
    fixI (rdIn b k) = ⟨bt b k, bt b (k + 1), (rdW 2 b (k + 2) : Nat), bt b (k + 4), ⟨bt b (k + 1), (rvR (bt b (k + 1)) ((b.drop (k + 5)).take (vwid (bt b (k + 1))))).i, (rvR (bt b (k + 1)) ((b.drop (k + 5)).take (vwid (bt b (k + 1))))).f⟩⟩ := by
  have e := rdW_mid b hk
  have hu := rdW_lt hb (vwid (bt b (k + 1))) (k + 5)
  have h8 := bt_lt hb (k + 5)
  have e1 : rdW 1 b (k + 5) = bt b (k + 5) := rfl
  unfold rdIn rvR
  rw [e, if_pos ho, ho]
  generalize hkd : bt b (k + 1) = kd at *
  have hk5 : kd = 1 ∨ kd = 2 ∨ kd = 3 ∨ kd = 4 ∨ kd = 5 := by omega
  rcases hk5 with rfl | rfl | rfl | rfl | rfl
  · have e3 : vwid ((1 : Nat) : Int) = 1 := rfl
    rw [e3, e1]
    generalize bt b (k + 5) = u at *
    have : IntKind.wrap .i64 (u : Int) = u := w64 (by omega) (by omega)
    simp [fixI, rdV, wrF, this]
  · generalize rdW (vwid ((2 : Nat) : Int)) b (k + 5) = u at *
    have a1 := wi64 (u : Int)
    have a2 := wr16 (u : Int)
    have a3 := wr16 (IntKind.wrap .i64 (u : Int))
    have a4 : IntKind.wrap .i64 (IntKind.wrap .i16 (u : Int)) = IntKind.wrap .i16 (u : Int) := w64 (by rw [a2]; split <;> omega) (by rw [a2]; split <;> omega)
    have a5 : IntKind.wrap .i16 (IntKind.wrap .i64 (u : Int)) = IntKind.wrap .i16 (u : Int) := by rw [a3, a2, a1]; split <;> split <;> (try split) <;> omega
    simp [fixI, rdV, wrF, a4, a5]
  · generalize rdW (vwid ((3 : Nat) : Int)) b (k + 5) = u at *
    have a1 := wi64 (u : Int)
    have a2 := wr32 (u : Int)
    have a3 := wr32 (IntKind.wrap .i64 (u : Int))
    have a4 : IntKind.wrap .i64 (IntKind.wrap .i32 (u : Int)) = IntKind.wrap .i32 (u : Int) := w64 (by rw [a2]; split <;> omega) (by rw [a2]; split <;> omega)
    have a5 : IntKind.wrap .i32 (IntKind.wrap .i64 (u : Int)) = IntKind.wrap .i32 (u : Int) := by rw [a3, a2, a1]; split <;> split <;> (try split) <;> omega
    simp [fixI, rdV, wrF, a4, a5]
  · simp [fixI, rdV, wrF]
  · simp [fixI, rdV]
theorem rd_fix0 {b : List U8} {k : Nat} (ho : bt b k ≠ 1) : fixI (rdIn b k) = ⟨bt b k, bt b (k + 1), (rdW 2 b (k + 2) : Nat), bt b (k + 4), ⟨0, 0, 0⟩⟩ := by
  unfold rdIn fixI
  rw [if_neg ho, if_neg (by show ¬ ((bt b k : Int) = 1 ∧ _); omega)]
end Go.Proofs.Ytncndnlbiijdoaa.Ev

/-! ref7.TakeInsts: told to the evaluator. -/
set_option linter.unusedVariables false
set_option linter.unusedSimpArgs false
set_option maxRecDepth 100000
namespace Go.Proofs.Ytncndnlbiijdoaa.Ev
open Go Go.Proofs Go.RowKit

def lTi (b : List U8) (j : Nat) : List In := (parI b j).2.map fixI
def ITi (b : List U8) (n0 : Nat) (p : Nat × Nat) : Prop := p.1 ≤ n0 ∧ (parI b p.1).1 ≤ b.length ∧ p.2 ≤ 1
theorem ti_row {b : List U8} {l : List In} {x : In} {c k m cb : Nat} {n i : Int} {β : Bs} :
    Seen β (FTiR b l c k m cb n i) (mkS [some (rowO .look b), some (.row .mine 7 0 (l.length + 1) fun j k => mrgT (Nat.blt j l.length) (encL l (0 + j) k) (selT 7 1 [.sc (.int .i64 x.op), .sc (.int .i64 x.kd), .sc (.int .i64 x.a), .sc (.int .i64 x.n), .sc (.int .i64 x.v.k), .sc (.int .i64 x.v.i), .sc (.float .f64 x.v.f)] (j - l.length) k))]) (FTi b (l ++ [x]) c k m cb n i) (STi b (l ++ [x])) := by
  have hF : FTi b (l ++ [x]) c k m cb n i = FTiR b l c k m cb n i := by unfold FTi FTiR; rw [List.length_append]; rfl
  rw [hF]
  unfold STi
  refine Seen.two rfl rfl (fun _ _ _ h => h) fun ρ s w h => ?_
  refine row_app (α := In) (es := 7) (n := l.length) (g := fun i j => encL l i j) (ts := _) rfl rfl (fun i j => rfl) (fun j hj => ?_) (by simpa only [Nat.zero_add] using h)
  match j, hj with
  | 0, _ => rfl
  | 1, _ => rfl
  | 2, _ => rfl
  | 3, _ => rfl
  | 4, _ => rfl
  | 5, _ => rfl
  | 6, _ => rfl
theorem okSz_of {k : Int} (h1 : 1 ≤ k) (h5 : k ≤ 5) : okSz [Ta.cell (Td.sc (.int .i64 k))] = true := by
  show (decide (1 ≤ k) && decide (k ≤ 5)) = true
  rw [decide_eq_true h1, decide_eq_true h5]; rfl
theorem okTr_of {b : List U8} (hb : b.all (okA U8) = true) {kd : Int} {q c : Nat} (h1 : 1 ≤ kd) (h5 : kd ≤ 5) (hq : q + vwid kd ≤ b.length) (hw : vwid kd ≤ 8) (hc : c ≤ 1) : okTr [Ta.cell (Td.sc (.int .i64 kd)), Ta.cell (Td.fr 1 (vwid kd) c fun i => encL b (q + i))] = true := by
  show (decide (1 ≤ kd) && decide (kd ≤ 5) && okT U8 _ && (listT U8 _).all (okA U8) && Nat.beq (listT U8 _).length (vwid kd)) = true
  rw [decide_eq_true h1, decide_eq_true h5, okT_mid hb hq (by omega) hc, listU_mid b c hq, mid_all hb, mid_len b hq]
  simp
theorem vwid_le (k : Int) : vwid k ≤ 8 := by
  unfold vwid
  (repeat' split) <;> omega
theorem ti_round {b : List U8} {c n0 : Nat} {β : Bs} (hβ : β.X.length = 1) (hb : b.all (okA U8) = true) (hn0 : n0 = bt b 0 * 256 + bt b 1) (p : Nat × Nat) (hp : ITi b n0 p) (N : Kt)
    (hE : p.1 = n0 → N (.exit 0) (FTiX b (lTi b n0) c (parI b n0).1 (b.length - (parI b n0).1) p.2) (STi b (lTi b n0)))
    (hR : (¬ ∃ l, isPar b l) → N .ret FTi0 (STi0 b))
    (hN : ∀ cb', ITi b n0 (p.1 + 1, cb') → p.1 < n0 → ∀ x : In, lTi b (p.1 + 1) = lTi b p.1 ++ [x] → N .normal (FTiR b (lTi b p.1) c (parI b (p.1 + 1)).1 (b.length - (parI b (p.1 + 1)).1) cb' n0 ((p.1 + 1 : Nat) : Int)) (mkS [some (rowO .look b), some (.row .mine 7 0 ((lTi b p.1).length + 1) fun j k => mrgT (Nat.blt j (lTi b p.1).length) (encL (lTi b p.1) (0 + j) k) (selT 7 1 [.sc (.int .i64 x.op), .sc (.int .i64 x.kd), .sc (.int .i64 x.a), .sc (.int .i64 x.n), .sc (.int .i64 x.v.k), .sc (.int .i64 x.v.i), .sc (.float .f64 x.v.f)] (j - (lTi b p.1).length) k))])) :
    roundJ Try.prog toldW2 100 20 β (fun _ => 0) (cnOf 1 fun _ => slTi) (fun _ _ => False) 11 0 1 lvTi (FTi b (lTi b p.1) c (parI b p.1).1 (b.length - (parI b p.1).1) p.2 n0 (p.1 : Int)) (STi b (lTi b p.1)) N := by
  rw [vc_ti_r]
  obtain ⟨j, cb⟩ := p
  obtain ⟨h1, h2, h3⟩ := hp
  have h1 : j ≤ n0 := h1
  have h3 : cb ≤ 1 := h3
  have h0b := bt_lt hb 0
  have h1b := bt_lt hb 1
  have hll : (lTi b j).length = j := by unfold lTi; simp [parI_len]
  have hlj : lTi b (j + 1) = lTi b j ++ [fixI (rdIn b (parI b j).1)] := by unfold lTi; simp [parI]
  have hkj : (parI b (j + 1)).1 = (parI b j).1 + wdI b (parI b j).1 := rfl
  simp only at hE hN h2 ⊢
  by_cases hj : j < n0
  · have hno : ∀ l0, isPar b l0 → (parI b j).1 + wdI b (parI b j).1 ≤ b.length ∧ mayB (rdIn b (parI b j).1) = true := fun l0 h0 => no_par h0 hn0 hj
    have hN := fun cb' q => hN cb' q hj _ hlj
    rw [hkj] at hN
    generalize (parI b j).1 = k at *
    have c1 : decide ((j : Int) < (n0 : Int)) = true := decide_eq_true (by omega)
    have hw : IntKind.wrap .i64 ((j : Int) + 1) = ((j + 1 : Nat) : Int) := w64 (by omega) (by omega)
    have b7 : Nat.ble (j + 1) 1000000 = true := Nat.ble_eq_true_of_le (by omega)
    have hi := bt_i64 hb
    have x2 := bt_lt hb (k + 2)
    have x3 := bt_lt hb (k + 3)
    have w2 : IntKind.wrap .i64 (((bt b (k + 2) : Nat) : Int) * 256) = ((bt b (k + 2) * 256 : Nat) : Int) := by
      rw [show ((bt b (k + 2) : Nat) : Int) * 256 = ((bt b (k + 2) * 256 : Nat) : Int) by omega]; exact w64 (by omega) (by omega)
    have w3 : IntKind.wrap .i64 (((bt b (k + 2) * 256 : Nat) : Int) + ((bt b (k + 3) : Nat) : Int)) = ((rdW 2 b (k + 2) : Nat) : Int) := by
      rw [show (rdW 2 b (k + 2) : Nat) = bt b (k + 2) * 256 + bt b (k + 3) from rfl]
      rw [show ((bt b (k + 2) * 256 : Nat) : Int) + ((bt b (k + 3) : Nat) : Int) = ((bt b (k + 2) * 256 + bt b (k + 3) : Nat) : Int) by omega]; exact w64 (by omega) (by omega)
    simp only [c1, br_t]
    refine br_of (fun q => hR fun ⟨l0, h0⟩ => ?_) (fun q => ?_)
    · have := (hno l0 h0).1
      have hq := of_decide_eq_true q
      unfold wdI at this
      rw [Int.ofNat_eq_natCast] at hq
      omega
    have h5 : k + 5 ≤ b.length := by
      have hq := of_decide_eq_false q
      rw [Int.ofNat_eq_natCast] at hq; omega
    have d0 : Nat.blt 0 (b.length - k) = true := by simp; omega
    have d1 : Nat.blt 1 (b.length - k) = true := by simp; omega
    have d2 : Nat.blt 2 (b.length - k) = true := by simp; omega
    have d3 : Nat.blt 3 (b.length - k) = true := by simp; omega
    have d4 : Nat.blt 4 (b.length - k) = true := by simp; omega
    have d5 : Nat.ble 5 (b.length - k) = true := Nat.ble_eq_true_of_le (by omega)
    have f : ∀ j, j < 5 → (Nat.ble 0 (k + j) && Nat.blt (k + j) b.length) = true := fun j hj => by simp; omega
    have f0 : (Nat.ble 0 k && Nat.blt k b.length) = true := by simp; omega
    simp only [d0, d1, d2, d3, d4, d5, f0, f 1 (by omega), f 2 (by omega), f 3 (by omega), f 4 (by omega), need_t, hi, Nat.add_zero, w2, w3, hw, hll, b7, Nat.zero_add, bleS, Bool.true_and] at hN ⊢
    refine br_of (fun q1 => ?_) (fun q1 => ?_)
    · have ho : bt b k = 1 := by simp at q1; omega
      have hwd : wdI b k = 5 + vwid (bt b (k + 1)) := by unfold wdI; rw [if_pos ho]
      refine br_of (fun q2 => hR fun ⟨l0, h0⟩ => ?_) (fun q2 => br_of (fun q3 => hR fun ⟨l0, h0⟩ => ?_) (fun q3 => ?_))
      · have := (may_kd (hno l0 h0).2 (by show ((bt b k : Nat) : Int) = 1; omega)).1
        have this : 1 ≤ ((bt b (k + 1) : Nat) : Int) := this
        have hq := of_decide_eq_true q2
        omega
      · have := (may_kd (hno l0 h0).2 (by show ((bt b k : Nat) : Int) = 1; omega)).2
        have this : ((bt b (k + 1) : Nat) : Int) ≤ 5 := this
        have hq := of_decide_eq_true q3
        omega
      · have k1 : 1 ≤ ((bt b (k + 1) : Nat) : Int) := by have := of_decide_eq_false q2; omega
        have k5 : ((bt b (k + 1) : Nat) : Int) ≤ 5 := by have := of_decide_eq_false q3; omega
        simp only [okSz_of k1 k5, need_t, Int.ofNat_eq_natCast, Int.toNat_natCast, Nat.sub_zero]
        refine br_of (fun q4 => hR fun ⟨l0, h0⟩ => ?_) (fun q4 => ?_)
        · have := (hno l0 h0).1
          have hq := of_decide_eq_true q4
          omega
        · have h6 : k + 5 + vwid (bt b (k + 1)) ≤ b.length := by have := of_decide_eq_false q4; omega
          have hv8 := vwid_le (bt b (k + 1))
          have g1 : Nat.ble (vwid (bt b (k + 1))) (b.length - k - 5) = true := Nat.ble_eq_true_of_le (by omega)
          have g2 : Nat.ble (k + 5 + vwid (bt b (k + 1))) b.length = true := Nat.ble_eq_true_of_le h6
          have g3 : Nat.ble 0 (k + 5) = true := by simp
          have hcb : (bif Nat.beq (b.length - k - 5) 0 then bif Nat.beq (b.length - k) 0 then cb else 0 else 0) ≤ 1 := by
            cases Nat.beq (b.length - k - 5) 0 <;> cases Nat.beq (b.length - k) 0 <;> simp <;> omega
          have o6 := okTr_of hb k1 k5 h6 hv8 hcb
          have l6 := listU_mid b (bif Nat.beq (b.length - k - 5) 0 then bif Nat.beq (b.length - k) 0 then cb else 0 else 0) h6
          have hfx := rd_fix hb ho k1 k5 h6
          simp only [g1, g2, g3, o6, l6, need_t, Bool.true_and]
          have := hN (bif Nat.beq (b.length - k - 5) 0 then bif Nat.beq (b.length - k) 0 then cb else 0 else 0) ⟨hj, by show (parI b (j + 1)).1 ≤ _; rw [hkj, hwd]; omega, hcb⟩
          rw [hfx, hwd, ← Nat.add_assoc, ← Nat.sub_sub, ← Nat.sub_sub] at this
          unfold onP shpTi
          simp only [hll, Nat.zero_add]
          exact this
    · have ho : bt b k ≠ 1 := by simp at q1; omega
      have hwd : wdI b k = 5 := by unfold wdI; rw [if_neg ho]
      have hcb : (bif Nat.beq (b.length - k) 0 then cb else 0) ≤ 1 := by
        cases Nat.beq (b.length - k) 0 <;> simp <;> omega
      have hfx := rd_fix0 ho
      have := hN (bif Nat.beq (b.length - k) 0 then cb else 0) ⟨hj, by show (parI b (j + 1)).1 ≤ _; rw [hkj, hwd]; omega, hcb⟩
      rw [hfx, hwd, ← Nat.sub_sub] at this
      unfold onP shpTi
      simp only [hll, Nat.zero_add]
      exact this
  · have hj : j = n0 := by omega
    subst hj
    have c1 : decide ((j : Int) < (j : Int)) = false := decide_eq_false (by omega)
    rw [c1, br_f]
    exact hE rfl
end Go.Proofs.Ytncndnlbiijdoaa.Ev

/-! ref7.TakeInsts: told to the evaluator. -/
set_option linter.unusedVariables false
set_option linter.unusedSimpArgs false
set_option maxRecDepth 100000
namespace Go.Proofs.Ytncndnlbiijdoaa.Ev
open Go Go.Proofs Go.RowKit

theorem ti_loopR {b : List U8} {c n0 cb0 : Nat} {β : Bs} (hβ : β.X.length = 1) (hb : b.all (okA U8) = true) (h2 : 2 ≤ b.length) (hcb : cb0 ≤ 1) (hn0 : n0 = bt b 0 * 256 + bt b 1) :
    LoopJ Try.prog β (exTi b c) 0 (loopOf Try.prog 11 0) (FTi b (lTi b 0) c (parI b 0).1 (b.length - (parI b 0).1) cb0 n0 ((0 : Nat) : Int)) (STi b (lTi b 0)) := by
  refine loop_rule (ITi b n0) (fun p => FTi b (lTi b p.1) c (parI b p.1).1 (b.length - (parI b p.1).1) p.2 n0 (p.1 : Int)) (fun p => STi b (lTi b p.1)) (fun p => n0 - p.1) (fun p hp K hK => ?_) (0, cb0) ⟨Nat.zero_le _, h2, hcb⟩
  obtain ⟨hK1, hK2⟩ := hK
  show J Try.prog β (loopOf Try.prog 11 0) (FTi b (lTi b p.1) c (parI b p.1).1 (b.length - (parI b p.1).1) p.2 n0 (p.1 : Int)) (STi b (lTi b p.1)) (Nn β (ITi b n0) (fun p => n0 - p.1) (fun p => FTi b (lTi b p.1) c (parI b p.1).1 (b.length - (parI b p.1).1) p.2 n0 (p.1 : Int)) (fun p => STi b (lTi b p.1)) p K)
  refine roundJ_ok (E := 1) (lvs := fun _ => slTi) (un := fun _ => 0) (fuel := 100) (n := 20) (ex := fun _ _ => False) follows toldW2_ok hβ (lv := lvTi) ?_
  refine ti_round hβ hb hn0 p hp _ (fun hj => ?_) (fun h => ?_) (fun cb' hI hj x hx => ?_)
  · exact Nn.exit (Seen.refl _ _ _) (hK1 _ _ _ _ (tk_good2 hb hn0))
  · exact Nn.ret (Seen.refl _ _ _) (hK2 h)
  · refine Nn.next (I := ITi b n0) (m := fun p => n0 - p.1) (F := fun p => FTi b (lTi b p.1) c (parI b p.1).1 (b.length - (parI b p.1).1) p.2 n0 (p.1 : Int)) (S := fun p => STi b (lTi b p.1)) (p := p) (p.1 + 1, cb') hI (by show n0 - (p.1 + 1) < n0 - p.1; omega) ?_
    show Seen β _ _ (FTi b (lTi b (p.1 + 1)) c (parI b (p.1 + 1)).1 (b.length - (parI b (p.1 + 1)).1) cb' n0 ((p.1 + 1 : Nat) : Int)) (STi b (lTi b (p.1 + 1)))
    rw [hx]
    exact ti_row
theorem ipL_okU (l : List In) : (ipL l).all (okA U8) = true := by
  unfold ipL
  cases ipG l with
  | true => exact putN_ok l _
  | false => rfl
theorem iti_told : ToldW Try.prog 11 (ok1 U8 fun l _ => l.all (okA U8)) (ans1 U8 tiA) := by
  refine told1' fun b c hl hc hok => ⟨toldW2, 100, 20, fun _ => 0, fun _ => slTi, exTi b c, toldW2_ok, fun β hβ => ?_⟩
  show lawE _ _ _ _ _ _ _ _ _ _ _ (outK fun r m => ∃ m2, objsR m m2 ∧ ansE (tiA b 0) r (mkS m2))
  rw [vc_ti]
  have hb0 := bt_lt hok 0
  have hb1 := bt_lt hok 1
  refine br_of (fun q => ?_) (fun q => ?_)
  · have h2 : b.length < 2 := by simp at q; omega
    refine ti_leafN (l := []) (tk_short h2) fun h => ?_
    have := congrArg List.length h.2.2.2.1
    have h3 := (putN_len [] ([] : List In).length).1
    omega
  · have h2 : 2 ≤ b.length := by simp at q; omega
    have b2 : Nat.ble 2 b.length = true := Nat.ble_eq_true_of_le h2
    have c0 : Nat.blt 0 b.length = true := by simp; omega
    have c1 : Nat.blt 1 b.length = true := by simp; omega
    have hu := bt_i64 hok
    have w2 : IntKind.wrap .i64 (((bt b 0 : Nat) : Int) * 256) = ((bt b 0 * 256 : Nat) : Int) := by
      rw [show ((bt b 0 : Nat) : Int) * 256 = ((bt b 0 * 256 : Nat) : Int) by omega]; exact w64 (by omega) (by omega)
    have w3 : IntKind.wrap .i64 (((bt b 0 * 256 : Nat) : Int) + ((bt b 1 : Nat) : Int)) = ((bt b 0 * 256 + bt b 1 : Nat) : Int) := by
      rw [show ((bt b 0 * 256 : Nat) : Int) + ((bt b 1 : Nat) : Int) = ((bt b 0 * 256 + bt b 1 : Nat) : Int) by omega]; exact w64 (by omega) (by omega)
    have hcb : (bif Nat.beq b.length 0 then c else 0) ≤ 1 := by cases Nat.beq b.length 0 <;> simp <;> omega
    simp only [b2, c0, c1, Bool.true_and, need_t, hu, w2, w3]
    refine ⟨LoopJ.seen ?_ (ti_loopR (n0 := bt b 0 * 256 + bt b 1) hβ hok h2 hcb rfl), fun l k m cb hg => ?_, fun he => ti_leafN (tk_good hok (n0 := bt b 0 * 256 + bt b 1) rfl) fun h => he ⟨_, h⟩⟩
    · refine Seen.nilSlot 6 7 (encL ([] : List In)) rfl rfl rfl fun t v h => ?_
      rcases mkFT_get _ _ t v h with h1 | h1
      · simp at h1
        rcases h1 with ⟨rfl, rfl⟩ | ⟨rfl, rfl⟩ | ⟨rfl, rfl⟩ | ⟨rfl, rfl⟩ | ⟨rfl, rfl⟩
        · exact .inr rfl
        · exact .inr rfl
        · exact .inr rfl
        · exact .inl ⟨rfl, rfl⟩
        · exact .inr rfl
      · cases h1
    · have hf := okA_fit hg.1.1
      have hll := hg.1.2.1
      have o1 : ok1 In (fun l x => List.all l (okA In)) [Ta.cell (Td.fr 7 l.length 1 (encL l))] = true := ok1_in hf (by omega) (by omega)
      have B := bytesU_beq (ipL_okU l) hok
      simp only [encZ, Nat.zero_add, bleS, Bool.true_and, need_t, o1, lIn, allB_all, bytes_all, B]
      refine br_of (fun q => ti_leafN hg.1 fun h => ?_) (fun q => br_of (fun q2 => ti_leafN hg.1 fun h => ?_) (fun q2 => ti_leafY hg.1 ?_ rfl))
      · have e1 : ipL l = b := by unfold ipL; rw [ipG_may h.1 h.2.1]; exact h.2.2.2.1
        rw [Bool.not_eq_true', e1] at q
        have := (sameU_eq b b).2 rfl
        rw [q] at this; cases this
      · have hm := hg.2 h
        have hq := of_decide_eq_true q2
        rw [Int.ofNat_eq_natCast] at hq
        omega
      · rw [Bool.not_eq_false', sameU_eq] at q
        cases hG : ipG l with
        | false =>
          have e1 : ipL l = [] := by unfold ipL; rw [hG]; rfl
          rw [e1] at q
          rw [← q] at h2
          simp at h2
        | true =>
          have e1 : ipL l = putN l l.length := by unfold ipL; rw [hG]; rfl
          rw [e1] at q
          exact hg.1.2.2.1 hG q
noncomputable def toldW3 : Told := toldW2.tree 11 (ok1 U8 fun l _ => l.all (okA U8)) (ans1 U8 tiA)
theorem toldW3_ok : ToldS Try.prog toldW3 := Told.tree_ok toldW2_ok iti_told
end Go.Proofs.Ytncndnlbiijdoaa.Ev

/-! What has to hold: printed by the evaluator. -/
set_option linter.unusedVariables false
set_option maxRecDepth 1000000
namespace Go.Proofs.Ytncndnlbiijdoaa.Ev
open Go Go.Proofs
def slIA : List Nat := [0, 1, 5]
def lvIA : AX → List Nat := fun x => match x with
  | .ret => [4]
  | _ => slIA
def FIA (l : List In) (b : List U8) (c d : Nat) (i : Int) : AFr := mkF 64 [(0, .slice (some ⟨0, 0, some 0⟩) l.length c), (1, .slice (some ⟨1, 0, some 0⟩) b.length d), (5, .int .i64 i)]
def SIA (l : List In) (b : List U8) : ASt := mkS [some (rowO .still l), some (rowO .still b)]
def exIA (l : List In) (b : List U8) (c d : Nat) : Nat → Kt → Prop := fun x K => K (.exit x) (FIA l b c d l.length) (SIA l b)
def shpIA (l : List In) (b : List U8) (c d : Nat) (i' : Int) : AFr × ASt := (FIA l b c d i', SIA l b)
theorem vc_ial_r (l : List In) (b : List U8) (c d : Nat) (i : Int) (β : Bs) (N : Kt) (ex : Nat → Kt → Prop) : roundJ Try.prog toldW3 100 20 β (fun _ => 0) (cnOf 2 fun _ => slIA) ex 3 0 2 lvIA (FIA l b c d i) (SIA l b) N =
(  br (decide (i < Int.ofNat (List.length l)))
  (need (decide ((0 : Int) ≤ i))
  (need (Nat.blt (Int.toNat i) (List.length l))
  (need (Nat.ble 0 (0 + Int.toNat i) && Nat.blt (0 + Int.toNat i) (List.length l))
  (need (decide ((0 : Int) ≤ i))
  (need (Nat.blt (Int.toNat i) (List.length l))
  (need (Nat.ble 0 (0 + Int.toNat i) && Nat.blt (0 + Int.toNat i) (List.length l))
  (br
  (!mayB
  (In.mk (In.op (List.getD l (0 + Int.toNat i) Enc.dflt))
  (In.kd (List.getD l (0 + Int.toNat i) Enc.dflt))
  (In.a (List.getD l (0 + Int.toNat i) Enc.dflt))
  (In.n (List.getD l (0 + Int.toNat i) Enc.dflt))
  (Vl.mk (Vl.k (In.v (List.getD l (0 + Int.toNat i) Enc.dflt)))
  (Vl.i (In.v (List.getD l (0 + Int.toNat i) Enc.dflt)))
  (Vl.f (In.v (List.getD l (0 + Int.toNat i) Enc.dflt))))) ==
  mayB
  (In.mk (In.op (List.getD l (0 + Int.toNat i) Enc.dflt))
  (In.kd (List.getD l (0 + Int.toNat i) Enc.dflt))
  (In.a (List.getD l (0 + Int.toNat i) Enc.dflt))
  (In.n (List.getD l (0 + Int.toNat i) Enc.dflt))
  (Vl.mk (Vl.k (In.v (List.getD l (0 + Int.toNat i) Enc.dflt)))
  (Vl.i (In.v (List.getD l (0 + Int.toNat i) Enc.dflt)))
  (Vl.f (In.v (List.getD l (0 + Int.toNat i) Enc.dflt))))))
  (N AX.ret (mkF 64 [(4, Value.bool false)])
  (mkS
  [some (AObj.row Rk.still 7 0 (List.length l) (encL l)),
  some (AObj.row Rk.still 1 0 (List.length b) (encL b))]))
  (onP N AX.normal (shpIA l b c d (IntKind.wrap IntKind.i64 (i + (1 : Int))))))))))))
  (onP N (AX.exit 0) (shpIA l b c d i))) := by kernel_rfl
theorem vc_ial (l : List In) (b : List U8) (c d : Nat) (β : Bs) : lawE Try.prog toldW3 100 20 β (fun _ => 0) (cnOf 2 fun _ => slIA) (exIA l b c d) 3 [.slice (some ⟨0, 0, some 0⟩) l.length c, .slice (some ⟨1, 0, some 0⟩) b.length d] (mkS [some (rowO .still l), some (rowO .still b)]) trueE =
(  br (decide (Int.ofNat (List.length l) > (20 : Int))) True
  (br (decide (Int.ofNat (List.length b) > (100 : Int))) True
  (LoopJ Try.prog β (exIA l b c d) 0 (loopOf Try.prog 3 0) (FIA l b c d (0 : Int))
  (SIA l b) ∧
  need (true && Nat.ble (0 + List.length b) (List.length b))
  (need
  (ok1 U8 (fun l x => List.all l (okA U8))
  [Ta.cell (Td.fr 1 (List.length b) d fun i => encL b (0 + i))])
  (need (true && Nat.ble (0 + List.length b) (List.length b))
  (need
  (ok1 U8 (fun l x => List.all l (okA U8))
  [Ta.cell (Td.fr 1 (List.length b) d fun i => encL b (0 + i))])
  (need (true && Nat.ble (0 + List.length l) (List.length l))
  (need
  (ok1 In (fun l x => List.all l (okA In))
  [Ta.cell (Td.fr 7 (List.length l) c fun i => encL l (0 + i))])
  (need
  (true &&
  Nat.ble
  (0 +
  List.length
  (ipL (listT In (Td.fr 7 (List.length l) c fun i => encL l (0 + i)))))
  (List.length
  (ipL (listT In (Td.fr 7 (List.length l) c fun i => encL l (0 + i))))))
  (need
  (allB
  (List.length
  (ipL (listT In (Td.fr 7 (List.length l) c fun i => encL l (0 + i)))))
  fun j =>
  encL (ipL (listT In (Td.fr 7 (List.length l) c fun i => encL l (0 + i))))
  (0 + j))
  (need (true && Nat.ble (0 + List.length l) (List.length l))
  (need
  (ok1 In (fun l x => List.all l (okA In))
  [Ta.cell (Td.fr 7 (List.length l) c fun i => encL l (0 + i))])
  (need
  (true &&
  Nat.ble
  (0 +
  List.length
  (ipL
  (listT In (Td.fr 7 (List.length l) c fun i => encL l (0 + i)))))
  (List.length
  (ipL (listT In (Td.fr 7 (List.length l) c fun i => encL l (0 + i))))))
  (need
  (allB
  (List.length
  (ipL (listT In (Td.fr 7 (List.length l) c fun i => encL l (0 + i)))))
  fun j =>
  encL
  (ipL (listT In (Td.fr 7 (List.length l) c fun i => encL l (0 + i))))
  (0 + j))
  (need
  (List.map
  (fun j =>
  byteF
  (encL
  (ipL
  (listT In
  (Td.fr 7 (List.length l) c fun i => encL l (0 + i))))
  (0 + j) 0))
  (List.range
  (List.length
  (ipL
  (listT In
  (Td.fr 7 (List.length l) c fun i => encL l (0 + i)))))) ==
  List.map
  (fun j =>
  byteF
  (encL
  (ipL
  (listT In
  (Td.fr 7 (List.length l) c fun i => encL l (0 + i))))
  (0 + j) 0))
  (List.range
  (List.length
  (ipL
  (listT In
  (Td.fr 7 (List.length l) c fun i => encL l (0 + i)))))))
  (need
  (tiO (listT U8 (Td.fr 1 (List.length b) d fun i => encL b (0 + i))) ==
  tiO (listT U8 (Td.fr 1 (List.length b) d fun i => encL b (0 + i))))
  (need
  (true &&
  Nat.ble
  (0 +
  List.length
  (tiL
  (listT U8
  (Td.fr 1 (List.length b) d fun i => encL b (0 + i)))))
  (List.length
  (tiL
  (listT U8
  (Td.fr 1 (List.length b) d fun i => encL b (0 + i))))))
  (need
  (true &&
  Nat.ble
  (0 +
  List.length
  (tiL
  (listT U8
  (Td.fr 1 (List.length b) d fun i => encL b (0 + i)))))
  (List.length
  (tiL
  (listT U8
  (Td.fr 1 (List.length b) d fun i => encL b (0 + i))))))
  (need
  (ok2 In In (fun x x_1 x_2 x_3 => true)
  [Ta.cell
  (Td.fr 7
  (List.length
  (tiL
  (listT U8
  (Td.fr 1 (List.length b) d fun i =>
  encL b (0 + i)))))
  1 fun i =>
  encL
  (tiL
  (listT U8
  (Td.fr 1 (List.length b) d fun i =>
  encL b (0 + i))))
  (0 + i)),
  Ta.cell
  (Td.fr 7
  (List.length
  (tiL
  (listT U8
  (Td.fr 1 (List.length b) d fun i =>
  encL b (0 + i)))))
  1 fun i =>
  encL
  (tiL
  (listT U8
  (Td.fr 1 (List.length b) d fun i =>
  encL b (0 + i))))
  (0 + i))])
  (need
  (sameIs
  (listT In
  (Td.fr 7
  (List.length
  (tiL
  (listT U8
  (Td.fr 1 (List.length b) d fun i =>
  encL b (0 + i)))))
  1 fun i =>
  encL
  (tiL
  (listT U8
  (Td.fr 1 (List.length b) d fun i =>
  encL b (0 + i))))
  (0 + i)))
  (listT In
  (Td.fr 7
  (List.length
  (tiL
  (listT U8
  (Td.fr 1 (List.length b) d fun i =>
  encL b (0 + i)))))
  1 fun i =>
  encL
  (tiL
  (listT U8
  (Td.fr 1 (List.length b) d fun i =>
  encL b (0 + i))))
  (0 + i))))
  True)))))))))))))))))))) := by kernel_rfl
end Go.Proofs.Ytncndnlbiijdoaa.Ev

/-! InstAll: what has to hold holds. -/
set_option linter.unusedVariables false
set_option linter.unusedSimpArgs false
set_option maxRecDepth 100000
namespace Go.Proofs.Ytncndnlbiijdoaa.Ev
open Go Go.Proofs Go.RowKit

theorem tiL_good (b : List U8) : (tiL b).all (okA In) = true ∧ (tiL b).length ≤ 1000000 := by
  unfold tiL
  split
  · rename_i h
    obtain ⟨p1, p2, p3, p4, p5⟩ := Classical.choose_spec h
    exact ⟨p3, by omega⟩
  · exact ⟨rfl, by simp⟩
theorem ial_loop {l : List In} {b : List U8} {c d : Nat} {β : Bs} (hβ : β.X.length = 2) (hl : l.length ≤ 20) :
    LoopJ Try.prog β (exIA l b c d) 0 (loopOf Try.prog 3 0) (FIA l b c d ((0 : Nat) : Int)) (SIA l b) := by
  refine loop_rule (fun k : Nat => k ≤ l.length) (fun k => FIA l b c d (k : Int)) (fun k => SIA l b) (fun k => l.length - k) (fun k hk K hK => ?_) 0 (Nat.zero_le _)
  have hK : K (.exit 0) (FIA l b c d l.length) (SIA l b) := hK
  show J Try.prog β (loopOf Try.prog 3 0) (FIA l b c d (k : Int)) (SIA l b) (Nn β (fun k : Nat => k ≤ l.length) (fun k => l.length - k) (fun k => FIA l b c d (k : Int)) (fun k => SIA l b) k K)
  refine roundJ_ok (E := 2) (lvs := fun _ => slIA) (un := fun _ => 0) (fuel := 100) (n := 20) (ex := fun _ _ => False) follows toldW3_ok hβ (lv := lvIA) ?_
  rw [vc_ial_r]
  generalize hN : Nn β (fun k : Nat => k ≤ l.length) (fun k => l.length - k) (fun k => FIA l b c d (k : Int)) (fun k => SIA l b) k K = N
  by_cases hkn : k < l.length
  · have c1 : decide ((k : Int) < Int.ofNat l.length) = true := by simpa using hkn
    have i1 : decide ((0 : Int) ≤ (k : Int)) = true := by simp
    have i2 : Int.toNat (k : Int) = k := Int.toNat_natCast k
    have i3 : Nat.blt k l.length = true := by simpa using hkn
    have i4 : Nat.ble 0 k = true := by simp
    have hw : IntKind.wrap .i64 ((k : Int) + 1) = ((k + 1 : Nat) : Int) := w64 (by omega) (by omega)
    simp only [c1, i1, i2, i3, i4, Nat.zero_add, Bool.true_and, need_t, br_t, hw, beq_self_eq_true, Bool.not_true, br_f]
    subst hN
    exact Nn.next (I := fun k : Nat => k ≤ l.length) (m := fun k => l.length - k) (F := fun k => FIA l b c d (k : Int)) (S := fun k => SIA l b) (p := k) (k + 1) hkn (by omega) (Seen.refl _ _ _)
  · have c1 : decide ((k : Int) < Int.ofNat l.length) = false := by simpa using hkn
    have hkn' : k = l.length := by omega
    simp only [c1, br_f]
    subst hkn' hN
    exact Nn.exit (Seen.refl _ _ _) hK
theorem iall_law {l : List In} {b : List U8} {c d : Nat} (hc : c ≤ 1) (hd : d ≤ 1) (hl : l.all (okA In) = true) (hb : b.all (okA U8) = true) (w : World) (args' : Array Value) (ha : PW (TR w (There w)) [tdL l c, tdL b d] args'.toList) :
    Calls Try.prog 3 args' w fun e w' => e = .returned (.bool true) ∧ Below w.heap.size w w' := by
  refine law_top (C := toldW3) (fuel := 100) (n := 20) (un := fun _ => 0) (lvs := fun _ => slIA) (ex := exIA l b c d) follows toldW3_ok (fun β hβ => ?_) w args' ha
  show lawE _ _ _ _ _ _ (cnOf 2 fun _ => slIA) _ _ [.slice (some ⟨0, 0, some 0⟩) l.length c, .slice (some ⟨1, 0, some 0⟩) b.length d] (mkS [some (rowO .still l), some (rowO .still b)]) trueE
  rw [vc_ial]
  refine br_of (fun _ => trivial) (fun q1 => br_of (fun _ => trivial) (fun q2 => ?_))
  have hl20 : l.length ≤ 20 := by simp at q1; omega
  have hb100 : b.length ≤ 100 := by simp at q2; omega
  refine ⟨ial_loop hβ hl20, ?_⟩
  have o1 := ok1U hb (by omega) hd
  have o2 := ok1_in hl (by omega) hc
  obtain ⟨t1, t2⟩ := tiL_good b
  have o3 := ok2_in (c := 1) (d := 1) t1 t1 t2 t2 (by omega) (by omega)
  have hs : sameIs (tiL b) (tiL b) = true := (sameP_iff _ _).2 (sameP_refl _)
  simp only [encZ, Nat.zero_add, bleS, Bool.true_and, need_t, o1, o2, o3, lIn, lU, allB_all, bytes_all, beq_self_eq_true, hs]
end Go.Proofs.Ytncndnlbiijdoaa.Ev
