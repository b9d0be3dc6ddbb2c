/-
  What has to hold: printed by the evaluator.
-/
import Derived.Test.YtcdbodpmcnebiaaCnT
set_option linter.unusedVariables false
set_option maxRecDepth 1000000
namespace Go.Proofs.Ytcdbodpmcnebiaa.Ev
open Go Go.Proofs
theorem vc_csC0 (pv : Int) (inn : Bool) (c : Nat) (β : Bs) (K : AE → List (Option AObj) → Prop) : lawE Try.prog toldN 100 20 β (fun _ => 0) (cnOf 1 fun _ => []) (fun _ _ => False) 10 [.int .i64 9, .slice (some ⟨0, 0, some 0⟩) 0 c, .bool inn, .int .i64 pv] (mkS [some (rowO .look ([] : List Vl))]) (outK K) =
(  need (okC 3 [Ta.cell (Td.fr 3 0 c fun i => encL ([] : List Vl) (0 + i))])
  (K (AE.returned (Value.slice (some (Addr.mk 5 0 (some 0))) 0 c))
  [some (AObj.row Rk.look 3 0 0 (encL ([] : List Vl))),
  some (AObj.cells [Value.slice (some (Addr.mk 5 0 (some 0))) 0 c] true 0),
  some
  (AObj.cells [Value.int IntKind.i64 (1 : Int), Value.int IntKind.i64 (2 : Int), Value.int IntKind.i64 (1 : Int)]
  true 1),
  some (AObj.cells [] true 0), none,
  some (AObj.row Rk.mine 3 0 0 fun i => encL ([] : List Vl) (0 + i))])) := by kernel_rfl
theorem vc_csC1 (a : Vl) (pv : Int) (inn : Bool) (c : Nat) (β : Bs) (K : AE → List (Option AObj) → Prop) : lawE Try.prog toldN 100 20 β (fun _ => 0) (cnOf 1 fun _ => []) (fun _ _ => False) 10 [.int .i64 9, .slice (some ⟨0, 0, some 0⟩) 1 c, .bool inn, .int .i64 pv] (mkS [some (rowO .look ([a] : List Vl))]) (outK K) =
(  need (okC 3 [Ta.cell (Td.fr 3 1 c fun i => encL [a] (0 + i))])
  (K (AE.returned (Value.slice (some (Addr.mk 5 0 (some 0))) 1 c))
  [some (AObj.row Rk.look 3 0 1 (encL [a])),
  some (AObj.cells [Value.slice (some (Addr.mk 5 0 (some 0))) 1 c] true 0),
  some
  (AObj.cells [Value.int IntKind.i64 (1 : Int), Value.int IntKind.i64 (2 : Int), Value.int IntKind.i64 (1 : Int)]
  true 1),
  some (AObj.cells [] true 0), none,
  some (AObj.row Rk.mine 3 0 1 fun i => encL [a] (0 + i))])) := by kernel_rfl
theorem vc_csC2 (a b : Vl) (pv : Int) (inn : Bool) (c : Nat) (β : Bs) (K : AE → List (Option AObj) → Prop) : lawE Try.prog toldN 100 20 β (fun _ => 0) (cnOf 1 fun _ => []) (fun _ _ => False) 10 [.int .i64 9, .slice (some ⟨0, 0, some 0⟩) 2 c, .bool inn, .int .i64 pv] (mkS [some (rowO .look ([a, b] : List Vl))]) (outK K) =
(  need (okC 3 [Ta.cell (Td.fr 3 2 c fun i => encL [a, b] (0 + i))])
  (K (AE.returned (Value.slice (some (Addr.mk 5 0 (some 0))) 2 c))
  [some (AObj.row Rk.look 3 0 2 (encL [a, b])),
  some (AObj.cells [Value.slice (some (Addr.mk 5 0 (some 0))) 2 c] true 0),
  some
  (AObj.cells [Value.int IntKind.i64 (1 : Int), Value.int IntKind.i64 (2 : Int), Value.int IntKind.i64 (1 : Int)]
  true 1),
  some (AObj.cells [] true 0), none,
  some (AObj.row Rk.mine 3 0 2 fun i => encL [a, b] (0 + i))])) := by kernel_rfl
theorem vc_csC4 (a b d e : Vl) (pv : Int) (inn : Bool) (c : Nat) (β : Bs) (K : AE → List (Option AObj) → Prop) : lawE Try.prog toldN 100 20 β (fun _ => 0) (cnOf 1 fun _ => []) (fun _ _ => False) 10 [.int .i64 9, .slice (some ⟨0, 0, some 0⟩) 4 c, .bool inn, .int .i64 pv] (mkS [some (rowO .look ([a, b, d, e] : List Vl))]) (outK K) =
(  need (okC 3 [Ta.cell (Td.fr 3 4 c fun i => encL [a, b, d, e] (0 + i))])
  (K (AE.returned (Value.slice (some (Addr.mk 5 0 (some 0))) 4 c))
  [some (AObj.row Rk.look 3 0 4 (encL [a, b, d, e])),
  some (AObj.cells [Value.slice (some (Addr.mk 5 0 (some 0))) 4 c] true 0),
  some
  (AObj.cells [Value.int IntKind.i64 (1 : Int), Value.int IntKind.i64 (2 : Int), Value.int IntKind.i64 (1 : Int)]
  true 1),
  some (AObj.cells [] true 0), none,
  some (AObj.row Rk.mine 3 0 4 fun i => encL [a, b, d, e] (0 + i))])) := by kernel_rfl
theorem vc_csC5 (a b d e f : Vl) (pv : Int) (inn : Bool) (c : Nat) (β : Bs) (K : AE → List (Option AObj) → Prop) : lawE Try.prog toldN 100 20 β (fun _ => 0) (cnOf 1 fun _ => []) (fun _ _ => False) 10 [.int .i64 9, .slice (some ⟨0, 0, some 0⟩) 5 c, .bool inn, .int .i64 pv] (mkS [some (rowO .look ([a, b, d, e, f] : List Vl))]) (outK K) =
(  need (okC 3 [Ta.cell (Td.fr 3 5 c fun i => encL [a, b, d, e, f] (0 + i))])
  (K (AE.returned (Value.slice (some (Addr.mk 5 0 (some 0))) 5 c))
  [some (AObj.row Rk.look 3 0 5 (encL [a, b, d, e, f])),
  some (AObj.cells [Value.slice (some (Addr.mk 5 0 (some 0))) 5 c] true 0),
  some
  (AObj.cells [Value.int IntKind.i64 (1 : Int), Value.int IntKind.i64 (2 : Int), Value.int IntKind.i64 (1 : Int)]
  true 1),
  some (AObj.cells [] true 0), none,
  some (AObj.row Rk.mine 3 0 5 fun i => encL [a, b, d, e, f] (0 + i))])) := by kernel_rfl
theorem vc_csC6 (a b d e f g : Vl) (pv : Int) (inn : Bool) (c : Nat) (β : Bs) (K : AE → List (Option AObj) → Prop) : lawE Try.prog toldN 100 20 β (fun _ => 0) (cnOf 1 fun _ => []) (fun _ _ => False) 10 [.int .i64 9, .slice (some ⟨0, 0, some 0⟩) 6 c, .bool inn, .int .i64 pv] (mkS [some (rowO .look ([a, b, d, e, f, g] : List Vl))]) (outK K) =
(  need (okC 3 [Ta.cell (Td.fr 3 6 c fun i => encL [a, b, d, e, f, g] (0 + i))])
  (K (AE.returned (Value.slice (some (Addr.mk 5 0 (some 0))) 6 c))
  [some (AObj.row Rk.look 3 0 6 (encL [a, b, d, e, f, g])),
  some (AObj.cells [Value.slice (some (Addr.mk 5 0 (some 0))) 6 c] true 0),
  some
  (AObj.cells [Value.int IntKind.i64 (1 : Int), Value.int IntKind.i64 (2 : Int), Value.int IntKind.i64 (1 : Int)]
  true 1),
  some (AObj.cells [] true 0), none,
  some (AObj.row Rk.mine 3 0 6 fun i => encL [a, b, d, e, f, g] (0 + i))])) := by kernel_rfl
end Go.Proofs.Ytcdbodpmcnebiaa.Ev
