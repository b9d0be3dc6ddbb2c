/-
  What has to hold: printed by the evaluator.
-/
import Derived.Test.YtaceobjppcmhjaaTimT
set_option linter.unusedVariables false
set_option maxRecDepth 1000000
namespace Go.Proofs.Ytaceobjppcmhjaa.Ev
open Go Go.Proofs
theorem vc_tsC0 (pt now : Int) (inn : Bool) (c : Nat) (β : Bs) (K : AE → List (Option AObj) → Prop) : lawE Try.prog toldT 100 20 β (fun _ => 0) (cnOf 1 fun _ => []) (fun _ _ => False) 10 [.int .i64 6, .slice (some ⟨0, 0, some 0⟩) 0 c, .bool inn, .int .i64 pt, .int .i64 now] (mkS [some (rowO .look ([] : List Vl))]) (outK K) =
(  need (okC 3 [Ta.cell (Td.fr 3 0 c fun i => encL ([] : List Vl) (0 + i))])
  (K (AE.returned (Value.slice (some (Addr.mk 6 0 (some 0))) 0 c))
  [some (AObj.row Rk.look 3 0 0 (encL ([] : List Vl))),
  some (AObj.cells [Value.slice (some (Addr.mk 6 0 (some 0))) 0 c] true 0),
  some
  (AObj.cells
  [Value.bool false, Value.bool false, Value.int IntKind.i64 (0 : Int), Value.int IntKind.i64 (0 : Int)] true
  0),
  some
  (AObj.cells
  [Value.int IntKind.i64 (1 : Int), Value.int IntKind.i64 (4 : Int), Value.int IntKind.i64 (1 : Int),
  Value.int IntKind.i64 (4 : Int)]
  true 1),
  some (AObj.cells [] true 0), none,
  some (AObj.row Rk.mine 3 0 0 fun i => encL ([] : List Vl) (0 + i))])) := by kernel_rfl
theorem vc_tsC1 (pt now : Int) (a : Vl) (inn : Bool) (c : Nat) (β : Bs) (K : AE → List (Option AObj) → Prop) : lawE Try.prog toldT 100 20 β (fun _ => 0) (cnOf 1 fun _ => []) (fun _ _ => False) 10 [.int .i64 6, .slice (some ⟨0, 0, some 0⟩) 1 c, .bool inn, .int .i64 pt, .int .i64 now] (mkS [some (rowO .look ([a] : List Vl))]) (outK K) =
(  need (okC 3 [Ta.cell (Td.fr 3 1 c fun i => encL [a] (0 + i))])
  (K (AE.returned (Value.slice (some (Addr.mk 6 0 (some 0))) 1 c))
  [some (AObj.row Rk.look 3 0 1 (encL [a])),
  some (AObj.cells [Value.slice (some (Addr.mk 6 0 (some 0))) 1 c] true 0),
  some
  (AObj.cells
  [Value.bool false, Value.bool false, Value.int IntKind.i64 (0 : Int), Value.int IntKind.i64 (0 : Int)] true
  0),
  some
  (AObj.cells
  [Value.int IntKind.i64 (1 : Int), Value.int IntKind.i64 (4 : Int), Value.int IntKind.i64 (1 : Int),
  Value.int IntKind.i64 (4 : Int)]
  true 1),
  some (AObj.cells [] true 0), none,
  some (AObj.row Rk.mine 3 0 1 fun i => encL [a] (0 + i))])) := by kernel_rfl
theorem vc_tsC2 (pt now : Int) (a b : Vl) (inn : Bool) (c : Nat) (β : Bs) (K : AE → List (Option AObj) → Prop) : lawE Try.prog toldT 100 20 β (fun _ => 0) (cnOf 1 fun _ => []) (fun _ _ => False) 10 [.int .i64 6, .slice (some ⟨0, 0, some 0⟩) 2 c, .bool inn, .int .i64 pt, .int .i64 now] (mkS [some (rowO .look ([a, b] : List Vl))]) (outK K) =
(  need (okC 3 [Ta.cell (Td.fr 3 2 c fun i => encL [a, b] (0 + i))])
  (K (AE.returned (Value.slice (some (Addr.mk 6 0 (some 0))) 2 c))
  [some (AObj.row Rk.look 3 0 2 (encL [a, b])),
  some (AObj.cells [Value.slice (some (Addr.mk 6 0 (some 0))) 2 c] true 0),
  some
  (AObj.cells
  [Value.bool false, Value.bool false, Value.int IntKind.i64 (0 : Int), Value.int IntKind.i64 (0 : Int)] true
  0),
  some
  (AObj.cells
  [Value.int IntKind.i64 (1 : Int), Value.int IntKind.i64 (4 : Int), Value.int IntKind.i64 (1 : Int),
  Value.int IntKind.i64 (4 : Int)]
  true 1),
  some (AObj.cells [] true 0), none,
  some (AObj.row Rk.mine 3 0 2 fun i => encL [a, b] (0 + i))])) := by kernel_rfl
theorem vc_tsC3 (pt now : Int) (a b d : Vl) (inn : Bool) (c : Nat) (β : Bs) (K : AE → List (Option AObj) → Prop) : lawE Try.prog toldT 100 20 β (fun _ => 0) (cnOf 1 fun _ => []) (fun _ _ => False) 10 [.int .i64 6, .slice (some ⟨0, 0, some 0⟩) 3 c, .bool inn, .int .i64 pt, .int .i64 now] (mkS [some (rowO .look ([a, b, d] : List Vl))]) (outK K) =
(  need (okC 3 [Ta.cell (Td.fr 3 3 c fun i => encL [a, b, d] (0 + i))])
  (K (AE.returned (Value.slice (some (Addr.mk 6 0 (some 0))) 3 c))
  [some (AObj.row Rk.look 3 0 3 (encL [a, b, d])),
  some (AObj.cells [Value.slice (some (Addr.mk 6 0 (some 0))) 3 c] true 0),
  some
  (AObj.cells
  [Value.bool false, Value.bool false, Value.int IntKind.i64 (0 : Int), Value.int IntKind.i64 (0 : Int)] true
  0),
  some
  (AObj.cells
  [Value.int IntKind.i64 (1 : Int), Value.int IntKind.i64 (4 : Int), Value.int IntKind.i64 (1 : Int),
  Value.int IntKind.i64 (4 : Int)]
  true 1),
  some (AObj.cells [] true 0), none,
  some (AObj.row Rk.mine 3 0 3 fun i => encL [a, b, d] (0 + i))])) := by kernel_rfl
theorem vc_tsC5 (pt now : Int) (a b d e f : Vl) (inn : Bool) (c : Nat) (β : Bs) (K : AE → List (Option AObj) → Prop) : lawE Try.prog toldT 100 20 β (fun _ => 0) (cnOf 1 fun _ => []) (fun _ _ => False) 10 [.int .i64 6, .slice (some ⟨0, 0, some 0⟩) 5 c, .bool inn, .int .i64 pt, .int .i64 now] (mkS [some (rowO .look ([a, b, d, e, f] : List Vl))]) (outK K) =
(  need (okC 3 [Ta.cell (Td.fr 3 5 c fun i => encL [a, b, d, e, f] (0 + i))])
  (K (AE.returned (Value.slice (some (Addr.mk 6 0 (some 0))) 5 c))
  [some (AObj.row Rk.look 3 0 5 (encL [a, b, d, e, f])),
  some (AObj.cells [Value.slice (some (Addr.mk 6 0 (some 0))) 5 c] true 0),
  some
  (AObj.cells
  [Value.bool false, Value.bool false, Value.int IntKind.i64 (0 : Int), Value.int IntKind.i64 (0 : Int)] true
  0),
  some
  (AObj.cells
  [Value.int IntKind.i64 (1 : Int), Value.int IntKind.i64 (4 : Int), Value.int IntKind.i64 (1 : Int),
  Value.int IntKind.i64 (4 : Int)]
  true 1),
  some (AObj.cells [] true 0), none,
  some (AObj.row Rk.mine 3 0 5 fun i => encL [a, b, d, e, f] (0 + i))])) := by kernel_rfl
theorem vc_tsC6 (pt now : Int) (a b d e f g : Vl) (inn : Bool) (c : Nat) (β : Bs) (K : AE → List (Option AObj) → Prop) : lawE Try.prog toldT 100 20 β (fun _ => 0) (cnOf 1 fun _ => []) (fun _ _ => False) 10 [.int .i64 6, .slice (some ⟨0, 0, some 0⟩) 6 c, .bool inn, .int .i64 pt, .int .i64 now] (mkS [some (rowO .look ([a, b, d, e, f, g] : List Vl))]) (outK K) =
(  need (okC 3 [Ta.cell (Td.fr 3 6 c fun i => encL [a, b, d, e, f, g] (0 + i))])
  (K (AE.returned (Value.slice (some (Addr.mk 6 0 (some 0))) 6 c))
  [some (AObj.row Rk.look 3 0 6 (encL [a, b, d, e, f, g])),
  some (AObj.cells [Value.slice (some (Addr.mk 6 0 (some 0))) 6 c] true 0),
  some
  (AObj.cells
  [Value.bool false, Value.bool false, Value.int IntKind.i64 (0 : Int), Value.int IntKind.i64 (0 : Int)] true
  0),
  some
  (AObj.cells
  [Value.int IntKind.i64 (1 : Int), Value.int IntKind.i64 (4 : Int), Value.int IntKind.i64 (1 : Int),
  Value.int IntKind.i64 (4 : Int)]
  true 1),
  some (AObj.cells [] true 0), none,
  some (AObj.row Rk.mine 3 0 6 fun i => encL [a, b, d, e, f, g] (0 + i))])) := by kernel_rfl
end Go.Proofs.Ytaceobjppcmhjaa.Ev
