/-
  What has to hold: printed by the evaluator.
-/
import Derived.Test.YtaceobjppcmhjaaTimT
set_option linter.unusedVariables false
set_option maxRecDepth 1000000
namespace Go.Proofs.Ytaceobjppcmhjaa.Ev
open Go Go.Proofs
def l4 (q et on a : Int) : List Vl := [⟨1, q, 0⟩, ⟨4, et, 0⟩, ⟨1, on, 0⟩, ⟨4, a, 0⟩]
theorem vc_tsA (kind q et on a pt now : Int) (inn : Bool) (c : Nat) (β : Bs) (K : AE → List (Option AObj) → Prop) : lawE Try.prog toldT 100 20 β (fun _ => 0) (cnOf 1 fun _ => []) (fun _ _ => False) 10 [.int .i64 kind, .slice (some ⟨0, 0, some 0⟩) 4 c, .bool inn, .int .i64 pt, .int .i64 now] (mkS [some (rowO .look (l4 q et on a))]) (outK K) =
(  br (kind == (6 : Int))
  (K (AE.returned (Value.slice (some (Addr.mk 14 0 none)) 4 4))
  [some (AObj.row Rk.look 3 0 4 (encL (l4 q et on a))),
  some (AObj.cells [Value.slice (some (Addr.mk 14 0 none)) 4 4] true 0),
  some
  (AObj.cells
  [Value.bool (q != (0 : Int)), Value.bool (on != (0 : Int)), Value.int IntKind.i64 et, Value.int IntKind.i64 a]
  true 0),
  some
  (AObj.cells
  [Value.int IntKind.i64 (1 : Int), Value.int IntKind.i64 (4 : Int), Value.int IntKind.i64 (1 : Int),
  Value.int IntKind.i64 (4 : Int)]
  true 1),
  some
  (AObj.cells [Value.int IntKind.i64 (1 : Int), Value.int IntKind.i64 q, Value.float FloatKind.f64 0] true
  0),
  some
  (AObj.cells [Value.int IntKind.i64 (1 : Int), Value.int IntKind.i64 q, Value.float FloatKind.f64 0] true
  0),
  some
  (AObj.cells [Value.int IntKind.i64 (4 : Int), Value.int IntKind.i64 et, Value.float FloatKind.f64 0]
  true 0),
  some
  (AObj.cells [Value.int IntKind.i64 (4 : Int), Value.int IntKind.i64 et, Value.float FloatKind.f64 0]
  true 0),
  some
  (AObj.cells [Value.int IntKind.i64 (1 : Int), Value.int IntKind.i64 on, Value.float FloatKind.f64 0]
  true 0),
  some
  (AObj.cells [Value.int IntKind.i64 (1 : Int), Value.int IntKind.i64 on, Value.float FloatKind.f64 0]
  true 0),
  some
  (AObj.cells [Value.int IntKind.i64 (4 : Int), Value.int IntKind.i64 a, Value.float FloatKind.f64 0] true
  0),
  some
  (AObj.cells [Value.int IntKind.i64 (4 : Int), Value.int IntKind.i64 a, Value.float FloatKind.f64 0] true
  0),
  some
  (AObj.cells
  [Value.bool (q != (0 : Int)), Value.bool (on != (0 : Int)), Value.int IntKind.i64 et, Value.int IntKind.i64 a]
  true 0),
  some
  (AObj.cells
  [Value.bool
  (bif inn then
  goesN now (bif on != (0 : Int) then a else now) (if (0 : Int) > pt then (0 : Int) else pt) ==
  if (0 : Int) > pt then (0 : Int) else pt
  else false),
  Value.bool inn,
  Value.int IntKind.i64
  (bif inn then goesN now (bif on != (0 : Int) then a else now) (if (0 : Int) > pt then (0 : Int) else pt)
  else (0 : Int)),
  Value.int IntKind.i64 (bif inn then bif on != (0 : Int) then a else now else (0 : Int))]
  true 0),
  some
  (AObj.cells
  [Value.int IntKind.i64 (1 : Int),
  Value.int IntKind.i64
  (one
  (bif inn then
  goesN now (bif on != (0 : Int) then a else now) (if (0 : Int) > pt then (0 : Int) else pt) ==
  if (0 : Int) > pt then (0 : Int) else pt
  else false)),
  Value.float FloatKind.f64 0, Value.int IntKind.i64 (4 : Int),
  Value.int IntKind.i64
  (bif inn then goesN now (bif on != (0 : Int) then a else now) (if (0 : Int) > pt then (0 : Int) else pt)
  else (0 : Int)),
  Value.float FloatKind.f64 0, Value.int IntKind.i64 (1 : Int), Value.int IntKind.i64 (one inn),
  Value.float FloatKind.f64 0, Value.int IntKind.i64 (4 : Int),
  Value.int IntKind.i64 (bif inn then bif on != (0 : Int) then a else now else (0 : Int)),
  Value.float FloatKind.f64 0]
  true 3),
  some (AObj.cells [] true 0)])
  (br (kind == (7 : Int))
  (K (AE.returned (Value.slice (some (Addr.mk 14 0 none)) 4 4))
  [some (AObj.row Rk.look 3 0 4 (encL (l4 q et on a))),
  some (AObj.cells [Value.slice (some (Addr.mk 14 0 none)) 4 4] true 0),
  some
  (AObj.cells
  [Value.bool (q != (0 : Int)), Value.bool (on != (0 : Int)), Value.int IntKind.i64 et,
  Value.int IntKind.i64 a]
  true 0),
  some
  (AObj.cells
  [Value.int IntKind.i64 (1 : Int), Value.int IntKind.i64 (4 : Int), Value.int IntKind.i64 (1 : Int),
  Value.int IntKind.i64 (4 : Int)]
  true 1),
  some
  (AObj.cells [Value.int IntKind.i64 (1 : Int), Value.int IntKind.i64 q, Value.float FloatKind.f64 0]
  true 0),
  some
  (AObj.cells [Value.int IntKind.i64 (1 : Int), Value.int IntKind.i64 q, Value.float FloatKind.f64 0]
  true 0),
  some
  (AObj.cells [Value.int IntKind.i64 (4 : Int), Value.int IntKind.i64 et, Value.float FloatKind.f64 0]
  true 0),
  some
  (AObj.cells [Value.int IntKind.i64 (4 : Int), Value.int IntKind.i64 et, Value.float FloatKind.f64 0]
  true 0),
  some
  (AObj.cells [Value.int IntKind.i64 (1 : Int), Value.int IntKind.i64 on, Value.float FloatKind.f64 0]
  true 0),
  some
  (AObj.cells [Value.int IntKind.i64 (1 : Int), Value.int IntKind.i64 on, Value.float FloatKind.f64 0]
  true 0),
  some
  (AObj.cells [Value.int IntKind.i64 (4 : Int), Value.int IntKind.i64 a, Value.float FloatKind.f64 0]
  true 0),
  some
  (AObj.cells [Value.int IntKind.i64 (4 : Int), Value.int IntKind.i64 a, Value.float FloatKind.f64 0]
  true 0),
  some
  (AObj.cells
  [Value.bool (q != (0 : Int)), Value.bool (on != (0 : Int)), Value.int IntKind.i64 et,
  Value.int IntKind.i64 a]
  true 0),
  some
  (AObj.cells
  [Value.bool
  (bif inn then true
  else
  bif q != (0 : Int) then
  !goesN now (bif on != (0 : Int) then a else now) (if (0 : Int) > pt then (0 : Int) else pt) ==
  if (0 : Int) > pt then (0 : Int) else pt
  else false),
  Value.bool (bif inn then false else bif q != (0 : Int) then true else on != (0 : Int)),
  Value.int IntKind.i64
  (bif inn then (0 : Int)
  else
  bif q != (0 : Int) then
  goesN now (bif on != (0 : Int) then a else now) (if (0 : Int) > pt then (0 : Int) else pt)
  else et),
  Value.int IntKind.i64
  (bif inn then (0 : Int) else bif q != (0 : Int) then bif on != (0 : Int) then a else now else a)]
  true 0),
  some
  (AObj.cells
  [Value.int IntKind.i64 (1 : Int),
  Value.int IntKind.i64
  (one
  (bif inn then true
  else
  bif q != (0 : Int) then
  !goesN now (bif on != (0 : Int) then a else now) (if (0 : Int) > pt then (0 : Int) else pt) ==
  if (0 : Int) > pt then (0 : Int) else pt
  else false)),
  Value.float FloatKind.f64 0, Value.int IntKind.i64 (4 : Int),
  Value.int IntKind.i64
  (bif inn then (0 : Int)
  else
  bif q != (0 : Int) then
  goesN now (bif on != (0 : Int) then a else now) (if (0 : Int) > pt then (0 : Int) else pt)
  else et),
  Value.float FloatKind.f64 0, Value.int IntKind.i64 (1 : Int),
  Value.int IntKind.i64 (one (bif inn then false else bif q != (0 : Int) then true else on != (0 : Int))),
  Value.float FloatKind.f64 0, Value.int IntKind.i64 (4 : Int),
  Value.int IntKind.i64
  (bif inn then (0 : Int) else bif q != (0 : Int) then bif on != (0 : Int) then a else now else a),
  Value.float FloatKind.f64 0]
  true 3),
  some (AObj.cells [] true 0)])
  (br (kind == (8 : Int))
  (K (AE.returned (Value.slice (some (Addr.mk 14 0 none)) 4 4))
  [some (AObj.row Rk.look 3 0 4 (encL (l4 q et on a))),
  some (AObj.cells [Value.slice (some (Addr.mk 14 0 none)) 4 4] true 0),
  some
  (AObj.cells
  [Value.bool (q != (0 : Int)), Value.bool (on != (0 : Int)), Value.int IntKind.i64 et,
  Value.int IntKind.i64 a]
  true 0),
  some
  (AObj.cells
  [Value.int IntKind.i64 (1 : Int), Value.int IntKind.i64 (4 : Int), Value.int IntKind.i64 (1 : Int),
  Value.int IntKind.i64 (4 : Int)]
  true 1),
  some
  (AObj.cells [Value.int IntKind.i64 (1 : Int), Value.int IntKind.i64 q, Value.float FloatKind.f64 0]
  true 0),
  some
  (AObj.cells [Value.int IntKind.i64 (1 : Int), Value.int IntKind.i64 q, Value.float FloatKind.f64 0]
  true 0),
  some
  (AObj.cells [Value.int IntKind.i64 (4 : Int), Value.int IntKind.i64 et, Value.float FloatKind.f64 0]
  true 0),
  some
  (AObj.cells [Value.int IntKind.i64 (4 : Int), Value.int IntKind.i64 et, Value.float FloatKind.f64 0]
  true 0),
  some
  (AObj.cells [Value.int IntKind.i64 (1 : Int), Value.int IntKind.i64 on, Value.float FloatKind.f64 0]
  true 0),
  some
  (AObj.cells [Value.int IntKind.i64 (1 : Int), Value.int IntKind.i64 on, Value.float FloatKind.f64 0]
  true 0),
  some
  (AObj.cells [Value.int IntKind.i64 (4 : Int), Value.int IntKind.i64 a, Value.float FloatKind.f64 0]
  true 0),
  some
  (AObj.cells [Value.int IntKind.i64 (4 : Int), Value.int IntKind.i64 a, Value.float FloatKind.f64 0]
  true 0),
  some
  (AObj.cells
  [Value.bool (q != (0 : Int)), Value.bool (on != (0 : Int)), Value.int IntKind.i64 et,
  Value.int IntKind.i64 a]
  true 0),
  some
  (AObj.cells
  [Value.bool
  (bif tpB (on != (0 : Int)) inn a (if (0 : Int) > pt then (0 : Int) else pt) now then
  !goesN now (bif on != (0 : Int) then a else now) (if (0 : Int) > pt then (0 : Int) else pt) ==
  if (0 : Int) > pt then (0 : Int) else pt
  else false),
  Value.bool (tpB (on != (0 : Int)) inn a (if (0 : Int) > pt then (0 : Int) else pt) now),
  Value.int IntKind.i64
  (bif tpB (on != (0 : Int)) inn a (if (0 : Int) > pt then (0 : Int) else pt) now then
  goesN now (bif on != (0 : Int) then a else now) (if (0 : Int) > pt then (0 : Int) else pt)
  else (0 : Int)),
  Value.int IntKind.i64
  (bif tpB (on != (0 : Int)) inn a (if (0 : Int) > pt then (0 : Int) else pt) now then
  bif on != (0 : Int) then a else now
  else (0 : Int))]
  true 0),
  some
  (AObj.cells
  [Value.int IntKind.i64 (1 : Int),
  Value.int IntKind.i64
  (one
  (bif tpB (on != (0 : Int)) inn a (if (0 : Int) > pt then (0 : Int) else pt) now then
  !goesN now (bif on != (0 : Int) then a else now) (if (0 : Int) > pt then (0 : Int) else pt) ==
  if (0 : Int) > pt then (0 : Int) else pt
  else false)),
  Value.float FloatKind.f64 0, Value.int IntKind.i64 (4 : Int),
  Value.int IntKind.i64
  (bif tpB (on != (0 : Int)) inn a (if (0 : Int) > pt then (0 : Int) else pt) now then
  goesN now (bif on != (0 : Int) then a else now) (if (0 : Int) > pt then (0 : Int) else pt)
  else (0 : Int)),
  Value.float FloatKind.f64 0, Value.int IntKind.i64 (1 : Int),
  Value.int IntKind.i64
  (one (tpB (on != (0 : Int)) inn a (if (0 : Int) > pt then (0 : Int) else pt) now)),
  Value.float FloatKind.f64 0, Value.int IntKind.i64 (4 : Int),
  Value.int IntKind.i64
  (bif tpB (on != (0 : Int)) inn a (if (0 : Int) > pt then (0 : Int) else pt) now then
  bif on != (0 : Int) then a else now
  else (0 : Int)),
  Value.float FloatKind.f64 0]
  true 3),
  some (AObj.cells [] true 0)])
  (need (okC 3 [Ta.cell (Td.fr 3 4 c fun i => encL (l4 q et on a) (0 + i))])
  (K (AE.returned (Value.slice (some (Addr.mk 15 0 (some 0))) 4 c))
  [some (AObj.row Rk.look 3 0 4 (encL (l4 q et on a))),
  some
  (AObj.cells [Value.slice (some (Addr.mk 15 0 (some 0))) 4 c] true
  0),
  some
  (AObj.cells
  [Value.bool (q != (0 : Int)), Value.bool (on != (0 : Int)), Value.int IntKind.i64 et,
  Value.int IntKind.i64 a]
  true 0),
  some
  (AObj.cells
  [Value.int IntKind.i64 (1 : Int), Value.int IntKind.i64 (4 : Int), Value.int IntKind.i64 (1 : Int),
  Value.int IntKind.i64 (4 : Int)]
  true 1),
  some
  (AObj.cells
  [Value.int IntKind.i64 (1 : Int), Value.int IntKind.i64 q, Value.float FloatKind.f64 0] true
  0),
  some
  (AObj.cells
  [Value.int IntKind.i64 (1 : Int), Value.int IntKind.i64 q, Value.float FloatKind.f64 0] true
  0),
  some
  (AObj.cells
  [Value.int IntKind.i64 (4 : Int), Value.int IntKind.i64 et, Value.float FloatKind.f64 0] true
  0),
  some
  (AObj.cells
  [Value.int IntKind.i64 (4 : Int), Value.int IntKind.i64 et, Value.float FloatKind.f64 0] true
  0),
  some
  (AObj.cells
  [Value.int IntKind.i64 (1 : Int), Value.int IntKind.i64 on, Value.float FloatKind.f64 0] true
  0),
  some
  (AObj.cells
  [Value.int IntKind.i64 (1 : Int), Value.int IntKind.i64 on, Value.float FloatKind.f64 0] true
  0),
  some
  (AObj.cells
  [Value.int IntKind.i64 (4 : Int), Value.int IntKind.i64 a, Value.float FloatKind.f64 0] true
  0),
  some
  (AObj.cells
  [Value.int IntKind.i64 (4 : Int), Value.int IntKind.i64 a, Value.float FloatKind.f64 0] true
  0),
  some
  (AObj.cells
  [Value.bool (q != (0 : Int)), Value.bool (on != (0 : Int)), Value.int IntKind.i64 et,
  Value.int IntKind.i64 a]
  true 0),
  some (AObj.cells [] true 0), none,
  some (AObj.row Rk.mine 3 0 4 fun i => encL (l4 q et on a) (0 + i))]))))) := by kernel_rfl
end Go.Proofs.Ytaceobjppcmhjaa.Ev
