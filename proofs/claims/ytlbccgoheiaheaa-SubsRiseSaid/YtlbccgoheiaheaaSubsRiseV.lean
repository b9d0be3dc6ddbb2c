/-
  SubsRise: what has to hold, printed by the evaluator.
-/
import Derived.Test.YtlbccgoheiaheaaSubsS
set_option linter.unusedVariables false
set_option maxRecDepth 1000000
namespace Go.Proofs.Ytlbccgoheiaheaa.Ev
open Go Go.Proofs
def onP (N : Kt) (x : AX) (p : AFr × ASt) : Prop := N x p.1 p.2
structure RP where
  i : Int
  i0 : Nat
  nn : Nat
  len : Nat
  c : Nat
  now : Int
  last : Int
  seq : Int
  lost : Bool
  due : Int
  li : Int
  S : Int
  qs : Nat → Int
  qk : Nat → Int
  qi : Nat → Int
  qf : Nat → Nat
  ql : Nat → Bool
structure Dd where
  n : Nat
  c : Nat
  dk : Nat → Int
  db : Nat → Int
  vk : Nat → Int
  vi : Nat → Int
  vf : Nat → Nat
def deedRow (d : Dd) : AObj := .row false 5 0 d.n fun i => [.int .u8 (d.dk i), .int .u8 (d.db i), .int .i64 (d.vk i), .int .i64 (d.vi i), .float .f64 (d.vf i)]
def slR : List Nat := [0, 1, 3, 9, 11, 12, 13, 14, 15, 16]
def queR (p : RP) : AObj := .row true 5 0 p.nn fun i => [.int .i64 (p.qs i), .int .i64 (p.qk i), .int .i64 (p.qi i), .float .f64 (p.qf i), .bool (p.ql i)]
def riseCells (E band m : Int) (has : Bool) (lk : Int) (p : RP) : List Value := [.int .i64 1, .int .i64 0, .int .i64 E, .int .i64 p.due, .int .i64 2, .int .i64 band, .float .f64 0, .int .i64 m, .bool has, .bool false, .int .i64 lk, .int .i64 p.li, .float .f64 0, .int .i64 p.S, .slice (some ⟨2, 0, some p.i0⟩) p.len p.c]
def FR (d : Dd) (every far m : Int) (p : RP) : AFr := mkF 161 [(0, .int .u8 every), (1, .int .u8 far), (3, .slice (some ⟨0, 0, some 0⟩) d.n d.c), (9, .int .i64 m), (11, .pointer (some ⟨1, 0, none⟩)), (12, .int .i64 p.now), (13, .int .i64 p.last), (14, .int .i64 p.seq), (15, .bool p.lost), (16, .int .i64 p.i)]
def SR (d : Dd) (E band m : Int) (has : Bool) (lk : Int) (p : RP) : ASt := mkS [some (deedRow d), some (.cells (riseCells E band m has lk p) true 0), some (queR p)]
def exR (d : Dd) (every far E band m : Int) (Post : Bool → Int → RP → Prop) : Nat → Kt → Prop := fun b K => ∀ has lk p, Post has lk p → K (.exit b) (FR d every far m p) (SR d E band m has lk p)
def shpA (d : Dd) (every far E band m : Int) (p' : RP) : AFr × ASt := (FR d every far m p', SR d E band m false 0 p')
def shpB (d : Dd) (every far E band m : Int) (p' : RP) : AFr × ASt := (FR d every far m p', SR d E band m true 2 p')
theorem vc_rise (d : Dd) (every far most E band m : Int) (Post : Bool → Int → RP → Prop) (β : Bs) : lawJ Try.prog toldB 100 20 β (fun _ => 0) (cnOf 1 fun _ => slR) (exR d every far E band m Post) 3 [.int .u8 every, .int .u8 far, .int .u8 most, .slice (some ⟨0, 0, some 0⟩) d.n d.c] (mkS [some (deedRow d)]) trueV =
(  br (decide (Int.ofNat (Dd.n d) > (40 : Int))) True
  (LoopJ Try.prog β (exR d every far E band m Post) 0 (loopOf Try.prog (3 : FuncId) 0)
  (mkF 161
  [(0, Value.int IntKind.u8 every), (1, Value.int IntKind.u8 far),
  (3, Value.slice (some (Addr.mk 0 0 (some 0))) (Dd.n d) (Dd.c d)),
  (9,
  Value.int IntKind.i64
  (IntKind.wrap IntKind.i64 ((1 : Int) + IntKind.wrap IntKind.i64 (Int.tmod most (8 : Int))))),
  (11, Value.pointer (some (Addr.mk 1 0 none))),
  (12, Value.int IntKind.i64 (0 : Int)), (13, Value.int IntKind.i64 (0 : Int)),
  (14, Value.int IntKind.i64 (0 : Int)), (15, Value.bool false),
  (16, Value.int IntKind.i64 (0 : Int))])
  (mkS
  [some
  (AObj.row false 5 0 (Dd.n d) fun i =>
  [Value.int IntKind.u8 (Dd.dk d i), Value.int IntKind.u8 (Dd.db d i), Value.int IntKind.i64 (Dd.vk d i),
  Value.int IntKind.i64 (Dd.vi d i), Value.float FloatKind.f64 (Dd.vf d i)]),
  some
  (AObj.cells
  [Value.int IntKind.i64 (1 : Int), Value.int IntKind.i64 (0 : Int),
  Value.int IntKind.i64 (IntKind.wrap IntKind.i64 (Int.tmod every (30 : Int))),
  Value.int IntKind.i64 (0 : Int), Value.int IntKind.i64 (2 : Int),
  Value.int IntKind.i64 (IntKind.wrap IntKind.i64 (Int.tmod far (5 : Int))),
  Value.float FloatKind.f64 0,
  Value.int IntKind.i64
  (IntKind.wrap IntKind.i64 ((1 : Int) + IntKind.wrap IntKind.i64 (Int.tmod most (8 : Int)))),
  Value.bool false, Value.bool false, Value.int IntKind.i64 (0 : Int), Value.int IntKind.i64 (0 : Int),
  Value.float FloatKind.f64 0, Value.int IntKind.i64 (0 : Int),
  Value.slice none 0 0]
  true 0)]) ∧
  ∀ (has : Bool) (lk : Int) (p : RP), Post has lk p → need (decide (RP.S p ≥ RP.seq p)) True)) := by kernel_rfl
theorem vc_rise_r0 (d : Dd) (every far E band m : Int) (p : RP) (β : Bs) (N : Kt) (ex : Nat → Kt → Prop) : roundJ Try.prog toldB 100 20 β (fun _ => 0) (cnOf 1 fun _ => slR) ex 3 0 1 (fun _ => slR)
    (FR d every far m p) (SR d E band m false 0 p) N =
(  br (decide (RP.i p < Int.ofNat (Dd.n d)))
  (need (decide ((0 : Int) ≤ RP.i p))
  (need (Nat.blt (Int.toNat (RP.i p)) (Dd.n d))
  (need (Nat.ble 0 (0 + Int.toNat (RP.i p)) && Nat.blt (0 + Int.toNat (RP.i p)) (Dd.n d))
  (need (decide ((0 : Int) ≤ RP.i p))
  (need (Nat.blt (Int.toNat (RP.i p)) (Dd.n d))
  (need
  (Nat.ble 0 (0 + Int.toNat (RP.i p)) && Nat.blt (0 + Int.toNat (RP.i p)) (Dd.n d))
  (br (decide (Int.tmod (Dd.dk d (0 + Int.toNat (RP.i p))) (4 : Int) < (3 : Int)))
  (need (decide ((0 : Int) ≤ RP.i p))
  (need (Nat.blt (Int.toNat (RP.i p)) (Dd.n d))
  (need
  (Nat.ble 0 (0 + Int.toNat (RP.i p)) &&
  Nat.blt (0 + Int.toNat (RP.i p)) (Dd.n d))
  (need (Nat.ble 0 (RP.i0 p) && Nat.ble (RP.i0 p + RP.len p) (RP.nn p))
  (need (Nat.ble (RP.len p) 1000000)
  (need
  (allS (RP.len p) fun j =>
  (fun i =>
  [Value.int IntKind.i64 (RP.qs p i), Value.int IntKind.i64 (RP.qk p i),
  Value.int IntKind.i64 (RP.qi p i), Value.float FloatKind.f64 (RP.qf p i),
  Value.bool (RP.ql p i)])
  (RP.i0 p + j))
  (br
  (decide
  (IntKind.wrap IntKind.i64
  (RP.now p +
  IntKind.wrap IntKind.i64
  (Int.tmod (Dd.db d (0 + Int.toNat (RP.i p))) (40 : Int))) <
  RP.due p))
  (br (decide (Int.ofNat (RP.len p) > m))
  (onP N AX.ret
  (shpA d every far E band m
  (RP.mk (RP.i p) 0 (RP.len p) (RP.len p) (RP.c p)
  (IntKind.wrap IntKind.i64
  (RP.now p +
  IntKind.wrap IntKind.i64
  (Int.tmod (Dd.db d (0 + Int.toNat (RP.i p))) (40 : Int))))
  (RP.last p) (RP.seq p) (RP.lost p) (RP.due p) (RP.li p) (RP.S p)
  (fun i => RP.qs p (RP.i0 p + i)) (fun i => RP.qk p (RP.i0 p + i))
  (fun i => RP.qi p (RP.i0 p + i)) (fun i => RP.qf p (RP.i0 p + i)) fun i =>
  RP.ql p (RP.i0 p + i))))
  (br
  (decide
  (RP.due p <
  IntKind.wrap IntKind.i64
  (RP.now p +
  IntKind.wrap IntKind.i64
  (Int.tmod (Dd.db d (0 + Int.toNat (RP.i p))) (40 : Int)))))
  (onP N AX.ret
  (shpA d every far E band m
  (RP.mk (RP.i p) 0 (RP.len p) (RP.len p) (RP.c p)
  (IntKind.wrap IntKind.i64
  (RP.now p +
  IntKind.wrap IntKind.i64
  (Int.tmod (Dd.db d (0 + Int.toNat (RP.i p))) (40 : Int))))
  (RP.last p) (RP.seq p) (RP.lost p) (RP.due p) (RP.li p) (RP.S p)
  (fun i => RP.qs p (RP.i0 p + i)) (fun i => RP.qk p (RP.i0 p + i))
  (fun i => RP.qi p (RP.i0 p + i)) (fun i => RP.qf p (RP.i0 p + i)) fun i =>
  RP.ql p (RP.i0 p + i))))
  (br (decide (Int.tmod every (30 : Int) > (0 : Int)))
  (br
  (RP.due p ==
  IntKind.wrap IntKind.i64
  (RP.now p +
  IntKind.wrap IntKind.i64
  (Int.tmod (Dd.db d (0 + Int.toNat (RP.i p))) (40 : Int))))
  (onP N AX.ret
  (shpA d every far E band m
  (RP.mk (RP.i p) 0 (RP.len p) (RP.len p) (RP.c p)
  (IntKind.wrap IntKind.i64
  (RP.now p +
  IntKind.wrap IntKind.i64
  (Int.tmod (Dd.db d (0 + Int.toNat (RP.i p))) (40 : Int))))
  (RP.last p) (RP.seq p) (RP.lost p) (RP.due p) (RP.li p) (RP.S p)
  (fun i => RP.qs p (RP.i0 p + i)) (fun i => RP.qk p (RP.i0 p + i))
  (fun i => RP.qi p (RP.i0 p + i)) (fun i => RP.qf p (RP.i0 p + i)) fun i =>
  RP.ql p (RP.i0 p + i))))
  (onP N AX.normal
  (shpA d every far E band m
  (RP.mk (IntKind.wrap IntKind.i64 (RP.i p + (1 : Int))) 0 (RP.len p)
  (RP.len p) (RP.c p)
  (IntKind.wrap IntKind.i64
  (RP.now p +
  IntKind.wrap IntKind.i64
  (Int.tmod (Dd.db d (0 + Int.toNat (RP.i p))) (40 : Int))))
  (RP.last p) (RP.seq p) (RP.lost p) (RP.due p) (RP.li p) (RP.S p)
  (fun i => RP.qs p (RP.i0 p + i)) (fun i => RP.qk p (RP.i0 p + i))
  (fun i => RP.qi p (RP.i0 p + i)) (fun i => RP.qf p (RP.i0 p + i)) fun i =>
  RP.ql p (RP.i0 p + i)))))
  (onP N AX.normal
  (shpA d every far E band m
  (RP.mk (IntKind.wrap IntKind.i64 (RP.i p + (1 : Int))) 0 (RP.len p)
  (RP.len p) (RP.c p)
  (IntKind.wrap IntKind.i64
  (RP.now p +
  IntKind.wrap IntKind.i64
  (Int.tmod (Dd.db d (0 + Int.toNat (RP.i p))) (40 : Int))))
  (RP.last p) (RP.seq p) (RP.lost p) (RP.due p) (RP.li p) (RP.S p)
  (fun i => RP.qs p (RP.i0 p + i)) (fun i => RP.qk p (RP.i0 p + i))
  (fun i => RP.qi p (RP.i0 p + i)) (fun i => RP.qf p (RP.i0 p + i)) fun i =>
  RP.ql p (RP.i0 p + i)))))))
  (br (decide (E ≤ (0 : Int)))
  (need (Nat.ble (RP.len p + 1) 1000000)
  (need (true && Nat.ble (0 + RP.len p) (RP.len p))
  (br (decide (Int.ofNat (RP.len p + 1) ≤ m))
  (br (decide (Int.ofNat (RP.len p + 1) > m))
  (onP N AX.ret
  (shpB d every far E band m
  (RP.mk (RP.i p) 0 (RP.len p + 1) (RP.len p + 1)
  (RP.c p)
  (IntKind.wrap IntKind.i64
  (RP.now p +
  IntKind.wrap IntKind.i64
  (Int.tmod (Dd.db d (0 + Int.toNat (RP.i p))) (40 : Int))))
  (RP.last p) (RP.seq p) (RP.lost p)
  (IntKind.wrap IntKind.i64
  (RP.now p +
  IntKind.wrap IntKind.i64
  (Int.tmod (Dd.db d (0 + Int.toNat (RP.i p))) (40 : Int))))
  (Int.tmod (Dd.vi d (0 + Int.toNat (RP.i p))) (20 : Int))
  (IntKind.wrap IntKind.i64 (RP.S p + (1 : Int)))
  (fun i =>
  bif Nat.blt i (RP.len p) then RP.qs p (RP.i0 p + (0 + i))
  else IntKind.wrap IntKind.i64 (RP.S p + (1 : Int)))
  (fun i =>
  bif Nat.blt i (RP.len p) then RP.qk p (RP.i0 p + (0 + i))
  else (2 : Int))
  (fun i =>
  bif Nat.blt i (RP.len p) then RP.qi p (RP.i0 p + (0 + i))
  else Int.tmod (Dd.vi d (0 + Int.toNat (RP.i p))) (20 : Int))
  (fun i =>
  bif Nat.blt i (RP.len p) then RP.qf p (RP.i0 p + (0 + i))
  else 0)
  fun i =>
  bif Nat.blt i (RP.len p) then RP.ql p (RP.i0 p + (0 + i))
  else false)))
  (br
  (decide
  (IntKind.wrap IntKind.i64
  (RP.now p +
  IntKind.wrap IntKind.i64
  (Int.tmod (Dd.db d (0 + Int.toNat (RP.i p))) (40 : Int))) <
  IntKind.wrap IntKind.i64
  (RP.now p +
  IntKind.wrap IntKind.i64
  (Int.tmod (Dd.db d (0 + Int.toNat (RP.i p))) (40 : Int)))))
  (onP N AX.ret
  (shpB d every far E band m
  (RP.mk (RP.i p) 0 (RP.len p + 1) (RP.len p + 1)
  (RP.c p)
  (IntKind.wrap IntKind.i64
  (RP.now p +
  IntKind.wrap IntKind.i64
  (Int.tmod (Dd.db d (0 + Int.toNat (RP.i p))) (40 : Int))))
  (RP.last p) (RP.seq p) (RP.lost p)
  (IntKind.wrap IntKind.i64
  (RP.now p +
  IntKind.wrap IntKind.i64
  (Int.tmod (Dd.db d (0 + Int.toNat (RP.i p))) (40 : Int))))
  (Int.tmod (Dd.vi d (0 + Int.toNat (RP.i p))) (20 : Int))
  (IntKind.wrap IntKind.i64 (RP.S p + (1 : Int)))
  (fun i =>
  bif Nat.blt i (RP.len p) then RP.qs p (RP.i0 p + (0 + i))
  else IntKind.wrap IntKind.i64 (RP.S p + (1 : Int)))
  (fun i =>
  bif Nat.blt i (RP.len p) then RP.qk p (RP.i0 p + (0 + i))
  else (2 : Int))
  (fun i =>
  bif Nat.blt i (RP.len p) then RP.qi p (RP.i0 p + (0 + i))
  else Int.tmod (Dd.vi d (0 + Int.toNat (RP.i p))) (20 : Int))
  (fun i =>
  bif Nat.blt i (RP.len p) then RP.qf p (RP.i0 p + (0 + i))
  else 0)
  fun i =>
  bif Nat.blt i (RP.len p) then RP.ql p (RP.i0 p + (0 + i))
  else false)))
  (br (decide (Int.tmod every (30 : Int) > (0 : Int)))
  (br
  (IntKind.wrap IntKind.i64
  (RP.now p +
  IntKind.wrap IntKind.i64
  (Int.tmod (Dd.db d (0 + Int.toNat (RP.i p)))
  (40 : Int))) ==
  IntKind.wrap IntKind.i64
  (RP.now p +
  IntKind.wrap IntKind.i64
  (Int.tmod (Dd.db d (0 + Int.toNat (RP.i p))) (40 : Int))))
  (onP N AX.ret
  (shpB d every far E band m
  (RP.mk (RP.i p) 0 (RP.len p + 1)
  (RP.len p + 1) (RP.c p)
  (IntKind.wrap IntKind.i64
  (RP.now p +
  IntKind.wrap IntKind.i64
  (Int.tmod (Dd.db d (0 + Int.toNat (RP.i p)))
  (40 : Int))))
  (RP.last p) (RP.seq p) (RP.lost p)
  (IntKind.wrap IntKind.i64
  (RP.now p +
  IntKind.wrap IntKind.i64
  (Int.tmod (Dd.db d (0 + Int.toNat (RP.i p)))
  (40 : Int))))
  (Int.tmod (Dd.vi d (0 + Int.toNat (RP.i p))) (20 : Int))
  (IntKind.wrap IntKind.i64 (RP.S p + (1 : Int)))
  (fun i =>
  bif Nat.blt i (RP.len p) then RP.qs p (RP.i0 p + (0 + i))
  else IntKind.wrap IntKind.i64 (RP.S p + (1 : Int)))
  (fun i =>
  bif Nat.blt i (RP.len p) then RP.qk p (RP.i0 p + (0 + i))
  else (2 : Int))
  (fun i =>
  bif Nat.blt i (RP.len p) then RP.qi p (RP.i0 p + (0 + i))
  else
  Int.tmod (Dd.vi d (0 + Int.toNat (RP.i p))) (20 : Int))
  (fun i =>
  bif Nat.blt i (RP.len p) then RP.qf p (RP.i0 p + (0 + i))
  else 0)
  fun i =>
  bif Nat.blt i (RP.len p) then RP.ql p (RP.i0 p + (0 + i))
  else false)))
  (onP N AX.normal
  (shpB d every far E band m
  (RP.mk (IntKind.wrap IntKind.i64 (RP.i p + (1 : Int))) 0
  (RP.len p + 1) (RP.len p + 1) (RP.c p)
  (IntKind.wrap IntKind.i64
  (RP.now p +
  IntKind.wrap IntKind.i64
  (Int.tmod (Dd.db d (0 + Int.toNat (RP.i p)))
  (40 : Int))))
  (RP.last p) (RP.seq p) (RP.lost p)
  (IntKind.wrap IntKind.i64
  (RP.now p +
  IntKind.wrap IntKind.i64
  (Int.tmod (Dd.db d (0 + Int.toNat (RP.i p)))
  (40 : Int))))
  (Int.tmod (Dd.vi d (0 + Int.toNat (RP.i p))) (20 : Int))
  (IntKind.wrap IntKind.i64 (RP.S p + (1 : Int)))
  (fun i =>
  bif Nat.blt i (RP.len p) then RP.qs p (RP.i0 p + (0 + i))
  else IntKind.wrap IntKind.i64 (RP.S p + (1 : Int)))
  (fun i =>
  bif Nat.blt i (RP.len p) then RP.qk p (RP.i0 p + (0 + i))
  else (2 : Int))
  (fun i =>
  bif Nat.blt i (RP.len p) then RP.qi p (RP.i0 p + (0 + i))
  else
  Int.tmod (Dd.vi d (0 + Int.toNat (RP.i p))) (20 : Int))
  (fun i =>
  bif Nat.blt i (RP.len p) then RP.qf p (RP.i0 p + (0 + i))
  else 0)
  fun i =>
  bif Nat.blt i (RP.len p) then RP.ql p (RP.i0 p + (0 + i))
  else false))))
  (onP N AX.normal
  (shpB d every far E band m
  (RP.mk (IntKind.wrap IntKind.i64 (RP.i p + (1 : Int))) 0
  (RP.len p + 1) (RP.len p + 1) (RP.c p)
  (IntKind.wrap IntKind.i64
  (RP.now p +
  IntKind.wrap IntKind.i64
  (Int.tmod (Dd.db d (0 + Int.toNat (RP.i p)))
  (40 : Int))))
  (RP.last p) (RP.seq p) (RP.lost p)
  (IntKind.wrap IntKind.i64
  (RP.now p +
  IntKind.wrap IntKind.i64
  (Int.tmod (Dd.db d (0 + Int.toNat (RP.i p)))
  (40 : Int))))
  (Int.tmod (Dd.vi d (0 + Int.toNat (RP.i p))) (20 : Int))
  (IntKind.wrap IntKind.i64 (RP.S p + (1 : Int)))
  (fun i =>
  bif Nat.blt i (RP.len p) then RP.qs p (RP.i0 p + (0 + i))
  else IntKind.wrap IntKind.i64 (RP.S p + (1 : Int)))
  (fun i =>
  bif Nat.blt i (RP.len p) then RP.qk p (RP.i0 p + (0 + i))
  else (2 : Int))
  (fun i =>
  bif Nat.blt i (RP.len p) then RP.qi p (RP.i0 p + (0 + i))
  else Int.tmod (Dd.vi d (0 + Int.toNat (RP.i p))) (20 : Int))
  (fun i =>
  bif Nat.blt i (RP.len p) then RP.qf p (RP.i0 p + (0 + i))
  else 0)
  fun i =>
  bif Nat.blt i (RP.len p) then RP.ql p (RP.i0 p + (0 + i))
  else false))))))
  (br (Int.ofNat (RP.len p + 1 - 1) == (0 : Int))
  (br (decide (Int.ofNat (RP.len p + 1 - 1) > m))
  (N AX.ret
  (mkF 161
  [(0, Value.int IntKind.u8 every),
  (1, Value.int IntKind.u8 far),
  (3,
  Value.slice (some (Addr.mk 0 0 (some 0)))
  (Dd.n d) (Dd.c d)),
  (9, Value.int IntKind.i64 m),
  (11, Value.pointer (some (Addr.mk 1 0 none))),
  (12,
  Value.int IntKind.i64
  (IntKind.wrap IntKind.i64
  (RP.now p +
  IntKind.wrap IntKind.i64
  (Int.tmod (Dd.db d (0 + Int.toNat (RP.i p)))
  (40 : Int))))),
  (13, Value.int IntKind.i64 (RP.last p)),
  (14, Value.int IntKind.i64 (RP.seq p)),
  (15, Value.bool (RP.lost p)),
  (16, Value.int IntKind.i64 (RP.i p))])
  (mkS
  [some
  (AObj.row false 5 0 (Dd.n d) fun i =>
  [Value.int IntKind.u8 (Dd.dk d i), Value.int IntKind.u8 (Dd.db d i),
  Value.int IntKind.i64 (Dd.vk d i),
  Value.int IntKind.i64 (Dd.vi d i),
  Value.float FloatKind.f64 (Dd.vf d i)]),
  some
  (AObj.cells
  [Value.int IntKind.i64 (1 : Int), Value.int IntKind.i64 (0 : Int),
  Value.int IntKind.i64 E,
  Value.int IntKind.i64
  (IntKind.wrap IntKind.i64
  (RP.now p +
  IntKind.wrap IntKind.i64
  (Int.tmod (Dd.db d (0 + Int.toNat (RP.i p)))
  (40 : Int)))),
  Value.int IntKind.i64 (2 : Int), Value.int IntKind.i64 band,
  Value.float FloatKind.f64 0, Value.int IntKind.i64 m,
  Value.bool true, Value.bool true, Value.int IntKind.i64 (2 : Int),
  Value.int IntKind.i64
  (Int.tmod (Dd.vi d (0 + Int.toNat (RP.i p)))
  (20 : Int)),
  Value.float FloatKind.f64 0,
  Value.int IntKind.i64
  (IntKind.wrap IntKind.i64 (RP.S p + (1 : Int))),
  Value.slice (some (Addr.mk 2 0 (some 1)))
  (RP.len p + 1 - 1) 0]
  true 0),
  some
  (AObj.row true 5 0 (RP.len p + 1) fun i =>
  [Value.int IntKind.i64
  (bif Nat.blt i (RP.len p) then
  RP.qs p (RP.i0 p + (0 + i))
  else IntKind.wrap IntKind.i64 (RP.S p + (1 : Int))),
  Value.int IntKind.i64
  (bif Nat.blt i (RP.len p) then
  RP.qk p (RP.i0 p + (0 + i))
  else (2 : Int)),
  Value.int IntKind.i64
  (bif Nat.blt i (RP.len p) then
  RP.qi p (RP.i0 p + (0 + i))
  else
  Int.tmod (Dd.vi d (0 + Int.toNat (RP.i p)))
  (20 : Int)),
  Value.float FloatKind.f64
  (bif Nat.blt i (RP.len p) then
  RP.qf p (RP.i0 p + (0 + i))
  else 0),
  Value.bool
  (bif Nat.blt i (RP.len p) then
  RP.ql p (RP.i0 p + (0 + i))
  else false)])]))
  (br
  (decide
  (IntKind.wrap IntKind.i64
  (RP.now p +
  IntKind.wrap IntKind.i64
  (Int.tmod (Dd.db d (0 + Int.toNat (RP.i p)))
  (40 : Int))) <
  IntKind.wrap IntKind.i64
  (RP.now p +
  IntKind.wrap IntKind.i64
  (Int.tmod (Dd.db d (0 + Int.toNat (RP.i p)))
  (40 : Int)))))
  (N AX.ret
  (mkF 161
  [(0, Value.int IntKind.u8 every),
  (1, Value.int IntKind.u8 far),
  (3,
  Value.slice (some (Addr.mk 0 0 (some 0)))
  (Dd.n d) (Dd.c d)),
  (9, Value.int IntKind.i64 m),
  (11, Value.pointer (some (Addr.mk 1 0 none))),
  (12,
  Value.int IntKind.i64
  (IntKind.wrap IntKind.i64
  (RP.now p +
  IntKind.wrap IntKind.i64
  (Int.tmod (Dd.db d (0 + Int.toNat (RP.i p)))
  (40 : Int))))),
  (13, Value.int IntKind.i64 (RP.last p)),
  (14, Value.int IntKind.i64 (RP.seq p)),
  (15, Value.bool (RP.lost p)),
  (16, Value.int IntKind.i64 (RP.i p))])
  (mkS
  [some
  (AObj.row false 5 0 (Dd.n d) fun i =>
  [Value.int IntKind.u8 (Dd.dk d i),
  Value.int IntKind.u8 (Dd.db d i),
  Value.int IntKind.i64 (Dd.vk d i),
  Value.int IntKind.i64 (Dd.vi d i),
  Value.float FloatKind.f64 (Dd.vf d i)]),
  some
  (AObj.cells
  [Value.int IntKind.i64 (1 : Int), Value.int IntKind.i64 (0 : Int),
  Value.int IntKind.i64 E,
  Value.int IntKind.i64
  (IntKind.wrap IntKind.i64
  (RP.now p +
  IntKind.wrap IntKind.i64
  (Int.tmod (Dd.db d (0 + Int.toNat (RP.i p)))
  (40 : Int)))),
  Value.int IntKind.i64 (2 : Int), Value.int IntKind.i64 band,
  Value.float FloatKind.f64 0, Value.int IntKind.i64 m,
  Value.bool true, Value.bool true,
  Value.int IntKind.i64 (2 : Int),
  Value.int IntKind.i64
  (Int.tmod (Dd.vi d (0 + Int.toNat (RP.i p)))
  (20 : Int)),
  Value.float FloatKind.f64 0,
  Value.int IntKind.i64
  (IntKind.wrap IntKind.i64 (RP.S p + (1 : Int))),
  Value.slice
  (some (Addr.mk 2 0 (some 1)))
  (RP.len p + 1 - 1) 0]
  true 0),
  some
  (AObj.row true 5 0 (RP.len p + 1) fun i =>
  [Value.int IntKind.i64
  (bif Nat.blt i (RP.len p) then
  RP.qs p (RP.i0 p + (0 + i))
  else IntKind.wrap IntKind.i64 (RP.S p + (1 : Int))),
  Value.int IntKind.i64
  (bif Nat.blt i (RP.len p) then
  RP.qk p (RP.i0 p + (0 + i))
  else (2 : Int)),
  Value.int IntKind.i64
  (bif Nat.blt i (RP.len p) then
  RP.qi p (RP.i0 p + (0 + i))
  else
  Int.tmod (Dd.vi d (0 + Int.toNat (RP.i p)))
  (20 : Int)),
  Value.float FloatKind.f64
  (bif Nat.blt i (RP.len p) then
  RP.qf p (RP.i0 p + (0 + i))
  else 0),
  Value.bool
  (bif Nat.blt i (RP.len p) then
  RP.ql p (RP.i0 p + (0 + i))
  else false)])]))
  (br (decide (Int.tmod every (30 : Int) > (0 : Int)))
  (br
  (IntKind.wrap IntKind.i64
  (RP.now p +
  IntKind.wrap IntKind.i64
  (Int.tmod (Dd.db d (0 + Int.toNat (RP.i p)))
  (40 : Int))) ==
  IntKind.wrap IntKind.i64
  (RP.now p +
  IntKind.wrap IntKind.i64
  (Int.tmod (Dd.db d (0 + Int.toNat (RP.i p)))
  (40 : Int))))
  (N AX.ret
  (mkF 161
  [(0, Value.int IntKind.u8 every),
  (1, Value.int IntKind.u8 far),
  (3,
  Value.slice
  (some (Addr.mk 0 0 (some 0))) (Dd.n d)
  (Dd.c d)),
  (9, Value.int IntKind.i64 m),
  (11,
  Value.pointer (some (Addr.mk 1 0 none))),
  (12,
  Value.int IntKind.i64
  (IntKind.wrap IntKind.i64
  (RP.now p +
  IntKind.wrap IntKind.i64
  (Int.tmod (Dd.db d (0 + Int.toNat (RP.i p)))
  (40 : Int))))),
  (13, Value.int IntKind.i64 (RP.last p)),
  (14, Value.int IntKind.i64 (RP.seq p)),
  (15, Value.bool (RP.lost p)),
  (16, Value.int IntKind.i64 (RP.i p))])
  (mkS
  [some
  (AObj.row false 5 0 (Dd.n d) fun i =>
  [Value.int IntKind.u8 (Dd.dk d i),
  Value.int IntKind.u8 (Dd.db d i),
  Value.int IntKind.i64 (Dd.vk d i),
  Value.int IntKind.i64 (Dd.vi d i),
  Value.float FloatKind.f64 (Dd.vf d i)]),
  some
  (AObj.cells
  [Value.int IntKind.i64 (1 : Int),
  Value.int IntKind.i64 (0 : Int), Value.int IntKind.i64 E,
  Value.int IntKind.i64
  (IntKind.wrap IntKind.i64
  (RP.now p +
  IntKind.wrap IntKind.i64
  (Int.tmod (Dd.db d (0 + Int.toNat (RP.i p)))
  (40 : Int)))),
  Value.int IntKind.i64 (2 : Int), Value.int IntKind.i64 band,
  Value.float FloatKind.f64 0,
  Value.int IntKind.i64 m, Value.bool true, Value.bool true,
  Value.int IntKind.i64 (2 : Int),
  Value.int IntKind.i64
  (Int.tmod (Dd.vi d (0 + Int.toNat (RP.i p)))
  (20 : Int)),
  Value.float FloatKind.f64 0,
  Value.int IntKind.i64
  (IntKind.wrap IntKind.i64 (RP.S p + (1 : Int))),
  Value.slice
  (some (Addr.mk 2 0 (some 1)))
  (RP.len p + 1 - 1) 0]
  true 0),
  some
  (AObj.row true 5 0 (RP.len p + 1)
  fun i =>
  [Value.int IntKind.i64
  (bif Nat.blt i (RP.len p) then
  RP.qs p (RP.i0 p + (0 + i))
  else IntKind.wrap IntKind.i64 (RP.S p + (1 : Int))),
  Value.int IntKind.i64
  (bif Nat.blt i (RP.len p) then
  RP.qk p (RP.i0 p + (0 + i))
  else (2 : Int)),
  Value.int IntKind.i64
  (bif Nat.blt i (RP.len p) then
  RP.qi p (RP.i0 p + (0 + i))
  else
  Int.tmod (Dd.vi d (0 + Int.toNat (RP.i p)))
  (20 : Int)),
  Value.float FloatKind.f64
  (bif Nat.blt i (RP.len p) then
  RP.qf p (RP.i0 p + (0 + i))
  else 0),
  Value.bool
  (bif Nat.blt i (RP.len p) then
  RP.ql p (RP.i0 p + (0 + i))
  else false)])]))
  (N AX.normal
  (mkF 161
  [(0, Value.int IntKind.u8 every),
  (1, Value.int IntKind.u8 far),
  (3,
  Value.slice
  (some (Addr.mk 0 0 (some 0))) (Dd.n d)
  (Dd.c d)),
  (9, Value.int IntKind.i64 m),
  (11,
  Value.pointer (some (Addr.mk 1 0 none))),
  (12,
  Value.int IntKind.i64
  (IntKind.wrap IntKind.i64
  (RP.now p +
  IntKind.wrap IntKind.i64
  (Int.tmod (Dd.db d (0 + Int.toNat (RP.i p)))
  (40 : Int))))),
  (13, Value.int IntKind.i64 (RP.last p)),
  (14, Value.int IntKind.i64 (RP.seq p)),
  (15, Value.bool (RP.lost p)),
  (16,
  Value.int IntKind.i64
  (IntKind.wrap IntKind.i64 (RP.i p + (1 : Int))))])
  (mkS
  [some
  (AObj.row false 5 0 (Dd.n d) fun i =>
  [Value.int IntKind.u8 (Dd.dk d i),
  Value.int IntKind.u8 (Dd.db d i),
  Value.int IntKind.i64 (Dd.vk d i),
  Value.int IntKind.i64 (Dd.vi d i),
  Value.float FloatKind.f64 (Dd.vf d i)]),
  some
  (AObj.cells
  [Value.int IntKind.i64 (1 : Int),
  Value.int IntKind.i64 (0 : Int), Value.int IntKind.i64 E,
  Value.int IntKind.i64
  (IntKind.wrap IntKind.i64
  (RP.now p +
  IntKind.wrap IntKind.i64
  (Int.tmod (Dd.db d (0 + Int.toNat (RP.i p)))
  (40 : Int)))),
  Value.int IntKind.i64 (2 : Int), Value.int IntKind.i64 band,
  Value.float FloatKind.f64 0,
  Value.int IntKind.i64 m, Value.bool true, Value.bool true,
  Value.int IntKind.i64 (2 : Int),
  Value.int IntKind.i64
  (Int.tmod (Dd.vi d (0 + Int.toNat (RP.i p)))
  (20 : Int)),
  Value.float FloatKind.f64 0,
  Value.int IntKind.i64
  (IntKind.wrap IntKind.i64 (RP.S p + (1 : Int))),
  Value.slice
  (some (Addr.mk 2 0 (some 1)))
  (RP.len p + 1 - 1) 0]
  true 0),
  some
  (AObj.row true 5 0 (RP.len p + 1)
  fun i =>
  [Value.int IntKind.i64
  (bif Nat.blt i (RP.len p) then
  RP.qs p (RP.i0 p + (0 + i))
  else IntKind.wrap IntKind.i64 (RP.S p + (1 : Int))),
  Value.int IntKind.i64
  (bif Nat.blt i (RP.len p) then
  RP.qk p (RP.i0 p + (0 + i))
  else (2 : Int)),
  Value.int IntKind.i64
  (bif Nat.blt i (RP.len p) then
  RP.qi p (RP.i0 p + (0 + i))
  else
  Int.tmod (Dd.vi d (0 + Int.toNat (RP.i p)))
  (20 : Int)),
  Value.float FloatKind.f64
  (bif Nat.blt i (RP.len p) then
  RP.qf p (RP.i0 p + (0 + i))
  else 0),
  Value.bool
  (bif Nat.blt i (RP.len p) then
  RP.ql p (RP.i0 p + (0 + i))
  else false)])])))
  (N AX.normal
  (mkF 161
  [(0, Value.int IntKind.u8 every),
  (1, Value.int IntKind.u8 far),
  (3,
  Value.slice (some (Addr.mk 0 0 (some 0)))
  (Dd.n d) (Dd.c d)),
  (9, Value.int IntKind.i64 m),
  (11,
  Value.pointer (some (Addr.mk 1 0 none))),
  (12,
  Value.int IntKind.i64
  (IntKind.wrap IntKind.i64
  (RP.now p +
  IntKind.wrap IntKind.i64
  (Int.tmod (Dd.db d (0 + Int.toNat (RP.i p)))
  (40 : Int))))),
  (13, Value.int IntKind.i64 (RP.last p)),
  (14, Value.int IntKind.i64 (RP.seq p)),
  (15, Value.bool (RP.lost p)),
  (16,
  Value.int IntKind.i64
  (IntKind.wrap IntKind.i64 (RP.i p + (1 : Int))))])
  (mkS
  [some
  (AObj.row false 5 0 (Dd.n d) fun i =>
  [Value.int IntKind.u8 (Dd.dk d i),
  Value.int IntKind.u8 (Dd.db d i),
  Value.int IntKind.i64 (Dd.vk d i),
  Value.int IntKind.i64 (Dd.vi d i),
  Value.float FloatKind.f64 (Dd.vf d i)]),
  some
  (AObj.cells
  [Value.int IntKind.i64 (1 : Int),
  Value.int IntKind.i64 (0 : Int), Value.int IntKind.i64 E,
  Value.int IntKind.i64
  (IntKind.wrap IntKind.i64
  (RP.now p +
  IntKind.wrap IntKind.i64
  (Int.tmod (Dd.db d (0 + Int.toNat (RP.i p)))
  (40 : Int)))),
  Value.int IntKind.i64 (2 : Int), Value.int IntKind.i64 band,
  Value.float FloatKind.f64 0, Value.int IntKind.i64 m,
  Value.bool true, Value.bool true,
  Value.int IntKind.i64 (2 : Int),
  Value.int IntKind.i64
  (Int.tmod (Dd.vi d (0 + Int.toNat (RP.i p)))
  (20 : Int)),
  Value.float FloatKind.f64 0,
  Value.int IntKind.i64
  (IntKind.wrap IntKind.i64 (RP.S p + (1 : Int))),
  Value.slice
  (some (Addr.mk 2 0 (some 1)))
  (RP.len p + 1 - 1) 0]
  true 0),
  some
  (AObj.row true 5 0 (RP.len p + 1) fun i =>
  [Value.int IntKind.i64
  (bif Nat.blt i (RP.len p) then
  RP.qs p (RP.i0 p + (0 + i))
  else IntKind.wrap IntKind.i64 (RP.S p + (1 : Int))),
  Value.int IntKind.i64
  (bif Nat.blt i (RP.len p) then
  RP.qk p (RP.i0 p + (0 + i))
  else (2 : Int)),
  Value.int IntKind.i64
  (bif Nat.blt i (RP.len p) then
  RP.qi p (RP.i0 p + (0 + i))
  else
  Int.tmod (Dd.vi d (0 + Int.toNat (RP.i p)))
  (20 : Int)),
  Value.float FloatKind.f64
  (bif Nat.blt i (RP.len p) then
  RP.qf p (RP.i0 p + (0 + i))
  else 0),
  Value.bool
  (bif Nat.blt i (RP.len p) then
  RP.ql p (RP.i0 p + (0 + i))
  else false)])])))))
  (need (Nat.blt 0 (RP.len p + 1 - 1))
  (need (Nat.blt 1 (RP.len p + 1))
  (br (decide (Int.ofNat (RP.len p + 1 - 1) > m))
  (onP N AX.ret
  (shpB d every far E band m
  (RP.mk (RP.i p) 1 (RP.len p + 1)
  (RP.len p + 1 - 1) 0
  (IntKind.wrap IntKind.i64
  (RP.now p +
  IntKind.wrap IntKind.i64
  (Int.tmod (Dd.db d (0 + Int.toNat (RP.i p)))
  (40 : Int))))
  (RP.last p) (RP.seq p) (RP.lost p)
  (IntKind.wrap IntKind.i64
  (RP.now p +
  IntKind.wrap IntKind.i64
  (Int.tmod (Dd.db d (0 + Int.toNat (RP.i p)))
  (40 : Int))))
  (Int.tmod (Dd.vi d (0 + Int.toNat (RP.i p))) (20 : Int))
  (IntKind.wrap IntKind.i64 (RP.S p + (1 : Int)))
  (fun i =>
  bif Nat.beq i 1 then
  bif Nat.blt 1 (RP.len p) then
  RP.qs p (RP.i0 p + 1)
  else IntKind.wrap IntKind.i64 (RP.S p + (1 : Int))
  else
  bif Nat.blt i (RP.len p) then
  RP.qs p (RP.i0 p + (0 + i))
  else IntKind.wrap IntKind.i64 (RP.S p + (1 : Int)))
  (fun i =>
  bif Nat.beq i 1 then
  bif Nat.blt 1 (RP.len p) then
  RP.qk p (RP.i0 p + 1)
  else (2 : Int)
  else
  bif Nat.blt i (RP.len p) then
  RP.qk p (RP.i0 p + (0 + i))
  else (2 : Int))
  (fun i =>
  bif Nat.beq i 1 then
  bif Nat.blt 1 (RP.len p) then
  RP.qi p (RP.i0 p + 1)
  else
  Int.tmod (Dd.vi d (0 + Int.toNat (RP.i p))) (20 : Int)
  else
  bif Nat.blt i (RP.len p) then
  RP.qi p (RP.i0 p + (0 + i))
  else
  Int.tmod (Dd.vi d (0 + Int.toNat (RP.i p)))
  (20 : Int))
  (fun i =>
  bif Nat.beq i 1 then
  bif Nat.blt 1 (RP.len p) then
  RP.qf p (RP.i0 p + 1)
  else 0
  else
  bif Nat.blt i (RP.len p) then
  RP.qf p (RP.i0 p + (0 + i))
  else 0)
  fun i =>
  bif Nat.beq i 1 then true
  else
  bif Nat.blt i (RP.len p) then RP.ql p (RP.i0 p + (0 + i))
  else false)))
  (br
  (decide
  (IntKind.wrap IntKind.i64
  (RP.now p +
  IntKind.wrap IntKind.i64
  (Int.tmod (Dd.db d (0 + Int.toNat (RP.i p)))
  (40 : Int))) <
  IntKind.wrap IntKind.i64
  (RP.now p +
  IntKind.wrap IntKind.i64
  (Int.tmod (Dd.db d (0 + Int.toNat (RP.i p)))
  (40 : Int)))))
  (onP N AX.ret
  (shpB d every far E band m
  (RP.mk (RP.i p) 1 (RP.len p + 1)
  (RP.len p + 1 - 1) 0
  (IntKind.wrap IntKind.i64
  (RP.now p +
  IntKind.wrap IntKind.i64
  (Int.tmod (Dd.db d (0 + Int.toNat (RP.i p)))
  (40 : Int))))
  (RP.last p) (RP.seq p) (RP.lost p)
  (IntKind.wrap IntKind.i64
  (RP.now p +
  IntKind.wrap IntKind.i64
  (Int.tmod (Dd.db d (0 + Int.toNat (RP.i p)))
  (40 : Int))))
  (Int.tmod (Dd.vi d (0 + Int.toNat (RP.i p))) (20 : Int))
  (IntKind.wrap IntKind.i64 (RP.S p + (1 : Int)))
  (fun i =>
  bif Nat.beq i 1 then
  bif Nat.blt 1 (RP.len p) then
  RP.qs p (RP.i0 p + 1)
  else IntKind.wrap IntKind.i64 (RP.S p + (1 : Int))
  else
  bif Nat.blt i (RP.len p) then
  RP.qs p (RP.i0 p + (0 + i))
  else IntKind.wrap IntKind.i64 (RP.S p + (1 : Int)))
  (fun i =>
  bif Nat.beq i 1 then
  bif Nat.blt 1 (RP.len p) then
  RP.qk p (RP.i0 p + 1)
  else (2 : Int)
  else
  bif Nat.blt i (RP.len p) then
  RP.qk p (RP.i0 p + (0 + i))
  else (2 : Int))
  (fun i =>
  bif Nat.beq i 1 then
  bif Nat.blt 1 (RP.len p) then
  RP.qi p (RP.i0 p + 1)
  else
  Int.tmod (Dd.vi d (0 + Int.toNat (RP.i p)))
  (20 : Int)
  else
  bif Nat.blt i (RP.len p) then
  RP.qi p (RP.i0 p + (0 + i))
  else
  Int.tmod (Dd.vi d (0 + Int.toNat (RP.i p)))
  (20 : Int))
  (fun i =>
  bif Nat.beq i 1 then
  bif Nat.blt 1 (RP.len p) then
  RP.qf p (RP.i0 p + 1)
  else 0
  else
  bif Nat.blt i (RP.len p) then
  RP.qf p (RP.i0 p + (0 + i))
  else 0)
  fun i =>
  bif Nat.beq i 1 then true
  else
  bif Nat.blt i (RP.len p) then
  RP.ql p (RP.i0 p + (0 + i))
  else false)))
  (br (decide (Int.tmod every (30 : Int) > (0 : Int)))
  (br
  (IntKind.wrap IntKind.i64
  (RP.now p +
  IntKind.wrap IntKind.i64
  (Int.tmod (Dd.db d (0 + Int.toNat (RP.i p)))
  (40 : Int))) ==
  IntKind.wrap IntKind.i64
  (RP.now p +
  IntKind.wrap IntKind.i64
  (Int.tmod (Dd.db d (0 + Int.toNat (RP.i p)))
  (40 : Int))))
  (onP N AX.ret
  (shpB d every far E band m
  (RP.mk (RP.i p) 1 (RP.len p + 1)
  (RP.len p + 1 - 1) 0
  (IntKind.wrap IntKind.i64
  (RP.now p +
  IntKind.wrap IntKind.i64
  (Int.tmod (Dd.db d (0 + Int.toNat (RP.i p)))
  (40 : Int))))
  (RP.last p) (RP.seq p) (RP.lost p)
  (IntKind.wrap IntKind.i64
  (RP.now p +
  IntKind.wrap IntKind.i64
  (Int.tmod (Dd.db d (0 + Int.toNat (RP.i p)))
  (40 : Int))))
  (Int.tmod (Dd.vi d (0 + Int.toNat (RP.i p)))
  (20 : Int))
  (IntKind.wrap IntKind.i64 (RP.S p + (1 : Int)))
  (fun i =>
  bif Nat.beq i 1 then
  bif Nat.blt 1 (RP.len p) then
  RP.qs p (RP.i0 p + 1)
  else IntKind.wrap IntKind.i64 (RP.S p + (1 : Int))
  else
  bif Nat.blt i (RP.len p) then
  RP.qs p (RP.i0 p + (0 + i))
  else IntKind.wrap IntKind.i64 (RP.S p + (1 : Int)))
  (fun i =>
  bif Nat.beq i 1 then
  bif Nat.blt 1 (RP.len p) then
  RP.qk p (RP.i0 p + 1)
  else (2 : Int)
  else
  bif Nat.blt i (RP.len p) then
  RP.qk p (RP.i0 p + (0 + i))
  else (2 : Int))
  (fun i =>
  bif Nat.beq i 1 then
  bif Nat.blt 1 (RP.len p) then
  RP.qi p (RP.i0 p + 1)
  else
  Int.tmod (Dd.vi d (0 + Int.toNat (RP.i p)))
  (20 : Int)
  else
  bif Nat.blt i (RP.len p) then
  RP.qi p (RP.i0 p + (0 + i))
  else
  Int.tmod (Dd.vi d (0 + Int.toNat (RP.i p)))
  (20 : Int))
  (fun i =>
  bif Nat.beq i 1 then
  bif Nat.blt 1 (RP.len p) then
  RP.qf p (RP.i0 p + 1)
  else 0
  else
  bif Nat.blt i (RP.len p) then
  RP.qf p (RP.i0 p + (0 + i))
  else 0)
  fun i =>
  bif Nat.beq i 1 then true
  else
  bif Nat.blt i (RP.len p) then
  RP.ql p (RP.i0 p + (0 + i))
  else false)))
  (onP N AX.normal
  (shpB d every far E band m
  (RP.mk (IntKind.wrap IntKind.i64 (RP.i p + (1 : Int))) 1
  (RP.len p + 1) (RP.len p + 1 - 1)
  0
  (IntKind.wrap IntKind.i64
  (RP.now p +
  IntKind.wrap IntKind.i64
  (Int.tmod (Dd.db d (0 + Int.toNat (RP.i p)))
  (40 : Int))))
  (RP.last p) (RP.seq p) (RP.lost p)
  (IntKind.wrap IntKind.i64
  (RP.now p +
  IntKind.wrap IntKind.i64
  (Int.tmod (Dd.db d (0 + Int.toNat (RP.i p)))
  (40 : Int))))
  (Int.tmod (Dd.vi d (0 + Int.toNat (RP.i p)))
  (20 : Int))
  (IntKind.wrap IntKind.i64 (RP.S p + (1 : Int)))
  (fun i =>
  bif Nat.beq i 1 then
  bif Nat.blt 1 (RP.len p) then
  RP.qs p (RP.i0 p + 1)
  else IntKind.wrap IntKind.i64 (RP.S p + (1 : Int))
  else
  bif Nat.blt i (RP.len p) then
  RP.qs p (RP.i0 p + (0 + i))
  else IntKind.wrap IntKind.i64 (RP.S p + (1 : Int)))
  (fun i =>
  bif Nat.beq i 1 then
  bif Nat.blt 1 (RP.len p) then
  RP.qk p (RP.i0 p + 1)
  else (2 : Int)
  else
  bif Nat.blt i (RP.len p) then
  RP.qk p (RP.i0 p + (0 + i))
  else (2 : Int))
  (fun i =>
  bif Nat.beq i 1 then
  bif Nat.blt 1 (RP.len p) then
  RP.qi p (RP.i0 p + 1)
  else
  Int.tmod (Dd.vi d (0 + Int.toNat (RP.i p)))
  (20 : Int)
  else
  bif Nat.blt i (RP.len p) then
  RP.qi p (RP.i0 p + (0 + i))
  else
  Int.tmod (Dd.vi d (0 + Int.toNat (RP.i p)))
  (20 : Int))
  (fun i =>
  bif Nat.beq i 1 then
  bif Nat.blt 1 (RP.len p) then
  RP.qf p (RP.i0 p + 1)
  else 0
  else
  bif Nat.blt i (RP.len p) then
  RP.qf p (RP.i0 p + (0 + i))
  else 0)
  fun i =>
  bif Nat.beq i 1 then true
  else
  bif Nat.blt i (RP.len p) then
  RP.ql p (RP.i0 p + (0 + i))
  else false))))
  (onP N AX.normal
  (shpB d every far E band m
  (RP.mk (IntKind.wrap IntKind.i64 (RP.i p + (1 : Int))) 1
  (RP.len p + 1) (RP.len p + 1 - 1)
  0
  (IntKind.wrap IntKind.i64
  (RP.now p +
  IntKind.wrap IntKind.i64
  (Int.tmod (Dd.db d (0 + Int.toNat (RP.i p)))
  (40 : Int))))
  (RP.last p) (RP.seq p) (RP.lost p)
  (IntKind.wrap IntKind.i64
  (RP.now p +
  IntKind.wrap IntKind.i64
  (Int.tmod (Dd.db d (0 + Int.toNat (RP.i p)))
  (40 : Int))))
  (Int.tmod (Dd.vi d (0 + Int.toNat (RP.i p))) (20 : Int))
  (IntKind.wrap IntKind.i64 (RP.S p + (1 : Int)))
  (fun i =>
  bif Nat.beq i 1 then
  bif Nat.blt 1 (RP.len p) then
  RP.qs p (RP.i0 p + 1)
  else IntKind.wrap IntKind.i64 (RP.S p + (1 : Int))
  else
  bif Nat.blt i (RP.len p) then
  RP.qs p (RP.i0 p + (0 + i))
  else IntKind.wrap IntKind.i64 (RP.S p + (1 : Int)))
  (fun i =>
  bif Nat.beq i 1 then
  bif Nat.blt 1 (RP.len p) then
  RP.qk p (RP.i0 p + 1)
  else (2 : Int)
  else
  bif Nat.blt i (RP.len p) then
  RP.qk p (RP.i0 p + (0 + i))
  else (2 : Int))
  (fun i =>
  bif Nat.beq i 1 then
  bif Nat.blt 1 (RP.len p) then
  RP.qi p (RP.i0 p + 1)
  else
  Int.tmod (Dd.vi d (0 + Int.toNat (RP.i p)))
  (20 : Int)
  else
  bif Nat.blt i (RP.len p) then
  RP.qi p (RP.i0 p + (0 + i))
  else
  Int.tmod (Dd.vi d (0 + Int.toNat (RP.i p)))
  (20 : Int))
  (fun i =>
  bif Nat.beq i 1 then
  bif Nat.blt 1 (RP.len p) then
  RP.qf p (RP.i0 p + 1)
  else 0
  else
  bif Nat.blt i (RP.len p) then
  RP.qf p (RP.i0 p + (0 + i))
  else 0)
  fun i =>
  bif Nat.beq i 1 then true
  else
  bif Nat.blt i (RP.len p) then
  RP.ql p (RP.i0 p + (0 + i))
  else false))))))))))))
  (need (true && !decide (IntKind.wrap IntKind.u64 E = (0 : Int)))
  (need (Nat.ble (RP.len p + 1) 1000000)
  (need (true && Nat.ble (0 + RP.len p) (RP.len p))
  (br (decide (Int.ofNat (RP.len p + 1) ≤ m))
  (br (decide (Int.ofNat (RP.len p + 1) > m))
  (onP N AX.ret
  (shpB d every far E band m
  (RP.mk (RP.i p) 0 (RP.len p + 1) (RP.len p + 1)
  (RP.c p)
  (IntKind.wrap IntKind.i64
  (RP.now p +
  IntKind.wrap IntKind.i64
  (Int.tmod (Dd.db d (0 + Int.toNat (RP.i p))) (40 : Int))))
  (RP.last p) (RP.seq p) (RP.lost p)
  (IntKind.wrap IntKind.i64
  (RP.due p +
  IntKind.wrap IntKind.i64
  (IntKind.wrap IntKind.i64
  (IntKind.wrap IntKind.u64
  (IntKind.wrap IntKind.u64
  (Int.tdiv
  (IntKind.wrap IntKind.u64
  (IntKind.wrap IntKind.u64
  (IntKind.wrap IntKind.i64
  (RP.now p +
  IntKind.wrap IntKind.i64
  (Int.tmod
  (Dd.db d
  (0 + Int.toNat (RP.i p)))
  (40 : Int)))) -
  IntKind.wrap IntKind.u64 (RP.due p)))
  (IntKind.wrap IntKind.u64 E)) +
  (1 : Int))) *
  E)))
  (Int.tmod (Dd.vi d (0 + Int.toNat (RP.i p))) (20 : Int))
  (IntKind.wrap IntKind.i64 (RP.S p + (1 : Int)))
  (fun i =>
  bif Nat.blt i (RP.len p) then RP.qs p (RP.i0 p + (0 + i))
  else IntKind.wrap IntKind.i64 (RP.S p + (1 : Int)))
  (fun i =>
  bif Nat.blt i (RP.len p) then RP.qk p (RP.i0 p + (0 + i))
  else (2 : Int))
  (fun i =>
  bif Nat.blt i (RP.len p) then RP.qi p (RP.i0 p + (0 + i))
  else Int.tmod (Dd.vi d (0 + Int.toNat (RP.i p))) (20 : Int))
  (fun i =>
  bif Nat.blt i (RP.len p) then RP.qf p (RP.i0 p + (0 + i))
  else 0)
  fun i =>
  bif Nat.blt i (RP.len p) then RP.ql p (RP.i0 p + (0 + i))
  else false)))
  (br
  (decide
  (IntKind.wrap IntKind.i64
  (RP.due p +
  IntKind.wrap IntKind.i64
  (IntKind.wrap IntKind.i64
  (IntKind.wrap IntKind.u64
  (IntKind.wrap IntKind.u64
  (Int.tdiv
  (IntKind.wrap IntKind.u64
  (IntKind.wrap IntKind.u64
  (IntKind.wrap IntKind.i64
  (RP.now p +
  IntKind.wrap IntKind.i64
  (Int.tmod
  (Dd.db d
  (0 + Int.toNat (RP.i p)))
  (40 : Int)))) -
  IntKind.wrap IntKind.u64 (RP.due p)))
  (IntKind.wrap IntKind.u64 E)) +
  (1 : Int))) *
  E)) <
  IntKind.wrap IntKind.i64
  (RP.now p +
  IntKind.wrap IntKind.i64
  (Int.tmod (Dd.db d (0 + Int.toNat (RP.i p)))
  (40 : Int)))))
  (onP N AX.ret
  (shpB d every far E band m
  (RP.mk (RP.i p) 0 (RP.len p + 1) (RP.len p + 1)
  (RP.c p)
  (IntKind.wrap IntKind.i64
  (RP.now p +
  IntKind.wrap IntKind.i64
  (Int.tmod (Dd.db d (0 + Int.toNat (RP.i p)))
  (40 : Int))))
  (RP.last p) (RP.seq p) (RP.lost p)
  (IntKind.wrap IntKind.i64
  (RP.due p +
  IntKind.wrap IntKind.i64
  (IntKind.wrap IntKind.i64
  (IntKind.wrap IntKind.u64
  (IntKind.wrap IntKind.u64
  (Int.tdiv
  (IntKind.wrap IntKind.u64
  (IntKind.wrap IntKind.u64
  (IntKind.wrap IntKind.i64
  (RP.now p +
  IntKind.wrap IntKind.i64
  (Int.tmod
  (Dd.db d
  (0 + Int.toNat (RP.i p)))
  (40 : Int)))) -
  IntKind.wrap IntKind.u64 (RP.due p)))
  (IntKind.wrap IntKind.u64 E)) +
  (1 : Int))) *
  E)))
  (Int.tmod (Dd.vi d (0 + Int.toNat (RP.i p))) (20 : Int))
  (IntKind.wrap IntKind.i64 (RP.S p + (1 : Int)))
  (fun i =>
  bif Nat.blt i (RP.len p) then RP.qs p (RP.i0 p + (0 + i))
  else IntKind.wrap IntKind.i64 (RP.S p + (1 : Int)))
  (fun i =>
  bif Nat.blt i (RP.len p) then RP.qk p (RP.i0 p + (0 + i))
  else (2 : Int))
  (fun i =>
  bif Nat.blt i (RP.len p) then RP.qi p (RP.i0 p + (0 + i))
  else Int.tmod (Dd.vi d (0 + Int.toNat (RP.i p))) (20 : Int))
  (fun i =>
  bif Nat.blt i (RP.len p) then RP.qf p (RP.i0 p + (0 + i))
  else 0)
  fun i =>
  bif Nat.blt i (RP.len p) then RP.ql p (RP.i0 p + (0 + i))
  else false)))
  (br (decide (Int.tmod every (30 : Int) > (0 : Int)))
  (br
  (IntKind.wrap IntKind.i64
  (RP.due p +
  IntKind.wrap IntKind.i64
  (IntKind.wrap IntKind.i64
  (IntKind.wrap IntKind.u64
  (IntKind.wrap IntKind.u64
  (Int.tdiv
  (IntKind.wrap IntKind.u64
  (IntKind.wrap IntKind.u64
  (IntKind.wrap IntKind.i64
  (RP.now p +
  IntKind.wrap IntKind.i64
  (Int.tmod
  (Dd.db d
  (0 + Int.toNat (RP.i p)))
  (40 : Int)))) -
  IntKind.wrap IntKind.u64 (RP.due p)))
  (IntKind.wrap IntKind.u64 E)) +
  (1 : Int))) *
  E)) ==
  IntKind.wrap IntKind.i64
  (RP.now p +
  IntKind.wrap IntKind.i64
  (Int.tmod (Dd.db d (0 + Int.toNat (RP.i p)))
  (40 : Int))))
  (onP N AX.ret
  (shpB d every far E band m
  (RP.mk (RP.i p) 0 (RP.len p + 1)
  (RP.len p + 1) (RP.c p)
  (IntKind.wrap IntKind.i64
  (RP.now p +
  IntKind.wrap IntKind.i64
  (Int.tmod (Dd.db d (0 + Int.toNat (RP.i p)))
  (40 : Int))))
  (RP.last p) (RP.seq p) (RP.lost p)
  (IntKind.wrap IntKind.i64
  (RP.due p +
  IntKind.wrap IntKind.i64
  (IntKind.wrap IntKind.i64
  (IntKind.wrap IntKind.u64
  (IntKind.wrap IntKind.u64
  (Int.tdiv
  (IntKind.wrap IntKind.u64
  (IntKind.wrap IntKind.u64
  (IntKind.wrap IntKind.i64
  (RP.now p +
  IntKind.wrap IntKind.i64
  (Int.tmod
  (Dd.db d
  (0 +
  Int.toNat (RP.i p)))
  (40 : Int)))) -
  IntKind.wrap IntKind.u64 (RP.due p)))
  (IntKind.wrap IntKind.u64 E)) +
  (1 : Int))) *
  E)))
  (Int.tmod (Dd.vi d (0 + Int.toNat (RP.i p))) (20 : Int))
  (IntKind.wrap IntKind.i64 (RP.S p + (1 : Int)))
  (fun i =>
  bif Nat.blt i (RP.len p) then
  RP.qs p (RP.i0 p + (0 + i))
  else IntKind.wrap IntKind.i64 (RP.S p + (1 : Int)))
  (fun i =>
  bif Nat.blt i (RP.len p) then
  RP.qk p (RP.i0 p + (0 + i))
  else (2 : Int))
  (fun i =>
  bif Nat.blt i (RP.len p) then
  RP.qi p (RP.i0 p + (0 + i))
  else
  Int.tmod (Dd.vi d (0 + Int.toNat (RP.i p)))
  (20 : Int))
  (fun i =>
  bif Nat.blt i (RP.len p) then
  RP.qf p (RP.i0 p + (0 + i))
  else 0)
  fun i =>
  bif Nat.blt i (RP.len p) then RP.ql p (RP.i0 p + (0 + i))
  else false)))
  (onP N AX.normal
  (shpB d every far E band m
  (RP.mk (IntKind.wrap IntKind.i64 (RP.i p + (1 : Int))) 0
  (RP.len p + 1) (RP.len p + 1) (RP.c p)
  (IntKind.wrap IntKind.i64
  (RP.now p +
  IntKind.wrap IntKind.i64
  (Int.tmod (Dd.db d (0 + Int.toNat (RP.i p)))
  (40 : Int))))
  (RP.last p) (RP.seq p) (RP.lost p)
  (IntKind.wrap IntKind.i64
  (RP.due p +
  IntKind.wrap IntKind.i64
  (IntKind.wrap IntKind.i64
  (IntKind.wrap IntKind.u64
  (IntKind.wrap IntKind.u64
  (Int.tdiv
  (IntKind.wrap IntKind.u64
  (IntKind.wrap IntKind.u64
  (IntKind.wrap IntKind.i64
  (RP.now p +
  IntKind.wrap IntKind.i64
  (Int.tmod
  (Dd.db d
  (0 +
  Int.toNat (RP.i p)))
  (40 : Int)))) -
  IntKind.wrap IntKind.u64 (RP.due p)))
  (IntKind.wrap IntKind.u64 E)) +
  (1 : Int))) *
  E)))
  (Int.tmod (Dd.vi d (0 + Int.toNat (RP.i p))) (20 : Int))
  (IntKind.wrap IntKind.i64 (RP.S p + (1 : Int)))
  (fun i =>
  bif Nat.blt i (RP.len p) then
  RP.qs p (RP.i0 p + (0 + i))
  else IntKind.wrap IntKind.i64 (RP.S p + (1 : Int)))
  (fun i =>
  bif Nat.blt i (RP.len p) then
  RP.qk p (RP.i0 p + (0 + i))
  else (2 : Int))
  (fun i =>
  bif Nat.blt i (RP.len p) then
  RP.qi p (RP.i0 p + (0 + i))
  else
  Int.tmod (Dd.vi d (0 + Int.toNat (RP.i p)))
  (20 : Int))
  (fun i =>
  bif Nat.blt i (RP.len p) then
  RP.qf p (RP.i0 p + (0 + i))
  else 0)
  fun i =>
  bif Nat.blt i (RP.len p) then RP.ql p (RP.i0 p + (0 + i))
  else false))))
  (onP N AX.normal
  (shpB d every far E band m
  (RP.mk (IntKind.wrap IntKind.i64 (RP.i p + (1 : Int))) 0
  (RP.len p + 1) (RP.len p + 1) (RP.c p)
  (IntKind.wrap IntKind.i64
  (RP.now p +
  IntKind.wrap IntKind.i64
  (Int.tmod (Dd.db d (0 + Int.toNat (RP.i p)))
  (40 : Int))))
  (RP.last p) (RP.seq p) (RP.lost p)
  (IntKind.wrap IntKind.i64
  (RP.due p +
  IntKind.wrap IntKind.i64
  (IntKind.wrap IntKind.i64
  (IntKind.wrap IntKind.u64
  (IntKind.wrap IntKind.u64
  (Int.tdiv
  (IntKind.wrap IntKind.u64
  (IntKind.wrap IntKind.u64
  (IntKind.wrap IntKind.i64
  (RP.now p +
  IntKind.wrap IntKind.i64
  (Int.tmod
  (Dd.db d
  (0 + Int.toNat (RP.i p)))
  (40 : Int)))) -
  IntKind.wrap IntKind.u64 (RP.due p)))
  (IntKind.wrap IntKind.u64 E)) +
  (1 : Int))) *
  E)))
  (Int.tmod (Dd.vi d (0 + Int.toNat (RP.i p))) (20 : Int))
  (IntKind.wrap IntKind.i64 (RP.S p + (1 : Int)))
  (fun i =>
  bif Nat.blt i (RP.len p) then RP.qs p (RP.i0 p + (0 + i))
  else IntKind.wrap IntKind.i64 (RP.S p + (1 : Int)))
  (fun i =>
  bif Nat.blt i (RP.len p) then RP.qk p (RP.i0 p + (0 + i))
  else (2 : Int))
  (fun i =>
  bif Nat.blt i (RP.len p) then RP.qi p (RP.i0 p + (0 + i))
  else
  Int.tmod (Dd.vi d (0 + Int.toNat (RP.i p))) (20 : Int))
  (fun i =>
  bif Nat.blt i (RP.len p) then RP.qf p (RP.i0 p + (0 + i))
  else 0)
  fun i =>
  bif Nat.blt i (RP.len p) then RP.ql p (RP.i0 p + (0 + i))
  else false))))))
  (br (Int.ofNat (RP.len p + 1 - 1) == (0 : Int))
  (br (decide (Int.ofNat (RP.len p + 1 - 1) > m))
  (N AX.ret
  (mkF 161
  [(0, Value.int IntKind.u8 every),
  (1, Value.int IntKind.u8 far),
  (3,
  Value.slice (some (Addr.mk 0 0 (some 0)))
  (Dd.n d) (Dd.c d)),
  (9, Value.int IntKind.i64 m),
  (11, Value.pointer (some (Addr.mk 1 0 none))),
  (12,
  Value.int IntKind.i64
  (IntKind.wrap IntKind.i64
  (RP.now p +
  IntKind.wrap IntKind.i64
  (Int.tmod (Dd.db d (0 + Int.toNat (RP.i p)))
  (40 : Int))))),
  (13, Value.int IntKind.i64 (RP.last p)),
  (14, Value.int IntKind.i64 (RP.seq p)),
  (15, Value.bool (RP.lost p)),
  (16, Value.int IntKind.i64 (RP.i p))])
  (mkS
  [some
  (AObj.row false 5 0 (Dd.n d) fun i =>
  [Value.int IntKind.u8 (Dd.dk d i),
  Value.int IntKind.u8 (Dd.db d i),
  Value.int IntKind.i64 (Dd.vk d i),
  Value.int IntKind.i64 (Dd.vi d i),
  Value.float FloatKind.f64 (Dd.vf d i)]),
  some
  (AObj.cells
  [Value.int IntKind.i64 (1 : Int), Value.int IntKind.i64 (0 : Int),
  Value.int IntKind.i64 E,
  Value.int IntKind.i64
  (IntKind.wrap IntKind.i64
  (RP.due p +
  IntKind.wrap IntKind.i64
  (IntKind.wrap IntKind.i64
  (IntKind.wrap IntKind.u64
  (IntKind.wrap IntKind.u64
  (Int.tdiv
  (IntKind.wrap IntKind.u64
  (IntKind.wrap IntKind.u64
  (IntKind.wrap IntKind.i64
  (RP.now p +
  IntKind.wrap IntKind.i64
  (Int.tmod
  (Dd.db d
  (0 +
  Int.toNat (RP.i p)))
  (40 : Int)))) -
  IntKind.wrap IntKind.u64 (RP.due p)))
  (IntKind.wrap IntKind.u64 E)) +
  (1 : Int))) *
  E))),
  Value.int IntKind.i64 (2 : Int), Value.int IntKind.i64 band,
  Value.float FloatKind.f64 0, Value.int IntKind.i64 m,
  Value.bool true, Value.bool true,
  Value.int IntKind.i64 (2 : Int),
  Value.int IntKind.i64
  (Int.tmod (Dd.vi d (0 + Int.toNat (RP.i p)))
  (20 : Int)),
  Value.float FloatKind.f64 0,
  Value.int IntKind.i64
  (IntKind.wrap IntKind.i64 (RP.S p + (1 : Int))),
  Value.slice
  (some (Addr.mk 2 0 (some 1)))
  (RP.len p + 1 - 1) 0]
  true 0),
  some
  (AObj.row true 5 0 (RP.len p + 1) fun i =>
  [Value.int IntKind.i64
  (bif Nat.blt i (RP.len p) then
  RP.qs p (RP.i0 p + (0 + i))
  else IntKind.wrap IntKind.i64 (RP.S p + (1 : Int))),
  Value.int IntKind.i64
  (bif Nat.blt i (RP.len p) then
  RP.qk p (RP.i0 p + (0 + i))
  else (2 : Int)),
  Value.int IntKind.i64
  (bif Nat.blt i (RP.len p) then
  RP.qi p (RP.i0 p + (0 + i))
  else
  Int.tmod (Dd.vi d (0 + Int.toNat (RP.i p)))
  (20 : Int)),
  Value.float FloatKind.f64
  (bif Nat.blt i (RP.len p) then
  RP.qf p (RP.i0 p + (0 + i))
  else 0),
  Value.bool
  (bif Nat.blt i (RP.len p) then
  RP.ql p (RP.i0 p + (0 + i))
  else false)])]))
  (br
  (decide
  (IntKind.wrap IntKind.i64
  (RP.due p +
  IntKind.wrap IntKind.i64
  (IntKind.wrap IntKind.i64
  (IntKind.wrap IntKind.u64
  (IntKind.wrap IntKind.u64
  (Int.tdiv
  (IntKind.wrap IntKind.u64
  (IntKind.wrap IntKind.u64
  (IntKind.wrap IntKind.i64
  (RP.now p +
  IntKind.wrap IntKind.i64
  (Int.tmod
  (Dd.db d
  (0 + Int.toNat (RP.i p)))
  (40 : Int)))) -
  IntKind.wrap IntKind.u64 (RP.due p)))
  (IntKind.wrap IntKind.u64 E)) +
  (1 : Int))) *
  E)) <
  IntKind.wrap IntKind.i64
  (RP.now p +
  IntKind.wrap IntKind.i64
  (Int.tmod (Dd.db d (0 + Int.toNat (RP.i p)))
  (40 : Int)))))
  (N AX.ret
  (mkF 161
  [(0, Value.int IntKind.u8 every),
  (1, Value.int IntKind.u8 far),
  (3,
  Value.slice (some (Addr.mk 0 0 (some 0)))
  (Dd.n d) (Dd.c d)),
  (9, Value.int IntKind.i64 m),
  (11,
  Value.pointer (some (Addr.mk 1 0 none))),
  (12,
  Value.int IntKind.i64
  (IntKind.wrap IntKind.i64
  (RP.now p +
  IntKind.wrap IntKind.i64
  (Int.tmod (Dd.db d (0 + Int.toNat (RP.i p)))
  (40 : Int))))),
  (13, Value.int IntKind.i64 (RP.last p)),
  (14, Value.int IntKind.i64 (RP.seq p)),
  (15, Value.bool (RP.lost p)),
  (16, Value.int IntKind.i64 (RP.i p))])
  (mkS
  [some
  (AObj.row false 5 0 (Dd.n d) fun i =>
  [Value.int IntKind.u8 (Dd.dk d i),
  Value.int IntKind.u8 (Dd.db d i),
  Value.int IntKind.i64 (Dd.vk d i),
  Value.int IntKind.i64 (Dd.vi d i),
  Value.float FloatKind.f64 (Dd.vf d i)]),
  some
  (AObj.cells
  [Value.int IntKind.i64 (1 : Int),
  Value.int IntKind.i64 (0 : Int), Value.int IntKind.i64 E,
  Value.int IntKind.i64
  (IntKind.wrap IntKind.i64
  (RP.due p +
  IntKind.wrap IntKind.i64
  (IntKind.wrap IntKind.i64
  (IntKind.wrap IntKind.u64
  (IntKind.wrap IntKind.u64
  (Int.tdiv
  (IntKind.wrap IntKind.u64
  (IntKind.wrap IntKind.u64
  (IntKind.wrap IntKind.i64
  (RP.now p +
  IntKind.wrap IntKind.i64
  (Int.tmod
  (Dd.db d
  (0 +
  Int.toNat (RP.i p)))
  (40 : Int)))) -
  IntKind.wrap IntKind.u64 (RP.due p)))
  (IntKind.wrap IntKind.u64 E)) +
  (1 : Int))) *
  E))),
  Value.int IntKind.i64 (2 : Int), Value.int IntKind.i64 band,
  Value.float FloatKind.f64 0, Value.int IntKind.i64 m,
  Value.bool true, Value.bool true,
  Value.int IntKind.i64 (2 : Int),
  Value.int IntKind.i64
  (Int.tmod (Dd.vi d (0 + Int.toNat (RP.i p)))
  (20 : Int)),
  Value.float FloatKind.f64 0,
  Value.int IntKind.i64
  (IntKind.wrap IntKind.i64 (RP.S p + (1 : Int))),
  Value.slice
  (some (Addr.mk 2 0 (some 1)))
  (RP.len p + 1 - 1) 0]
  true 0),
  some
  (AObj.row true 5 0 (RP.len p + 1) fun i =>
  [Value.int IntKind.i64
  (bif Nat.blt i (RP.len p) then
  RP.qs p (RP.i0 p + (0 + i))
  else IntKind.wrap IntKind.i64 (RP.S p + (1 : Int))),
  Value.int IntKind.i64
  (bif Nat.blt i (RP.len p) then
  RP.qk p (RP.i0 p + (0 + i))
  else (2 : Int)),
  Value.int IntKind.i64
  (bif Nat.blt i (RP.len p) then
  RP.qi p (RP.i0 p + (0 + i))
  else
  Int.tmod (Dd.vi d (0 + Int.toNat (RP.i p)))
  (20 : Int)),
  Value.float FloatKind.f64
  (bif Nat.blt i (RP.len p) then
  RP.qf p (RP.i0 p + (0 + i))
  else 0),
  Value.bool
  (bif Nat.blt i (RP.len p) then
  RP.ql p (RP.i0 p + (0 + i))
  else false)])]))
  (br (decide (Int.tmod every (30 : Int) > (0 : Int)))
  (br
  (IntKind.wrap IntKind.i64
  (RP.due p +
  IntKind.wrap IntKind.i64
  (IntKind.wrap IntKind.i64
  (IntKind.wrap IntKind.u64
  (IntKind.wrap IntKind.u64
  (Int.tdiv
  (IntKind.wrap IntKind.u64
  (IntKind.wrap IntKind.u64
  (IntKind.wrap IntKind.i64
  (RP.now p +
  IntKind.wrap IntKind.i64
  (Int.tmod
  (Dd.db d
  (0 + Int.toNat (RP.i p)))
  (40 : Int)))) -
  IntKind.wrap IntKind.u64 (RP.due p)))
  (IntKind.wrap IntKind.u64 E)) +
  (1 : Int))) *
  E)) ==
  IntKind.wrap IntKind.i64
  (RP.now p +
  IntKind.wrap IntKind.i64
  (Int.tmod (Dd.db d (0 + Int.toNat (RP.i p)))
  (40 : Int))))
  (N AX.ret
  (mkF 161
  [(0, Value.int IntKind.u8 every),
  (1, Value.int IntKind.u8 far),
  (3,
  Value.slice
  (some (Addr.mk 0 0 (some 0)))
  (Dd.n d) (Dd.c d)),
  (9, Value.int IntKind.i64 m),
  (11,
  Value.pointer (some (Addr.mk 1 0 none))),
  (12,
  Value.int IntKind.i64
  (IntKind.wrap IntKind.i64
  (RP.now p +
  IntKind.wrap IntKind.i64
  (Int.tmod (Dd.db d (0 + Int.toNat (RP.i p)))
  (40 : Int))))),
  (13, Value.int IntKind.i64 (RP.last p)),
  (14, Value.int IntKind.i64 (RP.seq p)),
  (15, Value.bool (RP.lost p)),
  (16, Value.int IntKind.i64 (RP.i p))])
  (mkS
  [some
  (AObj.row false 5 0 (Dd.n d) fun i =>
  [Value.int IntKind.u8 (Dd.dk d i),
  Value.int IntKind.u8 (Dd.db d i),
  Value.int IntKind.i64 (Dd.vk d i),
  Value.int IntKind.i64 (Dd.vi d i),
  Value.float FloatKind.f64 (Dd.vf d i)]),
  some
  (AObj.cells
  [Value.int IntKind.i64 (1 : Int),
  Value.int IntKind.i64 (0 : Int), Value.int IntKind.i64 E,
  Value.int IntKind.i64
  (IntKind.wrap IntKind.i64
  (RP.due p +
  IntKind.wrap IntKind.i64
  (IntKind.wrap IntKind.i64
  (IntKind.wrap IntKind.u64
  (IntKind.wrap IntKind.u64
  (Int.tdiv
  (IntKind.wrap IntKind.u64
  (IntKind.wrap IntKind.u64
  (IntKind.wrap IntKind.i64
  (RP.now p +
  IntKind.wrap IntKind.i64
  (Int.tmod
  (Dd.db d
  (0 +
  Int.toNat (RP.i p)))
  (40 : Int)))) -
  IntKind.wrap IntKind.u64
  (RP.due p)))
  (IntKind.wrap IntKind.u64 E)) +
  (1 : Int))) *
  E))),
  Value.int IntKind.i64 (2 : Int),
  Value.int IntKind.i64 band,
  Value.float FloatKind.f64 0,
  Value.int IntKind.i64 m, Value.bool true, Value.bool true,
  Value.int IntKind.i64 (2 : Int),
  Value.int IntKind.i64
  (Int.tmod (Dd.vi d (0 + Int.toNat (RP.i p)))
  (20 : Int)),
  Value.float FloatKind.f64 0,
  Value.int IntKind.i64
  (IntKind.wrap IntKind.i64 (RP.S p + (1 : Int))),
  Value.slice
  (some (Addr.mk 2 0 (some 1)))
  (RP.len p + 1 - 1) 0]
  true 0),
  some
  (AObj.row true 5 0 (RP.len p + 1)
  fun i =>
  [Value.int IntKind.i64
  (bif Nat.blt i (RP.len p) then
  RP.qs p (RP.i0 p + (0 + i))
  else IntKind.wrap IntKind.i64 (RP.S p + (1 : Int))),
  Value.int IntKind.i64
  (bif Nat.blt i (RP.len p) then
  RP.qk p (RP.i0 p + (0 + i))
  else (2 : Int)),
  Value.int IntKind.i64
  (bif Nat.blt i (RP.len p) then
  RP.qi p (RP.i0 p + (0 + i))
  else
  Int.tmod (Dd.vi d (0 + Int.toNat (RP.i p)))
  (20 : Int)),
  Value.float FloatKind.f64
  (bif Nat.blt i (RP.len p) then
  RP.qf p (RP.i0 p + (0 + i))
  else 0),
  Value.bool
  (bif Nat.blt i (RP.len p) then
  RP.ql p (RP.i0 p + (0 + i))
  else false)])]))
  (N AX.normal
  (mkF 161
  [(0, Value.int IntKind.u8 every),
  (1, Value.int IntKind.u8 far),
  (3,
  Value.slice
  (some (Addr.mk 0 0 (some 0)))
  (Dd.n d) (Dd.c d)),
  (9, Value.int IntKind.i64 m),
  (11,
  Value.pointer (some (Addr.mk 1 0 none))),
  (12,
  Value.int IntKind.i64
  (IntKind.wrap IntKind.i64
  (RP.now p +
  IntKind.wrap IntKind.i64
  (Int.tmod (Dd.db d (0 + Int.toNat (RP.i p)))
  (40 : Int))))),
  (13, Value.int IntKind.i64 (RP.last p)),
  (14, Value.int IntKind.i64 (RP.seq p)),
  (15, Value.bool (RP.lost p)),
  (16,
  Value.int IntKind.i64
  (IntKind.wrap IntKind.i64 (RP.i p + (1 : Int))))])
  (mkS
  [some
  (AObj.row false 5 0 (Dd.n d) fun i =>
  [Value.int IntKind.u8 (Dd.dk d i),
  Value.int IntKind.u8 (Dd.db d i),
  Value.int IntKind.i64 (Dd.vk d i),
  Value.int IntKind.i64 (Dd.vi d i),
  Value.float FloatKind.f64 (Dd.vf d i)]),
  some
  (AObj.cells
  [Value.int IntKind.i64 (1 : Int),
  Value.int IntKind.i64 (0 : Int), Value.int IntKind.i64 E,
  Value.int IntKind.i64
  (IntKind.wrap IntKind.i64
  (RP.due p +
  IntKind.wrap IntKind.i64
  (IntKind.wrap IntKind.i64
  (IntKind.wrap IntKind.u64
  (IntKind.wrap IntKind.u64
  (Int.tdiv
  (IntKind.wrap IntKind.u64
  (IntKind.wrap IntKind.u64
  (IntKind.wrap IntKind.i64
  (RP.now p +
  IntKind.wrap IntKind.i64
  (Int.tmod
  (Dd.db d
  (0 +
  Int.toNat (RP.i p)))
  (40 : Int)))) -
  IntKind.wrap IntKind.u64
  (RP.due p)))
  (IntKind.wrap IntKind.u64 E)) +
  (1 : Int))) *
  E))),
  Value.int IntKind.i64 (2 : Int),
  Value.int IntKind.i64 band,
  Value.float FloatKind.f64 0,
  Value.int IntKind.i64 m, Value.bool true, Value.bool true,
  Value.int IntKind.i64 (2 : Int),
  Value.int IntKind.i64
  (Int.tmod (Dd.vi d (0 + Int.toNat (RP.i p)))
  (20 : Int)),
  Value.float FloatKind.f64 0,
  Value.int IntKind.i64
  (IntKind.wrap IntKind.i64 (RP.S p + (1 : Int))),
  Value.slice
  (some (Addr.mk 2 0 (some 1)))
  (RP.len p + 1 - 1) 0]
  true 0),
  some
  (AObj.row true 5 0 (RP.len p + 1)
  fun i =>
  [Value.int IntKind.i64
  (bif Nat.blt i (RP.len p) then
  RP.qs p (RP.i0 p + (0 + i))
  else IntKind.wrap IntKind.i64 (RP.S p + (1 : Int))),
  Value.int IntKind.i64
  (bif Nat.blt i (RP.len p) then
  RP.qk p (RP.i0 p + (0 + i))
  else (2 : Int)),
  Value.int IntKind.i64
  (bif Nat.blt i (RP.len p) then
  RP.qi p (RP.i0 p + (0 + i))
  else
  Int.tmod (Dd.vi d (0 + Int.toNat (RP.i p)))
  (20 : Int)),
  Value.float FloatKind.f64
  (bif Nat.blt i (RP.len p) then
  RP.qf p (RP.i0 p + (0 + i))
  else 0),
  Value.bool
  (bif Nat.blt i (RP.len p) then
  RP.ql p (RP.i0 p + (0 + i))
  else false)])])))
  (N AX.normal
  (mkF 161
  [(0, Value.int IntKind.u8 every),
  (1, Value.int IntKind.u8 far),
  (3,
  Value.slice
  (some (Addr.mk 0 0 (some 0))) (Dd.n d)
  (Dd.c d)),
  (9, Value.int IntKind.i64 m),
  (11,
  Value.pointer (some (Addr.mk 1 0 none))),
  (12,
  Value.int IntKind.i64
  (IntKind.wrap IntKind.i64
  (RP.now p +
  IntKind.wrap IntKind.i64
  (Int.tmod (Dd.db d (0 + Int.toNat (RP.i p)))
  (40 : Int))))),
  (13, Value.int IntKind.i64 (RP.last p)),
  (14, Value.int IntKind.i64 (RP.seq p)),
  (15, Value.bool (RP.lost p)),
  (16,
  Value.int IntKind.i64
  (IntKind.wrap IntKind.i64 (RP.i p + (1 : Int))))])
  (mkS
  [some
  (AObj.row false 5 0 (Dd.n d) fun i =>
  [Value.int IntKind.u8 (Dd.dk d i),
  Value.int IntKind.u8 (Dd.db d i),
  Value.int IntKind.i64 (Dd.vk d i),
  Value.int IntKind.i64 (Dd.vi d i),
  Value.float FloatKind.f64 (Dd.vf d i)]),
  some
  (AObj.cells
  [Value.int IntKind.i64 (1 : Int),
  Value.int IntKind.i64 (0 : Int), Value.int IntKind.i64 E,
  Value.int IntKind.i64
  (IntKind.wrap IntKind.i64
  (RP.due p +
  IntKind.wrap IntKind.i64
  (IntKind.wrap IntKind.i64
  (IntKind.wrap IntKind.u64
  (IntKind.wrap IntKind.u64
  (Int.tdiv
  (IntKind.wrap IntKind.u64
  (IntKind.wrap IntKind.u64
  (IntKind.wrap IntKind.i64
  (RP.now p +
  IntKind.wrap IntKind.i64
  (Int.tmod
  (Dd.db d
  (0 +
  Int.toNat (RP.i p)))
  (40 : Int)))) -
  IntKind.wrap IntKind.u64
  (RP.due p)))
  (IntKind.wrap IntKind.u64 E)) +
  (1 : Int))) *
  E))),
  Value.int IntKind.i64 (2 : Int), Value.int IntKind.i64 band,
  Value.float FloatKind.f64 0,
  Value.int IntKind.i64 m, Value.bool true, Value.bool true,
  Value.int IntKind.i64 (2 : Int),
  Value.int IntKind.i64
  (Int.tmod (Dd.vi d (0 + Int.toNat (RP.i p)))
  (20 : Int)),
  Value.float FloatKind.f64 0,
  Value.int IntKind.i64
  (IntKind.wrap IntKind.i64 (RP.S p + (1 : Int))),
  Value.slice
  (some (Addr.mk 2 0 (some 1)))
  (RP.len p + 1 - 1) 0]
  true 0),
  some
  (AObj.row true 5 0 (RP.len p + 1)
  fun i =>
  [Value.int IntKind.i64
  (bif Nat.blt i (RP.len p) then
  RP.qs p (RP.i0 p + (0 + i))
  else IntKind.wrap IntKind.i64 (RP.S p + (1 : Int))),
  Value.int IntKind.i64
  (bif Nat.blt i (RP.len p) then
  RP.qk p (RP.i0 p + (0 + i))
  else (2 : Int)),
  Value.int IntKind.i64
  (bif Nat.blt i (RP.len p) then
  RP.qi p (RP.i0 p + (0 + i))
  else
  Int.tmod (Dd.vi d (0 + Int.toNat (RP.i p)))
  (20 : Int)),
  Value.float FloatKind.f64
  (bif Nat.blt i (RP.len p) then
  RP.qf p (RP.i0 p + (0 + i))
  else 0),
  Value.bool
  (bif Nat.blt i (RP.len p) then
  RP.ql p (RP.i0 p + (0 + i))
  else false)])])))))
  (need (Nat.blt 0 (RP.len p + 1 - 1))
  (need (Nat.blt 1 (RP.len p + 1))
  (br (decide (Int.ofNat (RP.len p + 1 - 1) > m))
  (onP N AX.ret
  (shpB d every far E band m
  (RP.mk (RP.i p) 1 (RP.len p + 1)
  (RP.len p + 1 - 1) 0
  (IntKind.wrap IntKind.i64
  (RP.now p +
  IntKind.wrap IntKind.i64
  (Int.tmod (Dd.db d (0 + Int.toNat (RP.i p)))
  (40 : Int))))
  (RP.last p) (RP.seq p) (RP.lost p)
  (IntKind.wrap IntKind.i64
  (RP.due p +
  IntKind.wrap IntKind.i64
  (IntKind.wrap IntKind.i64
  (IntKind.wrap IntKind.u64
  (IntKind.wrap IntKind.u64
  (Int.tdiv
  (IntKind.wrap IntKind.u64
  (IntKind.wrap IntKind.u64
  (IntKind.wrap IntKind.i64
  (RP.now p +
  IntKind.wrap IntKind.i64
  (Int.tmod
  (Dd.db d
  (0 +
  Int.toNat (RP.i p)))
  (40 : Int)))) -
  IntKind.wrap IntKind.u64 (RP.due p)))
  (IntKind.wrap IntKind.u64 E)) +
  (1 : Int))) *
  E)))
  (Int.tmod (Dd.vi d (0 + Int.toNat (RP.i p))) (20 : Int))
  (IntKind.wrap IntKind.i64 (RP.S p + (1 : Int)))
  (fun i =>
  bif Nat.beq i 1 then
  bif Nat.blt 1 (RP.len p) then
  RP.qs p (RP.i0 p + 1)
  else IntKind.wrap IntKind.i64 (RP.S p + (1 : Int))
  else
  bif Nat.blt i (RP.len p) then
  RP.qs p (RP.i0 p + (0 + i))
  else IntKind.wrap IntKind.i64 (RP.S p + (1 : Int)))
  (fun i =>
  bif Nat.beq i 1 then
  bif Nat.blt 1 (RP.len p) then
  RP.qk p (RP.i0 p + 1)
  else (2 : Int)
  else
  bif Nat.blt i (RP.len p) then
  RP.qk p (RP.i0 p + (0 + i))
  else (2 : Int))
  (fun i =>
  bif Nat.beq i 1 then
  bif Nat.blt 1 (RP.len p) then
  RP.qi p (RP.i0 p + 1)
  else
  Int.tmod (Dd.vi d (0 + Int.toNat (RP.i p)))
  (20 : Int)
  else
  bif Nat.blt i (RP.len p) then
  RP.qi p (RP.i0 p + (0 + i))
  else
  Int.tmod (Dd.vi d (0 + Int.toNat (RP.i p)))
  (20 : Int))
  (fun i =>
  bif Nat.beq i 1 then
  bif Nat.blt 1 (RP.len p) then
  RP.qf p (RP.i0 p + 1)
  else 0
  else
  bif Nat.blt i (RP.len p) then
  RP.qf p (RP.i0 p + (0 + i))
  else 0)
  fun i =>
  bif Nat.beq i 1 then true
  else
  bif Nat.blt i (RP.len p) then
  RP.ql p (RP.i0 p + (0 + i))
  else false)))
  (br
  (decide
  (IntKind.wrap IntKind.i64
  (RP.due p +
  IntKind.wrap IntKind.i64
  (IntKind.wrap IntKind.i64
  (IntKind.wrap IntKind.u64
  (IntKind.wrap IntKind.u64
  (Int.tdiv
  (IntKind.wrap IntKind.u64
  (IntKind.wrap IntKind.u64
  (IntKind.wrap IntKind.i64
  (RP.now p +
  IntKind.wrap IntKind.i64
  (Int.tmod
  (Dd.db d
  (0 +
  Int.toNat (RP.i p)))
  (40 : Int)))) -
  IntKind.wrap IntKind.u64 (RP.due p)))
  (IntKind.wrap IntKind.u64 E)) +
  (1 : Int))) *
  E)) <
  IntKind.wrap IntKind.i64
  (RP.now p +
  IntKind.wrap IntKind.i64
  (Int.tmod (Dd.db d (0 + Int.toNat (RP.i p)))
  (40 : Int)))))
  (onP N AX.ret
  (shpB d every far E band m
  (RP.mk (RP.i p) 1 (RP.len p + 1)
  (RP.len p + 1 - 1) 0
  (IntKind.wrap IntKind.i64
  (RP.now p +
  IntKind.wrap IntKind.i64
  (Int.tmod (Dd.db d (0 + Int.toNat (RP.i p)))
  (40 : Int))))
  (RP.last p) (RP.seq p) (RP.lost p)
  (IntKind.wrap IntKind.i64
  (RP.due p +
  IntKind.wrap IntKind.i64
  (IntKind.wrap IntKind.i64
  (IntKind.wrap IntKind.u64
  (IntKind.wrap IntKind.u64
  (Int.tdiv
  (IntKind.wrap IntKind.u64
  (IntKind.wrap IntKind.u64
  (IntKind.wrap IntKind.i64
  (RP.now p +
  IntKind.wrap IntKind.i64
  (Int.tmod
  (Dd.db d
  (0 +
  Int.toNat (RP.i p)))
  (40 : Int)))) -
  IntKind.wrap IntKind.u64 (RP.due p)))
  (IntKind.wrap IntKind.u64 E)) +
  (1 : Int))) *
  E)))
  (Int.tmod (Dd.vi d (0 + Int.toNat (RP.i p))) (20 : Int))
  (IntKind.wrap IntKind.i64 (RP.S p + (1 : Int)))
  (fun i =>
  bif Nat.beq i 1 then
  bif Nat.blt 1 (RP.len p) then
  RP.qs p (RP.i0 p + 1)
  else IntKind.wrap IntKind.i64 (RP.S p + (1 : Int))
  else
  bif Nat.blt i (RP.len p) then
  RP.qs p (RP.i0 p + (0 + i))
  else IntKind.wrap IntKind.i64 (RP.S p + (1 : Int)))
  (fun i =>
  bif Nat.beq i 1 then
  bif Nat.blt 1 (RP.len p) then
  RP.qk p (RP.i0 p + 1)
  else (2 : Int)
  else
  bif Nat.blt i (RP.len p) then
  RP.qk p (RP.i0 p + (0 + i))
  else (2 : Int))
  (fun i =>
  bif Nat.beq i 1 then
  bif Nat.blt 1 (RP.len p) then
  RP.qi p (RP.i0 p + 1)
  else
  Int.tmod (Dd.vi d (0 + Int.toNat (RP.i p)))
  (20 : Int)
  else
  bif Nat.blt i (RP.len p) then
  RP.qi p (RP.i0 p + (0 + i))
  else
  Int.tmod (Dd.vi d (0 + Int.toNat (RP.i p)))
  (20 : Int))
  (fun i =>
  bif Nat.beq i 1 then
  bif Nat.blt 1 (RP.len p) then
  RP.qf p (RP.i0 p + 1)
  else 0
  else
  bif Nat.blt i (RP.len p) then
  RP.qf p (RP.i0 p + (0 + i))
  else 0)
  fun i =>
  bif Nat.beq i 1 then true
  else
  bif Nat.blt i (RP.len p) then
  RP.ql p (RP.i0 p + (0 + i))
  else false)))
  (br (decide (Int.tmod every (30 : Int) > (0 : Int)))
  (br
  (IntKind.wrap IntKind.i64
  (RP.due p +
  IntKind.wrap IntKind.i64
  (IntKind.wrap IntKind.i64
  (IntKind.wrap IntKind.u64
  (IntKind.wrap IntKind.u64
  (Int.tdiv
  (IntKind.wrap IntKind.u64
  (IntKind.wrap IntKind.u64
  (IntKind.wrap IntKind.i64
  (RP.now p +
  IntKind.wrap IntKind.i64
  (Int.tmod
  (Dd.db d
  (0 +
  Int.toNat (RP.i p)))
  (40 : Int)))) -
  IntKind.wrap IntKind.u64 (RP.due p)))
  (IntKind.wrap IntKind.u64 E)) +
  (1 : Int))) *
  E)) ==
  IntKind.wrap IntKind.i64
  (RP.now p +
  IntKind.wrap IntKind.i64
  (Int.tmod (Dd.db d (0 + Int.toNat (RP.i p)))
  (40 : Int))))
  (onP N AX.ret
  (shpB d every far E band m
  (RP.mk (RP.i p) 1 (RP.len p + 1)
  (RP.len p + 1 - 1) 0
  (IntKind.wrap IntKind.i64
  (RP.now p +
  IntKind.wrap IntKind.i64
  (Int.tmod (Dd.db d (0 + Int.toNat (RP.i p)))
  (40 : Int))))
  (RP.last p) (RP.seq p) (RP.lost p)
  (IntKind.wrap IntKind.i64
  (RP.due p +
  IntKind.wrap IntKind.i64
  (IntKind.wrap IntKind.i64
  (IntKind.wrap IntKind.u64
  (IntKind.wrap IntKind.u64
  (Int.tdiv
  (IntKind.wrap IntKind.u64
  (IntKind.wrap IntKind.u64
  (IntKind.wrap IntKind.i64
  (RP.now p +
  IntKind.wrap IntKind.i64
  (Int.tmod
  (Dd.db d
  (0 +
  Int.toNat (RP.i p)))
  (40 : Int)))) -
  IntKind.wrap IntKind.u64 (RP.due p)))
  (IntKind.wrap IntKind.u64 E)) +
  (1 : Int))) *
  E)))
  (Int.tmod (Dd.vi d (0 + Int.toNat (RP.i p)))
  (20 : Int))
  (IntKind.wrap IntKind.i64 (RP.S p + (1 : Int)))
  (fun i =>
  bif Nat.beq i 1 then
  bif Nat.blt 1 (RP.len p) then
  RP.qs p (RP.i0 p + 1)
  else IntKind.wrap IntKind.i64 (RP.S p + (1 : Int))
  else
  bif Nat.blt i (RP.len p) then
  RP.qs p (RP.i0 p + (0 + i))
  else IntKind.wrap IntKind.i64 (RP.S p + (1 : Int)))
  (fun i =>
  bif Nat.beq i 1 then
  bif Nat.blt 1 (RP.len p) then
  RP.qk p (RP.i0 p + 1)
  else (2 : Int)
  else
  bif Nat.blt i (RP.len p) then
  RP.qk p (RP.i0 p + (0 + i))
  else (2 : Int))
  (fun i =>
  bif Nat.beq i 1 then
  bif Nat.blt 1 (RP.len p) then
  RP.qi p (RP.i0 p + 1)
  else
  Int.tmod (Dd.vi d (0 + Int.toNat (RP.i p)))
  (20 : Int)
  else
  bif Nat.blt i (RP.len p) then
  RP.qi p (RP.i0 p + (0 + i))
  else
  Int.tmod (Dd.vi d (0 + Int.toNat (RP.i p)))
  (20 : Int))
  (fun i =>
  bif Nat.beq i 1 then
  bif Nat.blt 1 (RP.len p) then
  RP.qf p (RP.i0 p + 1)
  else 0
  else
  bif Nat.blt i (RP.len p) then
  RP.qf p (RP.i0 p + (0 + i))
  else 0)
  fun i =>
  bif Nat.beq i 1 then true
  else
  bif Nat.blt i (RP.len p) then
  RP.ql p (RP.i0 p + (0 + i))
  else false)))
  (onP N AX.normal
  (shpB d every far E band m
  (RP.mk (IntKind.wrap IntKind.i64 (RP.i p + (1 : Int)))
  1 (RP.len p + 1)
  (RP.len p + 1 - 1) 0
  (IntKind.wrap IntKind.i64
  (RP.now p +
  IntKind.wrap IntKind.i64
  (Int.tmod (Dd.db d (0 + Int.toNat (RP.i p)))
  (40 : Int))))
  (RP.last p) (RP.seq p) (RP.lost p)
  (IntKind.wrap IntKind.i64
  (RP.due p +
  IntKind.wrap IntKind.i64
  (IntKind.wrap IntKind.i64
  (IntKind.wrap IntKind.u64
  (IntKind.wrap IntKind.u64
  (Int.tdiv
  (IntKind.wrap IntKind.u64
  (IntKind.wrap IntKind.u64
  (IntKind.wrap IntKind.i64
  (RP.now p +
  IntKind.wrap IntKind.i64
  (Int.tmod
  (Dd.db d
  (0 +
  Int.toNat (RP.i p)))
  (40 : Int)))) -
  IntKind.wrap IntKind.u64 (RP.due p)))
  (IntKind.wrap IntKind.u64 E)) +
  (1 : Int))) *
  E)))
  (Int.tmod (Dd.vi d (0 + Int.toNat (RP.i p)))
  (20 : Int))
  (IntKind.wrap IntKind.i64 (RP.S p + (1 : Int)))
  (fun i =>
  bif Nat.beq i 1 then
  bif Nat.blt 1 (RP.len p) then
  RP.qs p (RP.i0 p + 1)
  else IntKind.wrap IntKind.i64 (RP.S p + (1 : Int))
  else
  bif Nat.blt i (RP.len p) then
  RP.qs p (RP.i0 p + (0 + i))
  else IntKind.wrap IntKind.i64 (RP.S p + (1 : Int)))
  (fun i =>
  bif Nat.beq i 1 then
  bif Nat.blt 1 (RP.len p) then
  RP.qk p (RP.i0 p + 1)
  else (2 : Int)
  else
  bif Nat.blt i (RP.len p) then
  RP.qk p (RP.i0 p + (0 + i))
  else (2 : Int))
  (fun i =>
  bif Nat.beq i 1 then
  bif Nat.blt 1 (RP.len p) then
  RP.qi p (RP.i0 p + 1)
  else
  Int.tmod (Dd.vi d (0 + Int.toNat (RP.i p)))
  (20 : Int)
  else
  bif Nat.blt i (RP.len p) then
  RP.qi p (RP.i0 p + (0 + i))
  else
  Int.tmod (Dd.vi d (0 + Int.toNat (RP.i p)))
  (20 : Int))
  (fun i =>
  bif Nat.beq i 1 then
  bif Nat.blt 1 (RP.len p) then
  RP.qf p (RP.i0 p + 1)
  else 0
  else
  bif Nat.blt i (RP.len p) then
  RP.qf p (RP.i0 p + (0 + i))
  else 0)
  fun i =>
  bif Nat.beq i 1 then true
  else
  bif Nat.blt i (RP.len p) then
  RP.ql p (RP.i0 p + (0 + i))
  else false))))
  (onP N AX.normal
  (shpB d every far E band m
  (RP.mk (IntKind.wrap IntKind.i64 (RP.i p + (1 : Int))) 1
  (RP.len p + 1) (RP.len p + 1 - 1)
  0
  (IntKind.wrap IntKind.i64
  (RP.now p +
  IntKind.wrap IntKind.i64
  (Int.tmod (Dd.db d (0 + Int.toNat (RP.i p)))
  (40 : Int))))
  (RP.last p) (RP.seq p) (RP.lost p)
  (IntKind.wrap IntKind.i64
  (RP.due p +
  IntKind.wrap IntKind.i64
  (IntKind.wrap IntKind.i64
  (IntKind.wrap IntKind.u64
  (IntKind.wrap IntKind.u64
  (Int.tdiv
  (IntKind.wrap IntKind.u64
  (IntKind.wrap IntKind.u64
  (IntKind.wrap IntKind.i64
  (RP.now p +
  IntKind.wrap IntKind.i64
  (Int.tmod
  (Dd.db d
  (0 +
  Int.toNat (RP.i p)))
  (40 : Int)))) -
  IntKind.wrap IntKind.u64 (RP.due p)))
  (IntKind.wrap IntKind.u64 E)) +
  (1 : Int))) *
  E)))
  (Int.tmod (Dd.vi d (0 + Int.toNat (RP.i p)))
  (20 : Int))
  (IntKind.wrap IntKind.i64 (RP.S p + (1 : Int)))
  (fun i =>
  bif Nat.beq i 1 then
  bif Nat.blt 1 (RP.len p) then
  RP.qs p (RP.i0 p + 1)
  else IntKind.wrap IntKind.i64 (RP.S p + (1 : Int))
  else
  bif Nat.blt i (RP.len p) then
  RP.qs p (RP.i0 p + (0 + i))
  else IntKind.wrap IntKind.i64 (RP.S p + (1 : Int)))
  (fun i =>
  bif Nat.beq i 1 then
  bif Nat.blt 1 (RP.len p) then
  RP.qk p (RP.i0 p + 1)
  else (2 : Int)
  else
  bif Nat.blt i (RP.len p) then
  RP.qk p (RP.i0 p + (0 + i))
  else (2 : Int))
  (fun i =>
  bif Nat.beq i 1 then
  bif Nat.blt 1 (RP.len p) then
  RP.qi p (RP.i0 p + 1)
  else
  Int.tmod (Dd.vi d (0 + Int.toNat (RP.i p)))
  (20 : Int)
  else
  bif Nat.blt i (RP.len p) then
  RP.qi p (RP.i0 p + (0 + i))
  else
  Int.tmod (Dd.vi d (0 + Int.toNat (RP.i p)))
  (20 : Int))
  (fun i =>
  bif Nat.beq i 1 then
  bif Nat.blt 1 (RP.len p) then
  RP.qf p (RP.i0 p + 1)
  else 0
  else
  bif Nat.blt i (RP.len p) then
  RP.qf p (RP.i0 p + (0 + i))
  else 0)
  fun i =>
  bif Nat.beq i 1 then true
  else
  bif Nat.blt i (RP.len p) then
  RP.ql p (RP.i0 p + (0 + i))
  else false)))))))))))))))))))))
  (need (Nat.ble 0 (RP.i0 p) && Nat.ble (RP.i0 p + RP.len p) (RP.nn p))
  (need (Nat.ble (RP.len p) 1000000)
  (need
  (allS (RP.len p) fun j =>
  (fun i =>
  [Value.int IntKind.i64 (RP.qs p i), Value.int IntKind.i64 (RP.qk p i),
  Value.int IntKind.i64 (RP.qi p i), Value.float FloatKind.f64 (RP.qf p i),
  Value.bool (RP.ql p i)])
  (RP.i0 p + j))
  (br (Int.ofNat (RP.len p) == (0 : Int))
  (onP N AX.normal
  (shpA d every far E band m
  (RP.mk (IntKind.wrap IntKind.i64 (RP.i p + (1 : Int))) 0 (RP.len p) (RP.len p)
  (RP.c p)
  (IntKind.wrap IntKind.i64
  (RP.now p +
  IntKind.wrap IntKind.i64
  (Int.tmod (Dd.db d (0 + Int.toNat (RP.i p))) (40 : Int))))
  (RP.last p) (RP.seq p) (RP.lost p) (RP.due p) (RP.li p) (RP.S p)
  (fun i => RP.qs p (RP.i0 p + i)) (fun i => RP.qk p (RP.i0 p + i))
  (fun i => RP.qi p (RP.i0 p + i)) (fun i => RP.qf p (RP.i0 p + i)) fun i =>
  RP.ql p (RP.i0 p + i))))
  (need (Nat.blt 0 (RP.len p))
  (need (true && Nat.blt 0 (RP.len p))
  (need (Nat.ble 1 (RP.len p))
  (br (decide (RP.qs p (RP.i0 p + 0) ≤ RP.seq p))
  (onP N AX.ret
  (shpA d every far E band m
  (RP.mk (RP.i p) 1 (RP.len p) (RP.len p - 1)
  (bif Nat.beq (RP.len p) 0 then RP.c p else 0)
  (IntKind.wrap IntKind.i64
  (RP.now p +
  IntKind.wrap IntKind.i64
  (Int.tmod (Dd.db d (0 + Int.toNat (RP.i p))) (40 : Int))))
  (RP.last p) (RP.seq p) (RP.lost p) (RP.due p) (RP.li p) (RP.S p)
  (fun i => RP.qs p (RP.i0 p + i)) (fun i => RP.qk p (RP.i0 p + i))
  (fun i => RP.qi p (RP.i0 p + i)) (fun i => RP.qf p (RP.i0 p + i)) fun i =>
  RP.ql p (RP.i0 p + i))))
  (br
  (!(RP.qs p (RP.i0 p + 0) !=
  IntKind.wrap IntKind.i64 (RP.seq p + (1 : Int))) ==
  RP.ql p (RP.i0 p + 0))
  (onP N AX.ret
  (shpA d every far E band m
  (RP.mk (RP.i p) 1 (RP.len p) (RP.len p - 1)
  (bif Nat.beq (RP.len p) 0 then RP.c p else 0)
  (IntKind.wrap IntKind.i64
  (RP.now p +
  IntKind.wrap IntKind.i64
  (Int.tmod (Dd.db d (0 + Int.toNat (RP.i p))) (40 : Int))))
  (RP.last p) (RP.seq p) (RP.lost p) (RP.due p) (RP.li p) (RP.S p)
  (fun i => RP.qs p (RP.i0 p + i)) (fun i => RP.qk p (RP.i0 p + i))
  (fun i => RP.qi p (RP.i0 p + i)) (fun i => RP.qf p (RP.i0 p + i)) fun i =>
  RP.ql p (RP.i0 p + i))))
  (br (RP.qk p (RP.i0 p + 0) != (2 : Int))
  (onP N AX.ret
  (shpA d every far E band m
  (RP.mk (RP.i p) 1 (RP.len p) (RP.len p - 1)
  (bif Nat.beq (RP.len p) 0 then RP.c p else 0)
  (IntKind.wrap IntKind.i64
  (RP.now p +
  IntKind.wrap IntKind.i64
  (Int.tmod (Dd.db d (0 + Int.toNat (RP.i p))) (40 : Int))))
  (RP.last p) (RP.seq p) (RP.lost p) (RP.due p) (RP.li p) (RP.S p)
  (fun i => RP.qs p (RP.i0 p + i)) (fun i => RP.qk p (RP.i0 p + i))
  (fun i => RP.qi p (RP.i0 p + i)) (fun i => RP.qf p (RP.i0 p + i)) fun i =>
  RP.ql p (RP.i0 p + i))))
  (br
  (!RP.qs p (RP.i0 p + 0) !=
  IntKind.wrap IntKind.i64 (RP.seq p + (1 : Int)))
  (br (decide (RP.seq p > (0 : Int)))
  (br
  (decide
  (IntKind.wrap IntKind.i64
  ((if RP.last p > RP.qi p (RP.i0 p + 0) then RP.last p
  else RP.qi p (RP.i0 p + 0)) -
  if RP.last p < RP.qi p (RP.i0 p + 0) then RP.last p
  else RP.qi p (RP.i0 p + 0)) ≤
  IntKind.wrap IntKind.i64 (Int.tmod far (5 : Int))))
  (onP N AX.ret
  (shpA d every far E band m
  (RP.mk (RP.i p) 1 (RP.len p) (RP.len p - 1)
  (bif Nat.beq (RP.len p) 0 then RP.c p else 0)
  (IntKind.wrap IntKind.i64
  (RP.now p +
  IntKind.wrap IntKind.i64
  (Int.tmod (Dd.db d (0 + Int.toNat (RP.i p))) (40 : Int))))
  (RP.last p) (RP.seq p) (RP.lost p) (RP.due p) (RP.li p) (RP.S p)
  (fun i => RP.qs p (RP.i0 p + i)) (fun i => RP.qk p (RP.i0 p + i))
  (fun i => RP.qi p (RP.i0 p + i)) (fun i => RP.qf p (RP.i0 p + i))
  fun i => RP.ql p (RP.i0 p + i))))
  (br (RP.lost p)
  (onP N AX.normal
  (shpA d every far E band m
  (RP.mk (IntKind.wrap IntKind.i64 (RP.i p + (1 : Int))) 1
  (RP.len p) (RP.len p - 1)
  (bif Nat.beq (RP.len p) 0 then RP.c p else 0)
  (IntKind.wrap IntKind.i64
  (RP.now p +
  IntKind.wrap IntKind.i64
  (Int.tmod (Dd.db d (0 + Int.toNat (RP.i p)))
  (40 : Int))))
  (RP.qi p (RP.i0 p + 0)) (RP.qs p (RP.i0 p + 0)) true
  (RP.due p) (RP.li p) (RP.S p) (fun i => RP.qs p (RP.i0 p + i))
  (fun i => RP.qk p (RP.i0 p + i)) (fun i => RP.qi p (RP.i0 p + i))
  (fun i => RP.qf p (RP.i0 p + i)) fun i => RP.ql p (RP.i0 p + i))))
  (onP N AX.normal
  (shpA d every far E band m
  (RP.mk (IntKind.wrap IntKind.i64 (RP.i p + (1 : Int))) 1
  (RP.len p) (RP.len p - 1)
  (bif Nat.beq (RP.len p) 0 then RP.c p else 0)
  (IntKind.wrap IntKind.i64
  (RP.now p +
  IntKind.wrap IntKind.i64
  (Int.tmod (Dd.db d (0 + Int.toNat (RP.i p)))
  (40 : Int))))
  (RP.qi p (RP.i0 p + 0)) (RP.qs p (RP.i0 p + 0))
  (RP.qs p (RP.i0 p + 0) !=
  IntKind.wrap IntKind.i64 (RP.seq p + (1 : Int)))
  (RP.due p) (RP.li p) (RP.S p) (fun i => RP.qs p (RP.i0 p + i))
  (fun i => RP.qk p (RP.i0 p + i)) (fun i => RP.qi p (RP.i0 p + i))
  (fun i => RP.qf p (RP.i0 p + i)) fun i => RP.ql p (RP.i0 p + i))))))
  (br (RP.lost p)
  (onP N AX.normal
  (shpA d every far E band m
  (RP.mk (IntKind.wrap IntKind.i64 (RP.i p + (1 : Int))) 1
  (RP.len p) (RP.len p - 1)
  (bif Nat.beq (RP.len p) 0 then RP.c p else 0)
  (IntKind.wrap IntKind.i64
  (RP.now p +
  IntKind.wrap IntKind.i64
  (Int.tmod (Dd.db d (0 + Int.toNat (RP.i p))) (40 : Int))))
  (RP.qi p (RP.i0 p + 0)) (RP.qs p (RP.i0 p + 0)) true
  (RP.due p) (RP.li p) (RP.S p) (fun i => RP.qs p (RP.i0 p + i))
  (fun i => RP.qk p (RP.i0 p + i)) (fun i => RP.qi p (RP.i0 p + i))
  (fun i => RP.qf p (RP.i0 p + i)) fun i => RP.ql p (RP.i0 p + i))))
  (onP N AX.normal
  (shpA d every far E band m
  (RP.mk (IntKind.wrap IntKind.i64 (RP.i p + (1 : Int))) 1
  (RP.len p) (RP.len p - 1)
  (bif Nat.beq (RP.len p) 0 then RP.c p else 0)
  (IntKind.wrap IntKind.i64
  (RP.now p +
  IntKind.wrap IntKind.i64
  (Int.tmod (Dd.db d (0 + Int.toNat (RP.i p))) (40 : Int))))
  (RP.qi p (RP.i0 p + 0)) (RP.qs p (RP.i0 p + 0))
  (RP.qs p (RP.i0 p + 0) !=
  IntKind.wrap IntKind.i64 (RP.seq p + (1 : Int)))
  (RP.due p) (RP.li p) (RP.S p) (fun i => RP.qs p (RP.i0 p + i))
  (fun i => RP.qk p (RP.i0 p + i)) (fun i => RP.qi p (RP.i0 p + i))
  (fun i => RP.qf p (RP.i0 p + i)) fun i => RP.ql p (RP.i0 p + i))))))
  (br (RP.lost p)
  (onP N AX.normal
  (shpA d every far E band m
  (RP.mk (IntKind.wrap IntKind.i64 (RP.i p + (1 : Int))) 1 (RP.len p)
  (RP.len p - 1)
  (bif Nat.beq (RP.len p) 0 then RP.c p else 0)
  (IntKind.wrap IntKind.i64
  (RP.now p +
  IntKind.wrap IntKind.i64
  (Int.tmod (Dd.db d (0 + Int.toNat (RP.i p))) (40 : Int))))
  (RP.qi p (RP.i0 p + 0)) (RP.qs p (RP.i0 p + 0)) true
  (RP.due p) (RP.li p) (RP.S p) (fun i => RP.qs p (RP.i0 p + i))
  (fun i => RP.qk p (RP.i0 p + i)) (fun i => RP.qi p (RP.i0 p + i))
  (fun i => RP.qf p (RP.i0 p + i)) fun i => RP.ql p (RP.i0 p + i))))
  (onP N AX.normal
  (shpA d every far E band m
  (RP.mk (IntKind.wrap IntKind.i64 (RP.i p + (1 : Int))) 1 (RP.len p)
  (RP.len p - 1)
  (bif Nat.beq (RP.len p) 0 then RP.c p else 0)
  (IntKind.wrap IntKind.i64
  (RP.now p +
  IntKind.wrap IntKind.i64
  (Int.tmod (Dd.db d (0 + Int.toNat (RP.i p))) (40 : Int))))
  (RP.qi p (RP.i0 p + 0)) (RP.qs p (RP.i0 p + 0))
  (RP.qs p (RP.i0 p + 0) !=
  IntKind.wrap IntKind.i64 (RP.seq p + (1 : Int)))
  (RP.due p) (RP.li p) (RP.S p) (fun i => RP.qs p (RP.i0 p + i))
  (fun i => RP.qk p (RP.i0 p + i)) (fun i => RP.qi p (RP.i0 p + i))
  (fun i => RP.qf p (RP.i0 p + i)) fun i =>
  RP.ql p (RP.i0 p + i)))))))))))))))))))))))
  (onP N (AX.exit 0)
  (shpA d every far E band m
  (RP.mk (RP.i p) (RP.i0 p) (RP.nn p) (RP.len p) (RP.c p) (RP.now p) (RP.last p) (RP.seq p) (RP.lost p) (RP.due p)
  (RP.li p) (RP.S p) (RP.qs p) (RP.qk p) (RP.qi p) (RP.qf p) (RP.ql p))))) := by kernel_rfl
theorem vc_rise_r1 (d : Dd) (every far E band m : Int) (p : RP) (β : Bs) (N : Kt) (ex : Nat → Kt → Prop) : roundJ Try.prog toldB 100 20 β (fun _ => 0) (cnOf 1 fun _ => slR) ex 3 0 1 (fun _ => slR)
    (FR d every far m p) (SR d E band m true 2 p) N =
(  br (decide (RP.i p < Int.ofNat (Dd.n d)))
  (need (decide ((0 : Int) ≤ RP.i p))
  (need (Nat.blt (Int.toNat (RP.i p)) (Dd.n d))
  (need (Nat.ble 0 (0 + Int.toNat (RP.i p)) && Nat.blt (0 + Int.toNat (RP.i p)) (Dd.n d))
  (need (decide ((0 : Int) ≤ RP.i p))
  (need (Nat.blt (Int.toNat (RP.i p)) (Dd.n d))
  (need
  (Nat.ble 0 (0 + Int.toNat (RP.i p)) && Nat.blt (0 + Int.toNat (RP.i p)) (Dd.n d))
  (br (decide (Int.tmod (Dd.dk d (0 + Int.toNat (RP.i p))) (4 : Int) < (3 : Int)))
  (need (decide ((0 : Int) ≤ RP.i p))
  (need (Nat.blt (Int.toNat (RP.i p)) (Dd.n d))
  (need
  (Nat.ble 0 (0 + Int.toNat (RP.i p)) &&
  Nat.blt (0 + Int.toNat (RP.i p)) (Dd.n d))
  (need (Nat.ble 0 (RP.i0 p) && Nat.ble (RP.i0 p + RP.len p) (RP.nn p))
  (need (Nat.ble (RP.len p) 1000000)
  (need
  (allS (RP.len p) fun j =>
  (fun i =>
  [Value.int IntKind.i64 (RP.qs p i), Value.int IntKind.i64 (RP.qk p i),
  Value.int IntKind.i64 (RP.qi p i), Value.float FloatKind.f64 (RP.qf p i),
  Value.bool (RP.ql p i)])
  (RP.i0 p + j))
  (br
  (decide
  (IntKind.wrap IntKind.i64
  (RP.now p +
  IntKind.wrap IntKind.i64
  (Int.tmod (Dd.db d (0 + Int.toNat (RP.i p))) (40 : Int))) <
  RP.due p))
  (br (decide (Int.ofNat (RP.len p) > m))
  (onP N AX.ret
  (shpB d every far E band m
  (RP.mk (RP.i p) 0 (RP.len p) (RP.len p) (RP.c p)
  (IntKind.wrap IntKind.i64
  (RP.now p +
  IntKind.wrap IntKind.i64
  (Int.tmod (Dd.db d (0 + Int.toNat (RP.i p))) (40 : Int))))
  (RP.last p) (RP.seq p) (RP.lost p) (RP.due p) (RP.li p) (RP.S p)
  (fun i => RP.qs p (RP.i0 p + i)) (fun i => RP.qk p (RP.i0 p + i))
  (fun i => RP.qi p (RP.i0 p + i)) (fun i => RP.qf p (RP.i0 p + i)) fun i =>
  RP.ql p (RP.i0 p + i))))
  (br
  (decide
  (RP.due p <
  IntKind.wrap IntKind.i64
  (RP.now p +
  IntKind.wrap IntKind.i64
  (Int.tmod (Dd.db d (0 + Int.toNat (RP.i p))) (40 : Int)))))
  (onP N AX.ret
  (shpB d every far E band m
  (RP.mk (RP.i p) 0 (RP.len p) (RP.len p) (RP.c p)
  (IntKind.wrap IntKind.i64
  (RP.now p +
  IntKind.wrap IntKind.i64
  (Int.tmod (Dd.db d (0 + Int.toNat (RP.i p))) (40 : Int))))
  (RP.last p) (RP.seq p) (RP.lost p) (RP.due p) (RP.li p) (RP.S p)
  (fun i => RP.qs p (RP.i0 p + i)) (fun i => RP.qk p (RP.i0 p + i))
  (fun i => RP.qi p (RP.i0 p + i)) (fun i => RP.qf p (RP.i0 p + i)) fun i =>
  RP.ql p (RP.i0 p + i))))
  (br (decide (Int.tmod every (30 : Int) > (0 : Int)))
  (br
  (RP.due p ==
  IntKind.wrap IntKind.i64
  (RP.now p +
  IntKind.wrap IntKind.i64
  (Int.tmod (Dd.db d (0 + Int.toNat (RP.i p))) (40 : Int))))
  (onP N AX.ret
  (shpB d every far E band m
  (RP.mk (RP.i p) 0 (RP.len p) (RP.len p) (RP.c p)
  (IntKind.wrap IntKind.i64
  (RP.now p +
  IntKind.wrap IntKind.i64
  (Int.tmod (Dd.db d (0 + Int.toNat (RP.i p))) (40 : Int))))
  (RP.last p) (RP.seq p) (RP.lost p) (RP.due p) (RP.li p) (RP.S p)
  (fun i => RP.qs p (RP.i0 p + i)) (fun i => RP.qk p (RP.i0 p + i))
  (fun i => RP.qi p (RP.i0 p + i)) (fun i => RP.qf p (RP.i0 p + i)) fun i =>
  RP.ql p (RP.i0 p + i))))
  (onP N AX.normal
  (shpB d every far E band m
  (RP.mk (IntKind.wrap IntKind.i64 (RP.i p + (1 : Int))) 0 (RP.len p)
  (RP.len p) (RP.c p)
  (IntKind.wrap IntKind.i64
  (RP.now p +
  IntKind.wrap IntKind.i64
  (Int.tmod (Dd.db d (0 + Int.toNat (RP.i p))) (40 : Int))))
  (RP.last p) (RP.seq p) (RP.lost p) (RP.due p) (RP.li p) (RP.S p)
  (fun i => RP.qs p (RP.i0 p + i)) (fun i => RP.qk p (RP.i0 p + i))
  (fun i => RP.qi p (RP.i0 p + i)) (fun i => RP.qf p (RP.i0 p + i)) fun i =>
  RP.ql p (RP.i0 p + i)))))
  (onP N AX.normal
  (shpB d every far E band m
  (RP.mk (IntKind.wrap IntKind.i64 (RP.i p + (1 : Int))) 0 (RP.len p)
  (RP.len p) (RP.c p)
  (IntKind.wrap IntKind.i64
  (RP.now p +
  IntKind.wrap IntKind.i64
  (Int.tmod (Dd.db d (0 + Int.toNat (RP.i p))) (40 : Int))))
  (RP.last p) (RP.seq p) (RP.lost p) (RP.due p) (RP.li p) (RP.S p)
  (fun i => RP.qs p (RP.i0 p + i)) (fun i => RP.qk p (RP.i0 p + i))
  (fun i => RP.qi p (RP.i0 p + i)) (fun i => RP.qf p (RP.i0 p + i)) fun i =>
  RP.ql p (RP.i0 p + i)))))))
  (br (decide (E ≤ (0 : Int)))
  (br
  (!decide
  (IntKind.wrap IntKind.u64
  (IntKind.wrap IntKind.u64
  (if
  RP.li p >
  Int.tmod (Dd.vi d (0 + Int.toNat (RP.i p))) (20 : Int) then
  RP.li p
  else Int.tmod (Dd.vi d (0 + Int.toNat (RP.i p))) (20 : Int)) -
  IntKind.wrap IntKind.u64
  (if
  RP.li p <
  Int.tmod (Dd.vi d (0 + Int.toNat (RP.i p))) (20 : Int) then
  RP.li p
  else Int.tmod (Dd.vi d (0 + Int.toNat (RP.i p))) (20 : Int))) >
  IntKind.wrap IntKind.u64 (if (0 : Int) > band then (0 : Int) else band)))
  (br (decide (Int.ofNat (RP.len p) > m))
  (onP N AX.ret
  (shpB d every far E band m
  (RP.mk (RP.i p) 0 (RP.len p) (RP.len p) (RP.c p)
  (IntKind.wrap IntKind.i64
  (RP.now p +
  IntKind.wrap IntKind.i64
  (Int.tmod (Dd.db d (0 + Int.toNat (RP.i p))) (40 : Int))))
  (RP.last p) (RP.seq p) (RP.lost p)
  (IntKind.wrap IntKind.i64
  (RP.now p +
  IntKind.wrap IntKind.i64
  (Int.tmod (Dd.db d (0 + Int.toNat (RP.i p))) (40 : Int))))
  (RP.li p) (RP.S p) (fun i => RP.qs p (RP.i0 p + i))
  (fun i => RP.qk p (RP.i0 p + i)) (fun i => RP.qi p (RP.i0 p + i))
  (fun i => RP.qf p (RP.i0 p + i)) fun i => RP.ql p (RP.i0 p + i))))
  (br
  (decide
  (IntKind.wrap IntKind.i64
  (RP.now p +
  IntKind.wrap IntKind.i64
  (Int.tmod (Dd.db d (0 + Int.toNat (RP.i p))) (40 : Int))) <
  IntKind.wrap IntKind.i64
  (RP.now p +
  IntKind.wrap IntKind.i64
  (Int.tmod (Dd.db d (0 + Int.toNat (RP.i p))) (40 : Int)))))
  (onP N AX.ret
  (shpB d every far E band m
  (RP.mk (RP.i p) 0 (RP.len p) (RP.len p) (RP.c p)
  (IntKind.wrap IntKind.i64
  (RP.now p +
  IntKind.wrap IntKind.i64
  (Int.tmod (Dd.db d (0 + Int.toNat (RP.i p))) (40 : Int))))
  (RP.last p) (RP.seq p) (RP.lost p)
  (IntKind.wrap IntKind.i64
  (RP.now p +
  IntKind.wrap IntKind.i64
  (Int.tmod (Dd.db d (0 + Int.toNat (RP.i p))) (40 : Int))))
  (RP.li p) (RP.S p) (fun i => RP.qs p (RP.i0 p + i))
  (fun i => RP.qk p (RP.i0 p + i)) (fun i => RP.qi p (RP.i0 p + i))
  (fun i => RP.qf p (RP.i0 p + i)) fun i => RP.ql p (RP.i0 p + i))))
  (br (decide (Int.tmod every (30 : Int) > (0 : Int)))
  (br
  (IntKind.wrap IntKind.i64
  (RP.now p +
  IntKind.wrap IntKind.i64
  (Int.tmod (Dd.db d (0 + Int.toNat (RP.i p))) (40 : Int))) ==
  IntKind.wrap IntKind.i64
  (RP.now p +
  IntKind.wrap IntKind.i64
  (Int.tmod (Dd.db d (0 + Int.toNat (RP.i p))) (40 : Int))))
  (onP N AX.ret
  (shpB d every far E band m
  (RP.mk (RP.i p) 0 (RP.len p) (RP.len p) (RP.c p)
  (IntKind.wrap IntKind.i64
  (RP.now p +
  IntKind.wrap IntKind.i64
  (Int.tmod (Dd.db d (0 + Int.toNat (RP.i p))) (40 : Int))))
  (RP.last p) (RP.seq p) (RP.lost p)
  (IntKind.wrap IntKind.i64
  (RP.now p +
  IntKind.wrap IntKind.i64
  (Int.tmod (Dd.db d (0 + Int.toNat (RP.i p))) (40 : Int))))
  (RP.li p) (RP.S p) (fun i => RP.qs p (RP.i0 p + i))
  (fun i => RP.qk p (RP.i0 p + i)) (fun i => RP.qi p (RP.i0 p + i))
  (fun i => RP.qf p (RP.i0 p + i)) fun i => RP.ql p (RP.i0 p + i))))
  (onP N AX.normal
  (shpB d every far E band m
  (RP.mk (IntKind.wrap IntKind.i64 (RP.i p + (1 : Int))) 0
  (RP.len p) (RP.len p) (RP.c p)
  (IntKind.wrap IntKind.i64
  (RP.now p +
  IntKind.wrap IntKind.i64
  (Int.tmod (Dd.db d (0 + Int.toNat (RP.i p))) (40 : Int))))
  (RP.last p) (RP.seq p) (RP.lost p)
  (IntKind.wrap IntKind.i64
  (RP.now p +
  IntKind.wrap IntKind.i64
  (Int.tmod (Dd.db d (0 + Int.toNat (RP.i p))) (40 : Int))))
  (RP.li p) (RP.S p) (fun i => RP.qs p (RP.i0 p + i))
  (fun i => RP.qk p (RP.i0 p + i)) (fun i => RP.qi p (RP.i0 p + i))
  (fun i => RP.qf p (RP.i0 p + i)) fun i => RP.ql p (RP.i0 p + i)))))
  (onP N AX.normal
  (shpB d every far E band m
  (RP.mk (IntKind.wrap IntKind.i64 (RP.i p + (1 : Int))) 0 (RP.len p)
  (RP.len p) (RP.c p)
  (IntKind.wrap IntKind.i64
  (RP.now p +
  IntKind.wrap IntKind.i64
  (Int.tmod (Dd.db d (0 + Int.toNat (RP.i p))) (40 : Int))))
  (RP.last p) (RP.seq p) (RP.lost p)
  (IntKind.wrap IntKind.i64
  (RP.now p +
  IntKind.wrap IntKind.i64
  (Int.tmod (Dd.db d (0 + Int.toNat (RP.i p))) (40 : Int))))
  (RP.li p) (RP.S p) (fun i => RP.qs p (RP.i0 p + i))
  (fun i => RP.qk p (RP.i0 p + i)) (fun i => RP.qi p (RP.i0 p + i))
  (fun i => RP.qf p (RP.i0 p + i)) fun i => RP.ql p (RP.i0 p + i)))))))
  (need (Nat.ble (RP.len p + 1) 1000000)
  (need (true && Nat.ble (0 + RP.len p) (RP.len p))
  (br (decide (Int.ofNat (RP.len p + 1) ≤ m))
  (br (decide (Int.ofNat (RP.len p + 1) > m))
  (onP N AX.ret
  (shpB d every far E band m
  (RP.mk (RP.i p) 0 (RP.len p + 1) (RP.len p + 1)
  (RP.c p)
  (IntKind.wrap IntKind.i64
  (RP.now p +
  IntKind.wrap IntKind.i64
  (Int.tmod (Dd.db d (0 + Int.toNat (RP.i p))) (40 : Int))))
  (RP.last p) (RP.seq p) (RP.lost p)
  (IntKind.wrap IntKind.i64
  (RP.now p +
  IntKind.wrap IntKind.i64
  (Int.tmod (Dd.db d (0 + Int.toNat (RP.i p))) (40 : Int))))
  (Int.tmod (Dd.vi d (0 + Int.toNat (RP.i p))) (20 : Int))
  (IntKind.wrap IntKind.i64 (RP.S p + (1 : Int)))
  (fun i =>
  bif Nat.blt i (RP.len p) then RP.qs p (RP.i0 p + (0 + i))
  else IntKind.wrap IntKind.i64 (RP.S p + (1 : Int)))
  (fun i =>
  bif Nat.blt i (RP.len p) then RP.qk p (RP.i0 p + (0 + i))
  else (2 : Int))
  (fun i =>
  bif Nat.blt i (RP.len p) then RP.qi p (RP.i0 p + (0 + i))
  else Int.tmod (Dd.vi d (0 + Int.toNat (RP.i p))) (20 : Int))
  (fun i =>
  bif Nat.blt i (RP.len p) then RP.qf p (RP.i0 p + (0 + i))
  else 0)
  fun i =>
  bif Nat.blt i (RP.len p) then RP.ql p (RP.i0 p + (0 + i))
  else false)))
  (br
  (decide
  (IntKind.wrap IntKind.i64
  (RP.now p +
  IntKind.wrap IntKind.i64
  (Int.tmod (Dd.db d (0 + Int.toNat (RP.i p)))
  (40 : Int))) <
  IntKind.wrap IntKind.i64
  (RP.now p +
  IntKind.wrap IntKind.i64
  (Int.tmod (Dd.db d (0 + Int.toNat (RP.i p)))
  (40 : Int)))))
  (onP N AX.ret
  (shpB d every far E band m
  (RP.mk (RP.i p) 0 (RP.len p + 1) (RP.len p + 1)
  (RP.c p)
  (IntKind.wrap IntKind.i64
  (RP.now p +
  IntKind.wrap IntKind.i64
  (Int.tmod (Dd.db d (0 + Int.toNat (RP.i p)))
  (40 : Int))))
  (RP.last p) (RP.seq p) (RP.lost p)
  (IntKind.wrap IntKind.i64
  (RP.now p +
  IntKind.wrap IntKind.i64
  (Int.tmod (Dd.db d (0 + Int.toNat (RP.i p)))
  (40 : Int))))
  (Int.tmod (Dd.vi d (0 + Int.toNat (RP.i p))) (20 : Int))
  (IntKind.wrap IntKind.i64 (RP.S p + (1 : Int)))
  (fun i =>
  bif Nat.blt i (RP.len p) then RP.qs p (RP.i0 p + (0 + i))
  else IntKind.wrap IntKind.i64 (RP.S p + (1 : Int)))
  (fun i =>
  bif Nat.blt i (RP.len p) then RP.qk p (RP.i0 p + (0 + i))
  else (2 : Int))
  (fun i =>
  bif Nat.blt i (RP.len p) then RP.qi p (RP.i0 p + (0 + i))
  else Int.tmod (Dd.vi d (0 + Int.toNat (RP.i p))) (20 : Int))
  (fun i =>
  bif Nat.blt i (RP.len p) then RP.qf p (RP.i0 p + (0 + i))
  else 0)
  fun i =>
  bif Nat.blt i (RP.len p) then RP.ql p (RP.i0 p + (0 + i))
  else false)))
  (br (decide (Int.tmod every (30 : Int) > (0 : Int)))
  (br
  (IntKind.wrap IntKind.i64
  (RP.now p +
  IntKind.wrap IntKind.i64
  (Int.tmod (Dd.db d (0 + Int.toNat (RP.i p)))
  (40 : Int))) ==
  IntKind.wrap IntKind.i64
  (RP.now p +
  IntKind.wrap IntKind.i64
  (Int.tmod (Dd.db d (0 + Int.toNat (RP.i p)))
  (40 : Int))))
  (onP N AX.ret
  (shpB d every far E band m
  (RP.mk (RP.i p) 0 (RP.len p + 1)
  (RP.len p + 1) (RP.c p)
  (IntKind.wrap IntKind.i64
  (RP.now p +
  IntKind.wrap IntKind.i64
  (Int.tmod (Dd.db d (0 + Int.toNat (RP.i p)))
  (40 : Int))))
  (RP.last p) (RP.seq p) (RP.lost p)
  (IntKind.wrap IntKind.i64
  (RP.now p +
  IntKind.wrap IntKind.i64
  (Int.tmod (Dd.db d (0 + Int.toNat (RP.i p)))
  (40 : Int))))
  (Int.tmod (Dd.vi d (0 + Int.toNat (RP.i p))) (20 : Int))
  (IntKind.wrap IntKind.i64 (RP.S p + (1 : Int)))
  (fun i =>
  bif Nat.blt i (RP.len p) then
  RP.qs p (RP.i0 p + (0 + i))
  else IntKind.wrap IntKind.i64 (RP.S p + (1 : Int)))
  (fun i =>
  bif Nat.blt i (RP.len p) then
  RP.qk p (RP.i0 p + (0 + i))
  else (2 : Int))
  (fun i =>
  bif Nat.blt i (RP.len p) then
  RP.qi p (RP.i0 p + (0 + i))
  else
  Int.tmod (Dd.vi d (0 + Int.toNat (RP.i p)))
  (20 : Int))
  (fun i =>
  bif Nat.blt i (RP.len p) then
  RP.qf p (RP.i0 p + (0 + i))
  else 0)
  fun i =>
  bif Nat.blt i (RP.len p) then RP.ql p (RP.i0 p + (0 + i))
  else false)))
  (onP N AX.normal
  (shpB d every far E band m
  (RP.mk (IntKind.wrap IntKind.i64 (RP.i p + (1 : Int))) 0
  (RP.len p + 1) (RP.len p + 1) (RP.c p)
  (IntKind.wrap IntKind.i64
  (RP.now p +
  IntKind.wrap IntKind.i64
  (Int.tmod (Dd.db d (0 + Int.toNat (RP.i p)))
  (40 : Int))))
  (RP.last p) (RP.seq p) (RP.lost p)
  (IntKind.wrap IntKind.i64
  (RP.now p +
  IntKind.wrap IntKind.i64
  (Int.tmod (Dd.db d (0 + Int.toNat (RP.i p)))
  (40 : Int))))
  (Int.tmod (Dd.vi d (0 + Int.toNat (RP.i p))) (20 : Int))
  (IntKind.wrap IntKind.i64 (RP.S p + (1 : Int)))
  (fun i =>
  bif Nat.blt i (RP.len p) then
  RP.qs p (RP.i0 p + (0 + i))
  else IntKind.wrap IntKind.i64 (RP.S p + (1 : Int)))
  (fun i =>
  bif Nat.blt i (RP.len p) then
  RP.qk p (RP.i0 p + (0 + i))
  else (2 : Int))
  (fun i =>
  bif Nat.blt i (RP.len p) then
  RP.qi p (RP.i0 p + (0 + i))
  else
  Int.tmod (Dd.vi d (0 + Int.toNat (RP.i p)))
  (20 : Int))
  (fun i =>
  bif Nat.blt i (RP.len p) then
  RP.qf p (RP.i0 p + (0 + i))
  else 0)
  fun i =>
  bif Nat.blt i (RP.len p) then RP.ql p (RP.i0 p + (0 + i))
  else false))))
  (onP N AX.normal
  (shpB d every far E band m
  (RP.mk (IntKind.wrap IntKind.i64 (RP.i p + (1 : Int))) 0
  (RP.len p + 1) (RP.len p + 1) (RP.c p)
  (IntKind.wrap IntKind.i64
  (RP.now p +
  IntKind.wrap IntKind.i64
  (Int.tmod (Dd.db d (0 + Int.toNat (RP.i p)))
  (40 : Int))))
  (RP.last p) (RP.seq p) (RP.lost p)
  (IntKind.wrap IntKind.i64
  (RP.now p +
  IntKind.wrap IntKind.i64
  (Int.tmod (Dd.db d (0 + Int.toNat (RP.i p)))
  (40 : Int))))
  (Int.tmod (Dd.vi d (0 + Int.toNat (RP.i p))) (20 : Int))
  (IntKind.wrap IntKind.i64 (RP.S p + (1 : Int)))
  (fun i =>
  bif Nat.blt i (RP.len p) then RP.qs p (RP.i0 p + (0 + i))
  else IntKind.wrap IntKind.i64 (RP.S p + (1 : Int)))
  (fun i =>
  bif Nat.blt i (RP.len p) then RP.qk p (RP.i0 p + (0 + i))
  else (2 : Int))
  (fun i =>
  bif Nat.blt i (RP.len p) then RP.qi p (RP.i0 p + (0 + i))
  else
  Int.tmod (Dd.vi d (0 + Int.toNat (RP.i p))) (20 : Int))
  (fun i =>
  bif Nat.blt i (RP.len p) then RP.qf p (RP.i0 p + (0 + i))
  else 0)
  fun i =>
  bif Nat.blt i (RP.len p) then RP.ql p (RP.i0 p + (0 + i))
  else false))))))
  (br (Int.ofNat (RP.len p + 1 - 1) == (0 : Int))
  (br (decide (Int.ofNat (RP.len p + 1 - 1) > m))
  (N AX.ret
  (mkF 161
  [(0, Value.int IntKind.u8 every),
  (1, Value.int IntKind.u8 far),
  (3,
  Value.slice (some (Addr.mk 0 0 (some 0)))
  (Dd.n d) (Dd.c d)),
  (9, Value.int IntKind.i64 m),
  (11, Value.pointer (some (Addr.mk 1 0 none))),
  (12,
  Value.int IntKind.i64
  (IntKind.wrap IntKind.i64
  (RP.now p +
  IntKind.wrap IntKind.i64
  (Int.tmod (Dd.db d (0 + Int.toNat (RP.i p)))
  (40 : Int))))),
  (13, Value.int IntKind.i64 (RP.last p)),
  (14, Value.int IntKind.i64 (RP.seq p)),
  (15, Value.bool (RP.lost p)),
  (16, Value.int IntKind.i64 (RP.i p))])
  (mkS
  [some
  (AObj.row false 5 0 (Dd.n d) fun i =>
  [Value.int IntKind.u8 (Dd.dk d i),
  Value.int IntKind.u8 (Dd.db d i),
  Value.int IntKind.i64 (Dd.vk d i),
  Value.int IntKind.i64 (Dd.vi d i),
  Value.float FloatKind.f64 (Dd.vf d i)]),
  some
  (AObj.cells
  [Value.int IntKind.i64 (1 : Int), Value.int IntKind.i64 (0 : Int),
  Value.int IntKind.i64 E,
  Value.int IntKind.i64
  (IntKind.wrap IntKind.i64
  (RP.now p +
  IntKind.wrap IntKind.i64
  (Int.tmod (Dd.db d (0 + Int.toNat (RP.i p)))
  (40 : Int)))),
  Value.int IntKind.i64 (2 : Int), Value.int IntKind.i64 band,
  Value.float FloatKind.f64 0, Value.int IntKind.i64 m,
  Value.bool true, Value.bool true,
  Value.int IntKind.i64 (2 : Int),
  Value.int IntKind.i64
  (Int.tmod (Dd.vi d (0 + Int.toNat (RP.i p)))
  (20 : Int)),
  Value.float FloatKind.f64 0,
  Value.int IntKind.i64
  (IntKind.wrap IntKind.i64 (RP.S p + (1 : Int))),
  Value.slice
  (some (Addr.mk 2 0 (some 1)))
  (RP.len p + 1 - 1) 0]
  true 0),
  some
  (AObj.row true 5 0 (RP.len p + 1) fun i =>
  [Value.int IntKind.i64
  (bif Nat.blt i (RP.len p) then
  RP.qs p (RP.i0 p + (0 + i))
  else IntKind.wrap IntKind.i64 (RP.S p + (1 : Int))),
  Value.int IntKind.i64
  (bif Nat.blt i (RP.len p) then
  RP.qk p (RP.i0 p + (0 + i))
  else (2 : Int)),
  Value.int IntKind.i64
  (bif Nat.blt i (RP.len p) then
  RP.qi p (RP.i0 p + (0 + i))
  else
  Int.tmod (Dd.vi d (0 + Int.toNat (RP.i p)))
  (20 : Int)),
  Value.float FloatKind.f64
  (bif Nat.blt i (RP.len p) then
  RP.qf p (RP.i0 p + (0 + i))
  else 0),
  Value.bool
  (bif Nat.blt i (RP.len p) then
  RP.ql p (RP.i0 p + (0 + i))
  else false)])]))
  (br
  (decide
  (IntKind.wrap IntKind.i64
  (RP.now p +
  IntKind.wrap IntKind.i64
  (Int.tmod (Dd.db d (0 + Int.toNat (RP.i p)))
  (40 : Int))) <
  IntKind.wrap IntKind.i64
  (RP.now p +
  IntKind.wrap IntKind.i64
  (Int.tmod (Dd.db d (0 + Int.toNat (RP.i p)))
  (40 : Int)))))
  (N AX.ret
  (mkF 161
  [(0, Value.int IntKind.u8 every),
  (1, Value.int IntKind.u8 far),
  (3,
  Value.slice (some (Addr.mk 0 0 (some 0)))
  (Dd.n d) (Dd.c d)),
  (9, Value.int IntKind.i64 m),
  (11,
  Value.pointer (some (Addr.mk 1 0 none))),
  (12,
  Value.int IntKind.i64
  (IntKind.wrap IntKind.i64
  (RP.now p +
  IntKind.wrap IntKind.i64
  (Int.tmod (Dd.db d (0 + Int.toNat (RP.i p)))
  (40 : Int))))),
  (13, Value.int IntKind.i64 (RP.last p)),
  (14, Value.int IntKind.i64 (RP.seq p)),
  (15, Value.bool (RP.lost p)),
  (16, Value.int IntKind.i64 (RP.i p))])
  (mkS
  [some
  (AObj.row false 5 0 (Dd.n d) fun i =>
  [Value.int IntKind.u8 (Dd.dk d i),
  Value.int IntKind.u8 (Dd.db d i),
  Value.int IntKind.i64 (Dd.vk d i),
  Value.int IntKind.i64 (Dd.vi d i),
  Value.float FloatKind.f64 (Dd.vf d i)]),
  some
  (AObj.cells
  [Value.int IntKind.i64 (1 : Int),
  Value.int IntKind.i64 (0 : Int), Value.int IntKind.i64 E,
  Value.int IntKind.i64
  (IntKind.wrap IntKind.i64
  (RP.now p +
  IntKind.wrap IntKind.i64
  (Int.tmod (Dd.db d (0 + Int.toNat (RP.i p)))
  (40 : Int)))),
  Value.int IntKind.i64 (2 : Int), Value.int IntKind.i64 band,
  Value.float FloatKind.f64 0, Value.int IntKind.i64 m,
  Value.bool true, Value.bool true,
  Value.int IntKind.i64 (2 : Int),
  Value.int IntKind.i64
  (Int.tmod (Dd.vi d (0 + Int.toNat (RP.i p)))
  (20 : Int)),
  Value.float FloatKind.f64 0,
  Value.int IntKind.i64
  (IntKind.wrap IntKind.i64 (RP.S p + (1 : Int))),
  Value.slice
  (some (Addr.mk 2 0 (some 1)))
  (RP.len p + 1 - 1) 0]
  true 0),
  some
  (AObj.row true 5 0 (RP.len p + 1) fun i =>
  [Value.int IntKind.i64
  (bif Nat.blt i (RP.len p) then
  RP.qs p (RP.i0 p + (0 + i))
  else IntKind.wrap IntKind.i64 (RP.S p + (1 : Int))),
  Value.int IntKind.i64
  (bif Nat.blt i (RP.len p) then
  RP.qk p (RP.i0 p + (0 + i))
  else (2 : Int)),
  Value.int IntKind.i64
  (bif Nat.blt i (RP.len p) then
  RP.qi p (RP.i0 p + (0 + i))
  else
  Int.tmod (Dd.vi d (0 + Int.toNat (RP.i p)))
  (20 : Int)),
  Value.float FloatKind.f64
  (bif Nat.blt i (RP.len p) then
  RP.qf p (RP.i0 p + (0 + i))
  else 0),
  Value.bool
  (bif Nat.blt i (RP.len p) then
  RP.ql p (RP.i0 p + (0 + i))
  else false)])]))
  (br (decide (Int.tmod every (30 : Int) > (0 : Int)))
  (br
  (IntKind.wrap IntKind.i64
  (RP.now p +
  IntKind.wrap IntKind.i64
  (Int.tmod (Dd.db d (0 + Int.toNat (RP.i p)))
  (40 : Int))) ==
  IntKind.wrap IntKind.i64
  (RP.now p +
  IntKind.wrap IntKind.i64
  (Int.tmod (Dd.db d (0 + Int.toNat (RP.i p)))
  (40 : Int))))
  (N AX.ret
  (mkF 161
  [(0, Value.int IntKind.u8 every),
  (1, Value.int IntKind.u8 far),
  (3,
  Value.slice
  (some (Addr.mk 0 0 (some 0)))
  (Dd.n d) (Dd.c d)),
  (9, Value.int IntKind.i64 m),
  (11,
  Value.pointer (some (Addr.mk 1 0 none))),
  (12,
  Value.int IntKind.i64
  (IntKind.wrap IntKind.i64
  (RP.now p +
  IntKind.wrap IntKind.i64
  (Int.tmod (Dd.db d (0 + Int.toNat (RP.i p)))
  (40 : Int))))),
  (13, Value.int IntKind.i64 (RP.last p)),
  (14, Value.int IntKind.i64 (RP.seq p)),
  (15, Value.bool (RP.lost p)),
  (16, Value.int IntKind.i64 (RP.i p))])
  (mkS
  [some
  (AObj.row false 5 0 (Dd.n d) fun i =>
  [Value.int IntKind.u8 (Dd.dk d i),
  Value.int IntKind.u8 (Dd.db d i),
  Value.int IntKind.i64 (Dd.vk d i),
  Value.int IntKind.i64 (Dd.vi d i),
  Value.float FloatKind.f64 (Dd.vf d i)]),
  some
  (AObj.cells
  [Value.int IntKind.i64 (1 : Int),
  Value.int IntKind.i64 (0 : Int), Value.int IntKind.i64 E,
  Value.int IntKind.i64
  (IntKind.wrap IntKind.i64
  (RP.now p +
  IntKind.wrap IntKind.i64
  (Int.tmod
  (Dd.db d (0 + Int.toNat (RP.i p)))
  (40 : Int)))),
  Value.int IntKind.i64 (2 : Int),
  Value.int IntKind.i64 band,
  Value.float FloatKind.f64 0,
  Value.int IntKind.i64 m, Value.bool true, Value.bool true,
  Value.int IntKind.i64 (2 : Int),
  Value.int IntKind.i64
  (Int.tmod (Dd.vi d (0 + Int.toNat (RP.i p)))
  (20 : Int)),
  Value.float FloatKind.f64 0,
  Value.int IntKind.i64
  (IntKind.wrap IntKind.i64 (RP.S p + (1 : Int))),
  Value.slice
  (some (Addr.mk 2 0 (some 1)))
  (RP.len p + 1 - 1) 0]
  true 0),
  some
  (AObj.row true 5 0 (RP.len p + 1)
  fun i =>
  [Value.int IntKind.i64
  (bif Nat.blt i (RP.len p) then
  RP.qs p (RP.i0 p + (0 + i))
  else IntKind.wrap IntKind.i64 (RP.S p + (1 : Int))),
  Value.int IntKind.i64
  (bif Nat.blt i (RP.len p) then
  RP.qk p (RP.i0 p + (0 + i))
  else (2 : Int)),
  Value.int IntKind.i64
  (bif Nat.blt i (RP.len p) then
  RP.qi p (RP.i0 p + (0 + i))
  else
  Int.tmod (Dd.vi d (0 + Int.toNat (RP.i p)))
  (20 : Int)),
  Value.float FloatKind.f64
  (bif Nat.blt i (RP.len p) then
  RP.qf p (RP.i0 p + (0 + i))
  else 0),
  Value.bool
  (bif Nat.blt i (RP.len p) then
  RP.ql p (RP.i0 p + (0 + i))
  else false)])]))
  (N AX.normal
  (mkF 161
  [(0, Value.int IntKind.u8 every),
  (1, Value.int IntKind.u8 far),
  (3,
  Value.slice
  (some (Addr.mk 0 0 (some 0)))
  (Dd.n d) (Dd.c d)),
  (9, Value.int IntKind.i64 m),
  (11,
  Value.pointer (some (Addr.mk 1 0 none))),
  (12,
  Value.int IntKind.i64
  (IntKind.wrap IntKind.i64
  (RP.now p +
  IntKind.wrap IntKind.i64
  (Int.tmod (Dd.db d (0 + Int.toNat (RP.i p)))
  (40 : Int))))),
  (13, Value.int IntKind.i64 (RP.last p)),
  (14, Value.int IntKind.i64 (RP.seq p)),
  (15, Value.bool (RP.lost p)),
  (16,
  Value.int IntKind.i64
  (IntKind.wrap IntKind.i64 (RP.i p + (1 : Int))))])
  (mkS
  [some
  (AObj.row false 5 0 (Dd.n d) fun i =>
  [Value.int IntKind.u8 (Dd.dk d i),
  Value.int IntKind.u8 (Dd.db d i),
  Value.int IntKind.i64 (Dd.vk d i),
  Value.int IntKind.i64 (Dd.vi d i),
  Value.float FloatKind.f64 (Dd.vf d i)]),
  some
  (AObj.cells
  [Value.int IntKind.i64 (1 : Int),
  Value.int IntKind.i64 (0 : Int), Value.int IntKind.i64 E,
  Value.int IntKind.i64
  (IntKind.wrap IntKind.i64
  (RP.now p +
  IntKind.wrap IntKind.i64
  (Int.tmod
  (Dd.db d (0 + Int.toNat (RP.i p)))
  (40 : Int)))),
  Value.int IntKind.i64 (2 : Int),
  Value.int IntKind.i64 band,
  Value.float FloatKind.f64 0,
  Value.int IntKind.i64 m, Value.bool true, Value.bool true,
  Value.int IntKind.i64 (2 : Int),
  Value.int IntKind.i64
  (Int.tmod (Dd.vi d (0 + Int.toNat (RP.i p)))
  (20 : Int)),
  Value.float FloatKind.f64 0,
  Value.int IntKind.i64
  (IntKind.wrap IntKind.i64 (RP.S p + (1 : Int))),
  Value.slice
  (some (Addr.mk 2 0 (some 1)))
  (RP.len p + 1 - 1) 0]
  true 0),
  some
  (AObj.row true 5 0 (RP.len p + 1)
  fun i =>
  [Value.int IntKind.i64
  (bif Nat.blt i (RP.len p) then
  RP.qs p (RP.i0 p + (0 + i))
  else IntKind.wrap IntKind.i64 (RP.S p + (1 : Int))),
  Value.int IntKind.i64
  (bif Nat.blt i (RP.len p) then
  RP.qk p (RP.i0 p + (0 + i))
  else (2 : Int)),
  Value.int IntKind.i64
  (bif Nat.blt i (RP.len p) then
  RP.qi p (RP.i0 p + (0 + i))
  else
  Int.tmod (Dd.vi d (0 + Int.toNat (RP.i p)))
  (20 : Int)),
  Value.float FloatKind.f64
  (bif Nat.blt i (RP.len p) then
  RP.qf p (RP.i0 p + (0 + i))
  else 0),
  Value.bool
  (bif Nat.blt i (RP.len p) then
  RP.ql p (RP.i0 p + (0 + i))
  else false)])])))
  (N AX.normal
  (mkF 161
  [(0, Value.int IntKind.u8 every),
  (1, Value.int IntKind.u8 far),
  (3,
  Value.slice
  (some (Addr.mk 0 0 (some 0))) (Dd.n d)
  (Dd.c d)),
  (9, Value.int IntKind.i64 m),
  (11,
  Value.pointer (some (Addr.mk 1 0 none))),
  (12,
  Value.int IntKind.i64
  (IntKind.wrap IntKind.i64
  (RP.now p +
  IntKind.wrap IntKind.i64
  (Int.tmod (Dd.db d (0 + Int.toNat (RP.i p)))
  (40 : Int))))),
  (13, Value.int IntKind.i64 (RP.last p)),
  (14, Value.int IntKind.i64 (RP.seq p)),
  (15, Value.bool (RP.lost p)),
  (16,
  Value.int IntKind.i64
  (IntKind.wrap IntKind.i64 (RP.i p + (1 : Int))))])
  (mkS
  [some
  (AObj.row false 5 0 (Dd.n d) fun i =>
  [Value.int IntKind.u8 (Dd.dk d i),
  Value.int IntKind.u8 (Dd.db d i),
  Value.int IntKind.i64 (Dd.vk d i),
  Value.int IntKind.i64 (Dd.vi d i),
  Value.float FloatKind.f64 (Dd.vf d i)]),
  some
  (AObj.cells
  [Value.int IntKind.i64 (1 : Int),
  Value.int IntKind.i64 (0 : Int), Value.int IntKind.i64 E,
  Value.int IntKind.i64
  (IntKind.wrap IntKind.i64
  (RP.now p +
  IntKind.wrap IntKind.i64
  (Int.tmod (Dd.db d (0 + Int.toNat (RP.i p)))
  (40 : Int)))),
  Value.int IntKind.i64 (2 : Int), Value.int IntKind.i64 band,
  Value.float FloatKind.f64 0,
  Value.int IntKind.i64 m, Value.bool true, Value.bool true,
  Value.int IntKind.i64 (2 : Int),
  Value.int IntKind.i64
  (Int.tmod (Dd.vi d (0 + Int.toNat (RP.i p)))
  (20 : Int)),
  Value.float FloatKind.f64 0,
  Value.int IntKind.i64
  (IntKind.wrap IntKind.i64 (RP.S p + (1 : Int))),
  Value.slice
  (some (Addr.mk 2 0 (some 1)))
  (RP.len p + 1 - 1) 0]
  true 0),
  some
  (AObj.row true 5 0 (RP.len p + 1)
  fun i =>
  [Value.int IntKind.i64
  (bif Nat.blt i (RP.len p) then
  RP.qs p (RP.i0 p + (0 + i))
  else IntKind.wrap IntKind.i64 (RP.S p + (1 : Int))),
  Value.int IntKind.i64
  (bif Nat.blt i (RP.len p) then
  RP.qk p (RP.i0 p + (0 + i))
  else (2 : Int)),
  Value.int IntKind.i64
  (bif Nat.blt i (RP.len p) then
  RP.qi p (RP.i0 p + (0 + i))
  else
  Int.tmod (Dd.vi d (0 + Int.toNat (RP.i p)))
  (20 : Int)),
  Value.float FloatKind.f64
  (bif Nat.blt i (RP.len p) then
  RP.qf p (RP.i0 p + (0 + i))
  else 0),
  Value.bool
  (bif Nat.blt i (RP.len p) then
  RP.ql p (RP.i0 p + (0 + i))
  else false)])])))))
  (need (Nat.blt 0 (RP.len p + 1 - 1))
  (need (Nat.blt 1 (RP.len p + 1))
  (br (decide (Int.ofNat (RP.len p + 1 - 1) > m))
  (onP N AX.ret
  (shpB d every far E band m
  (RP.mk (RP.i p) 1 (RP.len p + 1)
  (RP.len p + 1 - 1) 0
  (IntKind.wrap IntKind.i64
  (RP.now p +
  IntKind.wrap IntKind.i64
  (Int.tmod (Dd.db d (0 + Int.toNat (RP.i p)))
  (40 : Int))))
  (RP.last p) (RP.seq p) (RP.lost p)
  (IntKind.wrap IntKind.i64
  (RP.now p +
  IntKind.wrap IntKind.i64
  (Int.tmod (Dd.db d (0 + Int.toNat (RP.i p)))
  (40 : Int))))
  (Int.tmod (Dd.vi d (0 + Int.toNat (RP.i p))) (20 : Int))
  (IntKind.wrap IntKind.i64 (RP.S p + (1 : Int)))
  (fun i =>
  bif Nat.beq i 1 then
  bif Nat.blt 1 (RP.len p) then
  RP.qs p (RP.i0 p + 1)
  else IntKind.wrap IntKind.i64 (RP.S p + (1 : Int))
  else
  bif Nat.blt i (RP.len p) then
  RP.qs p (RP.i0 p + (0 + i))
  else IntKind.wrap IntKind.i64 (RP.S p + (1 : Int)))
  (fun i =>
  bif Nat.beq i 1 then
  bif Nat.blt 1 (RP.len p) then
  RP.qk p (RP.i0 p + 1)
  else (2 : Int)
  else
  bif Nat.blt i (RP.len p) then
  RP.qk p (RP.i0 p + (0 + i))
  else (2 : Int))
  (fun i =>
  bif Nat.beq i 1 then
  bif Nat.blt 1 (RP.len p) then
  RP.qi p (RP.i0 p + 1)
  else
  Int.tmod (Dd.vi d (0 + Int.toNat (RP.i p)))
  (20 : Int)
  else
  bif Nat.blt i (RP.len p) then
  RP.qi p (RP.i0 p + (0 + i))
  else
  Int.tmod (Dd.vi d (0 + Int.toNat (RP.i p)))
  (20 : Int))
  (fun i =>
  bif Nat.beq i 1 then
  bif Nat.blt 1 (RP.len p) then
  RP.qf p (RP.i0 p + 1)
  else 0
  else
  bif Nat.blt i (RP.len p) then
  RP.qf p (RP.i0 p + (0 + i))
  else 0)
  fun i =>
  bif Nat.beq i 1 then true
  else
  bif Nat.blt i (RP.len p) then
  RP.ql p (RP.i0 p + (0 + i))
  else false)))
  (br
  (decide
  (IntKind.wrap IntKind.i64
  (RP.now p +
  IntKind.wrap IntKind.i64
  (Int.tmod (Dd.db d (0 + Int.toNat (RP.i p)))
  (40 : Int))) <
  IntKind.wrap IntKind.i64
  (RP.now p +
  IntKind.wrap IntKind.i64
  (Int.tmod (Dd.db d (0 + Int.toNat (RP.i p)))
  (40 : Int)))))
  (onP N AX.ret
  (shpB d every far E band m
  (RP.mk (RP.i p) 1 (RP.len p + 1)
  (RP.len p + 1 - 1) 0
  (IntKind.wrap IntKind.i64
  (RP.now p +
  IntKind.wrap IntKind.i64
  (Int.tmod (Dd.db d (0 + Int.toNat (RP.i p)))
  (40 : Int))))
  (RP.last p) (RP.seq p) (RP.lost p)
  (IntKind.wrap IntKind.i64
  (RP.now p +
  IntKind.wrap IntKind.i64
  (Int.tmod (Dd.db d (0 + Int.toNat (RP.i p)))
  (40 : Int))))
  (Int.tmod (Dd.vi d (0 + Int.toNat (RP.i p))) (20 : Int))
  (IntKind.wrap IntKind.i64 (RP.S p + (1 : Int)))
  (fun i =>
  bif Nat.beq i 1 then
  bif Nat.blt 1 (RP.len p) then
  RP.qs p (RP.i0 p + 1)
  else IntKind.wrap IntKind.i64 (RP.S p + (1 : Int))
  else
  bif Nat.blt i (RP.len p) then
  RP.qs p (RP.i0 p + (0 + i))
  else IntKind.wrap IntKind.i64 (RP.S p + (1 : Int)))
  (fun i =>
  bif Nat.beq i 1 then
  bif Nat.blt 1 (RP.len p) then
  RP.qk p (RP.i0 p + 1)
  else (2 : Int)
  else
  bif Nat.blt i (RP.len p) then
  RP.qk p (RP.i0 p + (0 + i))
  else (2 : Int))
  (fun i =>
  bif Nat.beq i 1 then
  bif Nat.blt 1 (RP.len p) then
  RP.qi p (RP.i0 p + 1)
  else
  Int.tmod (Dd.vi d (0 + Int.toNat (RP.i p)))
  (20 : Int)
  else
  bif Nat.blt i (RP.len p) then
  RP.qi p (RP.i0 p + (0 + i))
  else
  Int.tmod (Dd.vi d (0 + Int.toNat (RP.i p)))
  (20 : Int))
  (fun i =>
  bif Nat.beq i 1 then
  bif Nat.blt 1 (RP.len p) then
  RP.qf p (RP.i0 p + 1)
  else 0
  else
  bif Nat.blt i (RP.len p) then
  RP.qf p (RP.i0 p + (0 + i))
  else 0)
  fun i =>
  bif Nat.beq i 1 then true
  else
  bif Nat.blt i (RP.len p) then
  RP.ql p (RP.i0 p + (0 + i))
  else false)))
  (br (decide (Int.tmod every (30 : Int) > (0 : Int)))
  (br
  (IntKind.wrap IntKind.i64
  (RP.now p +
  IntKind.wrap IntKind.i64
  (Int.tmod (Dd.db d (0 + Int.toNat (RP.i p)))
  (40 : Int))) ==
  IntKind.wrap IntKind.i64
  (RP.now p +
  IntKind.wrap IntKind.i64
  (Int.tmod (Dd.db d (0 + Int.toNat (RP.i p)))
  (40 : Int))))
  (onP N AX.ret
  (shpB d every far E band m
  (RP.mk (RP.i p) 1 (RP.len p + 1)
  (RP.len p + 1 - 1) 0
  (IntKind.wrap IntKind.i64
  (RP.now p +
  IntKind.wrap IntKind.i64
  (Int.tmod (Dd.db d (0 + Int.toNat (RP.i p)))
  (40 : Int))))
  (RP.last p) (RP.seq p) (RP.lost p)
  (IntKind.wrap IntKind.i64
  (RP.now p +
  IntKind.wrap IntKind.i64
  (Int.tmod (Dd.db d (0 + Int.toNat (RP.i p)))
  (40 : Int))))
  (Int.tmod (Dd.vi d (0 + Int.toNat (RP.i p)))
  (20 : Int))
  (IntKind.wrap IntKind.i64 (RP.S p + (1 : Int)))
  (fun i =>
  bif Nat.beq i 1 then
  bif Nat.blt 1 (RP.len p) then
  RP.qs p (RP.i0 p + 1)
  else IntKind.wrap IntKind.i64 (RP.S p + (1 : Int))
  else
  bif Nat.blt i (RP.len p) then
  RP.qs p (RP.i0 p + (0 + i))
  else IntKind.wrap IntKind.i64 (RP.S p + (1 : Int)))
  (fun i =>
  bif Nat.beq i 1 then
  bif Nat.blt 1 (RP.len p) then
  RP.qk p (RP.i0 p + 1)
  else (2 : Int)
  else
  bif Nat.blt i (RP.len p) then
  RP.qk p (RP.i0 p + (0 + i))
  else (2 : Int))
  (fun i =>
  bif Nat.beq i 1 then
  bif Nat.blt 1 (RP.len p) then
  RP.qi p (RP.i0 p + 1)
  else
  Int.tmod (Dd.vi d (0 + Int.toNat (RP.i p)))
  (20 : Int)
  else
  bif Nat.blt i (RP.len p) then
  RP.qi p (RP.i0 p + (0 + i))
  else
  Int.tmod (Dd.vi d (0 + Int.toNat (RP.i p)))
  (20 : Int))
  (fun i =>
  bif Nat.beq i 1 then
  bif Nat.blt 1 (RP.len p) then
  RP.qf p (RP.i0 p + 1)
  else 0
  else
  bif Nat.blt i (RP.len p) then
  RP.qf p (RP.i0 p + (0 + i))
  else 0)
  fun i =>
  bif Nat.beq i 1 then true
  else
  bif Nat.blt i (RP.len p) then
  RP.ql p (RP.i0 p + (0 + i))
  else false)))
  (onP N AX.normal
  (shpB d every far E band m
  (RP.mk (IntKind.wrap IntKind.i64 (RP.i p + (1 : Int)))
  1 (RP.len p + 1)
  (RP.len p + 1 - 1) 0
  (IntKind.wrap IntKind.i64
  (RP.now p +
  IntKind.wrap IntKind.i64
  (Int.tmod (Dd.db d (0 + Int.toNat (RP.i p)))
  (40 : Int))))
  (RP.last p) (RP.seq p) (RP.lost p)
  (IntKind.wrap IntKind.i64
  (RP.now p +
  IntKind.wrap IntKind.i64
  (Int.tmod (Dd.db d (0 + Int.toNat (RP.i p)))
  (40 : Int))))
  (Int.tmod (Dd.vi d (0 + Int.toNat (RP.i p)))
  (20 : Int))
  (IntKind.wrap IntKind.i64 (RP.S p + (1 : Int)))
  (fun i =>
  bif Nat.beq i 1 then
  bif Nat.blt 1 (RP.len p) then
  RP.qs p (RP.i0 p + 1)
  else IntKind.wrap IntKind.i64 (RP.S p + (1 : Int))
  else
  bif Nat.blt i (RP.len p) then
  RP.qs p (RP.i0 p + (0 + i))
  else IntKind.wrap IntKind.i64 (RP.S p + (1 : Int)))
  (fun i =>
  bif Nat.beq i 1 then
  bif Nat.blt 1 (RP.len p) then
  RP.qk p (RP.i0 p + 1)
  else (2 : Int)
  else
  bif Nat.blt i (RP.len p) then
  RP.qk p (RP.i0 p + (0 + i))
  else (2 : Int))
  (fun i =>
  bif Nat.beq i 1 then
  bif Nat.blt 1 (RP.len p) then
  RP.qi p (RP.i0 p + 1)
  else
  Int.tmod (Dd.vi d (0 + Int.toNat (RP.i p)))
  (20 : Int)
  else
  bif Nat.blt i (RP.len p) then
  RP.qi p (RP.i0 p + (0 + i))
  else
  Int.tmod (Dd.vi d (0 + Int.toNat (RP.i p)))
  (20 : Int))
  (fun i =>
  bif Nat.beq i 1 then
  bif Nat.blt 1 (RP.len p) then
  RP.qf p (RP.i0 p + 1)
  else 0
  else
  bif Nat.blt i (RP.len p) then
  RP.qf p (RP.i0 p + (0 + i))
  else 0)
  fun i =>
  bif Nat.beq i 1 then true
  else
  bif Nat.blt i (RP.len p) then
  RP.ql p (RP.i0 p + (0 + i))
  else false))))
  (onP N AX.normal
  (shpB d every far E band m
  (RP.mk (IntKind.wrap IntKind.i64 (RP.i p + (1 : Int))) 1
  (RP.len p + 1) (RP.len p + 1 - 1)
  0
  (IntKind.wrap IntKind.i64
  (RP.now p +
  IntKind.wrap IntKind.i64
  (Int.tmod (Dd.db d (0 + Int.toNat (RP.i p)))
  (40 : Int))))
  (RP.last p) (RP.seq p) (RP.lost p)
  (IntKind.wrap IntKind.i64
  (RP.now p +
  IntKind.wrap IntKind.i64
  (Int.tmod (Dd.db d (0 + Int.toNat (RP.i p)))
  (40 : Int))))
  (Int.tmod (Dd.vi d (0 + Int.toNat (RP.i p)))
  (20 : Int))
  (IntKind.wrap IntKind.i64 (RP.S p + (1 : Int)))
  (fun i =>
  bif Nat.beq i 1 then
  bif Nat.blt 1 (RP.len p) then
  RP.qs p (RP.i0 p + 1)
  else IntKind.wrap IntKind.i64 (RP.S p + (1 : Int))
  else
  bif Nat.blt i (RP.len p) then
  RP.qs p (RP.i0 p + (0 + i))
  else IntKind.wrap IntKind.i64 (RP.S p + (1 : Int)))
  (fun i =>
  bif Nat.beq i 1 then
  bif Nat.blt 1 (RP.len p) then
  RP.qk p (RP.i0 p + 1)
  else (2 : Int)
  else
  bif Nat.blt i (RP.len p) then
  RP.qk p (RP.i0 p + (0 + i))
  else (2 : Int))
  (fun i =>
  bif Nat.beq i 1 then
  bif Nat.blt 1 (RP.len p) then
  RP.qi p (RP.i0 p + 1)
  else
  Int.tmod (Dd.vi d (0 + Int.toNat (RP.i p)))
  (20 : Int)
  else
  bif Nat.blt i (RP.len p) then
  RP.qi p (RP.i0 p + (0 + i))
  else
  Int.tmod (Dd.vi d (0 + Int.toNat (RP.i p)))
  (20 : Int))
  (fun i =>
  bif Nat.beq i 1 then
  bif Nat.blt 1 (RP.len p) then
  RP.qf p (RP.i0 p + 1)
  else 0
  else
  bif Nat.blt i (RP.len p) then
  RP.qf p (RP.i0 p + (0 + i))
  else 0)
  fun i =>
  bif Nat.beq i 1 then true
  else
  bif Nat.blt i (RP.len p) then
  RP.ql p (RP.i0 p + (0 + i))
  else false)))))))))))))
  (need (true && !decide (IntKind.wrap IntKind.u64 E = (0 : Int)))
  (br
  (!decide
  (IntKind.wrap IntKind.u64
  (IntKind.wrap IntKind.u64
  (if
  RP.li p >
  Int.tmod (Dd.vi d (0 + Int.toNat (RP.i p)))
  (20 : Int) then
  RP.li p
  else Int.tmod (Dd.vi d (0 + Int.toNat (RP.i p))) (20 : Int)) -
  IntKind.wrap IntKind.u64
  (if
  RP.li p <
  Int.tmod (Dd.vi d (0 + Int.toNat (RP.i p)))
  (20 : Int) then
  RP.li p
  else Int.tmod (Dd.vi d (0 + Int.toNat (RP.i p))) (20 : Int))) >
  IntKind.wrap IntKind.u64 (if (0 : Int) > band then (0 : Int) else band)))
  (br (decide (Int.ofNat (RP.len p) > m))
  (onP N AX.ret
  (shpB d every far E band m
  (RP.mk (RP.i p) 0 (RP.len p) (RP.len p) (RP.c p)
  (IntKind.wrap IntKind.i64
  (RP.now p +
  IntKind.wrap IntKind.i64
  (Int.tmod (Dd.db d (0 + Int.toNat (RP.i p))) (40 : Int))))
  (RP.last p) (RP.seq p) (RP.lost p)
  (IntKind.wrap IntKind.i64
  (RP.due p +
  IntKind.wrap IntKind.i64
  (IntKind.wrap IntKind.i64
  (IntKind.wrap IntKind.u64
  (IntKind.wrap IntKind.u64
  (Int.tdiv
  (IntKind.wrap IntKind.u64
  (IntKind.wrap IntKind.u64
  (IntKind.wrap IntKind.i64
  (RP.now p +
  IntKind.wrap IntKind.i64
  (Int.tmod
  (Dd.db d (0 + Int.toNat (RP.i p)))
  (40 : Int)))) -
  IntKind.wrap IntKind.u64 (RP.due p)))
  (IntKind.wrap IntKind.u64 E)) +
  (1 : Int))) *
  E)))
  (RP.li p) (RP.S p) (fun i => RP.qs p (RP.i0 p + i))
  (fun i => RP.qk p (RP.i0 p + i)) (fun i => RP.qi p (RP.i0 p + i))
  (fun i => RP.qf p (RP.i0 p + i)) fun i => RP.ql p (RP.i0 p + i))))
  (br
  (decide
  (IntKind.wrap IntKind.i64
  (RP.due p +
  IntKind.wrap IntKind.i64
  (IntKind.wrap IntKind.i64
  (IntKind.wrap IntKind.u64
  (IntKind.wrap IntKind.u64
  (Int.tdiv
  (IntKind.wrap IntKind.u64
  (IntKind.wrap IntKind.u64
  (IntKind.wrap IntKind.i64
  (RP.now p +
  IntKind.wrap IntKind.i64
  (Int.tmod
  (Dd.db d (0 + Int.toNat (RP.i p)))
  (40 : Int)))) -
  IntKind.wrap IntKind.u64 (RP.due p)))
  (IntKind.wrap IntKind.u64 E)) +
  (1 : Int))) *
  E)) <
  IntKind.wrap IntKind.i64
  (RP.now p +
  IntKind.wrap IntKind.i64
  (Int.tmod (Dd.db d (0 + Int.toNat (RP.i p))) (40 : Int)))))
  (onP N AX.ret
  (shpB d every far E band m
  (RP.mk (RP.i p) 0 (RP.len p) (RP.len p) (RP.c p)
  (IntKind.wrap IntKind.i64
  (RP.now p +
  IntKind.wrap IntKind.i64
  (Int.tmod (Dd.db d (0 + Int.toNat (RP.i p))) (40 : Int))))
  (RP.last p) (RP.seq p) (RP.lost p)
  (IntKind.wrap IntKind.i64
  (RP.due p +
  IntKind.wrap IntKind.i64
  (IntKind.wrap IntKind.i64
  (IntKind.wrap IntKind.u64
  (IntKind.wrap IntKind.u64
  (Int.tdiv
  (IntKind.wrap IntKind.u64
  (IntKind.wrap IntKind.u64
  (IntKind.wrap IntKind.i64
  (RP.now p +
  IntKind.wrap IntKind.i64
  (Int.tmod
  (Dd.db d (0 + Int.toNat (RP.i p)))
  (40 : Int)))) -
  IntKind.wrap IntKind.u64 (RP.due p)))
  (IntKind.wrap IntKind.u64 E)) +
  (1 : Int))) *
  E)))
  (RP.li p) (RP.S p) (fun i => RP.qs p (RP.i0 p + i))
  (fun i => RP.qk p (RP.i0 p + i)) (fun i => RP.qi p (RP.i0 p + i))
  (fun i => RP.qf p (RP.i0 p + i)) fun i => RP.ql p (RP.i0 p + i))))
  (br (decide (Int.tmod every (30 : Int) > (0 : Int)))
  (br
  (IntKind.wrap IntKind.i64
  (RP.due p +
  IntKind.wrap IntKind.i64
  (IntKind.wrap IntKind.i64
  (IntKind.wrap IntKind.u64
  (IntKind.wrap IntKind.u64
  (Int.tdiv
  (IntKind.wrap IntKind.u64
  (IntKind.wrap IntKind.u64
  (IntKind.wrap IntKind.i64
  (RP.now p +
  IntKind.wrap IntKind.i64
  (Int.tmod
  (Dd.db d (0 + Int.toNat (RP.i p)))
  (40 : Int)))) -
  IntKind.wrap IntKind.u64 (RP.due p)))
  (IntKind.wrap IntKind.u64 E)) +
  (1 : Int))) *
  E)) ==
  IntKind.wrap IntKind.i64
  (RP.now p +
  IntKind.wrap IntKind.i64
  (Int.tmod (Dd.db d (0 + Int.toNat (RP.i p))) (40 : Int))))
  (onP N AX.ret
  (shpB d every far E band m
  (RP.mk (RP.i p) 0 (RP.len p) (RP.len p) (RP.c p)
  (IntKind.wrap IntKind.i64
  (RP.now p +
  IntKind.wrap IntKind.i64
  (Int.tmod (Dd.db d (0 + Int.toNat (RP.i p)))
  (40 : Int))))
  (RP.last p) (RP.seq p) (RP.lost p)
  (IntKind.wrap IntKind.i64
  (RP.due p +
  IntKind.wrap IntKind.i64
  (IntKind.wrap IntKind.i64
  (IntKind.wrap IntKind.u64
  (IntKind.wrap IntKind.u64
  (Int.tdiv
  (IntKind.wrap IntKind.u64
  (IntKind.wrap IntKind.u64
  (IntKind.wrap IntKind.i64
  (RP.now p +
  IntKind.wrap IntKind.i64
  (Int.tmod
  (Dd.db d
  (0 + Int.toNat (RP.i p)))
  (40 : Int)))) -
  IntKind.wrap IntKind.u64 (RP.due p)))
  (IntKind.wrap IntKind.u64 E)) +
  (1 : Int))) *
  E)))
  (RP.li p) (RP.S p) (fun i => RP.qs p (RP.i0 p + i))
  (fun i => RP.qk p (RP.i0 p + i)) (fun i => RP.qi p (RP.i0 p + i))
  (fun i => RP.qf p (RP.i0 p + i)) fun i => RP.ql p (RP.i0 p + i))))
  (onP N AX.normal
  (shpB d every far E band m
  (RP.mk (IntKind.wrap IntKind.i64 (RP.i p + (1 : Int))) 0
  (RP.len p) (RP.len p) (RP.c p)
  (IntKind.wrap IntKind.i64
  (RP.now p +
  IntKind.wrap IntKind.i64
  (Int.tmod (Dd.db d (0 + Int.toNat (RP.i p)))
  (40 : Int))))
  (RP.last p) (RP.seq p) (RP.lost p)
  (IntKind.wrap IntKind.i64
  (RP.due p +
  IntKind.wrap IntKind.i64
  (IntKind.wrap IntKind.i64
  (IntKind.wrap IntKind.u64
  (IntKind.wrap IntKind.u64
  (Int.tdiv
  (IntKind.wrap IntKind.u64
  (IntKind.wrap IntKind.u64
  (IntKind.wrap IntKind.i64
  (RP.now p +
  IntKind.wrap IntKind.i64
  (Int.tmod
  (Dd.db d
  (0 + Int.toNat (RP.i p)))
  (40 : Int)))) -
  IntKind.wrap IntKind.u64 (RP.due p)))
  (IntKind.wrap IntKind.u64 E)) +
  (1 : Int))) *
  E)))
  (RP.li p) (RP.S p) (fun i => RP.qs p (RP.i0 p + i))
  (fun i => RP.qk p (RP.i0 p + i)) (fun i => RP.qi p (RP.i0 p + i))
  (fun i => RP.qf p (RP.i0 p + i)) fun i => RP.ql p (RP.i0 p + i)))))
  (onP N AX.normal
  (shpB d every far E band m
  (RP.mk (IntKind.wrap IntKind.i64 (RP.i p + (1 : Int))) 0
  (RP.len p) (RP.len p) (RP.c p)
  (IntKind.wrap IntKind.i64
  (RP.now p +
  IntKind.wrap IntKind.i64
  (Int.tmod (Dd.db d (0 + Int.toNat (RP.i p))) (40 : Int))))
  (RP.last p) (RP.seq p) (RP.lost p)
  (IntKind.wrap IntKind.i64
  (RP.due p +
  IntKind.wrap IntKind.i64
  (IntKind.wrap IntKind.i64
  (IntKind.wrap IntKind.u64
  (IntKind.wrap IntKind.u64
  (Int.tdiv
  (IntKind.wrap IntKind.u64
  (IntKind.wrap IntKind.u64
  (IntKind.wrap IntKind.i64
  (RP.now p +
  IntKind.wrap IntKind.i64
  (Int.tmod
  (Dd.db d
  (0 + Int.toNat (RP.i p)))
  (40 : Int)))) -
  IntKind.wrap IntKind.u64 (RP.due p)))
  (IntKind.wrap IntKind.u64 E)) +
  (1 : Int))) *
  E)))
  (RP.li p) (RP.S p) (fun i => RP.qs p (RP.i0 p + i))
  (fun i => RP.qk p (RP.i0 p + i)) (fun i => RP.qi p (RP.i0 p + i))
  (fun i => RP.qf p (RP.i0 p + i)) fun i => RP.ql p (RP.i0 p + i)))))))
  (need (Nat.ble (RP.len p + 1) 1000000)
  (need (true && Nat.ble (0 + RP.len p) (RP.len p))
  (br (decide (Int.ofNat (RP.len p + 1) ≤ m))
  (br (decide (Int.ofNat (RP.len p + 1) > m))
  (onP N AX.ret
  (shpB d every far E band m
  (RP.mk (RP.i p) 0 (RP.len p + 1) (RP.len p + 1)
  (RP.c p)
  (IntKind.wrap IntKind.i64
  (RP.now p +
  IntKind.wrap IntKind.i64
  (Int.tmod (Dd.db d (0 + Int.toNat (RP.i p)))
  (40 : Int))))
  (RP.last p) (RP.seq p) (RP.lost p)
  (IntKind.wrap IntKind.i64
  (RP.due p +
  IntKind.wrap IntKind.i64
  (IntKind.wrap IntKind.i64
  (IntKind.wrap IntKind.u64
  (IntKind.wrap IntKind.u64
  (Int.tdiv
  (IntKind.wrap IntKind.u64
  (IntKind.wrap IntKind.u64
  (IntKind.wrap IntKind.i64
  (RP.now p +
  IntKind.wrap IntKind.i64
  (Int.tmod
  (Dd.db d
  (0 + Int.toNat (RP.i p)))
  (40 : Int)))) -
  IntKind.wrap IntKind.u64 (RP.due p)))
  (IntKind.wrap IntKind.u64 E)) +
  (1 : Int))) *
  E)))
  (Int.tmod (Dd.vi d (0 + Int.toNat (RP.i p))) (20 : Int))
  (IntKind.wrap IntKind.i64 (RP.S p + (1 : Int)))
  (fun i =>
  bif Nat.blt i (RP.len p) then RP.qs p (RP.i0 p + (0 + i))
  else IntKind.wrap IntKind.i64 (RP.S p + (1 : Int)))
  (fun i =>
  bif Nat.blt i (RP.len p) then RP.qk p (RP.i0 p + (0 + i))
  else (2 : Int))
  (fun i =>
  bif Nat.blt i (RP.len p) then RP.qi p (RP.i0 p + (0 + i))
  else Int.tmod (Dd.vi d (0 + Int.toNat (RP.i p))) (20 : Int))
  (fun i =>
  bif Nat.blt i (RP.len p) then RP.qf p (RP.i0 p + (0 + i))
  else 0)
  fun i =>
  bif Nat.blt i (RP.len p) then RP.ql p (RP.i0 p + (0 + i))
  else false)))
  (br
  (decide
  (IntKind.wrap IntKind.i64
  (RP.due p +
  IntKind.wrap IntKind.i64
  (IntKind.wrap IntKind.i64
  (IntKind.wrap IntKind.u64
  (IntKind.wrap IntKind.u64
  (Int.tdiv
  (IntKind.wrap IntKind.u64
  (IntKind.wrap IntKind.u64
  (IntKind.wrap IntKind.i64
  (RP.now p +
  IntKind.wrap IntKind.i64
  (Int.tmod
  (Dd.db d
  (0 + Int.toNat (RP.i p)))
  (40 : Int)))) -
  IntKind.wrap IntKind.u64 (RP.due p)))
  (IntKind.wrap IntKind.u64 E)) +
  (1 : Int))) *
  E)) <
  IntKind.wrap IntKind.i64
  (RP.now p +
  IntKind.wrap IntKind.i64
  (Int.tmod (Dd.db d (0 + Int.toNat (RP.i p)))
  (40 : Int)))))
  (onP N AX.ret
  (shpB d every far E band m
  (RP.mk (RP.i p) 0 (RP.len p + 1)
  (RP.len p + 1) (RP.c p)
  (IntKind.wrap IntKind.i64
  (RP.now p +
  IntKind.wrap IntKind.i64
  (Int.tmod (Dd.db d (0 + Int.toNat (RP.i p)))
  (40 : Int))))
  (RP.last p) (RP.seq p) (RP.lost p)
  (IntKind.wrap IntKind.i64
  (RP.due p +
  IntKind.wrap IntKind.i64
  (IntKind.wrap IntKind.i64
  (IntKind.wrap IntKind.u64
  (IntKind.wrap IntKind.u64
  (Int.tdiv
  (IntKind.wrap IntKind.u64
  (IntKind.wrap IntKind.u64
  (IntKind.wrap IntKind.i64
  (RP.now p +
  IntKind.wrap IntKind.i64
  (Int.tmod
  (Dd.db d
  (0 + Int.toNat (RP.i p)))
  (40 : Int)))) -
  IntKind.wrap IntKind.u64 (RP.due p)))
  (IntKind.wrap IntKind.u64 E)) +
  (1 : Int))) *
  E)))
  (Int.tmod (Dd.vi d (0 + Int.toNat (RP.i p))) (20 : Int))
  (IntKind.wrap IntKind.i64 (RP.S p + (1 : Int)))
  (fun i =>
  bif Nat.blt i (RP.len p) then RP.qs p (RP.i0 p + (0 + i))
  else IntKind.wrap IntKind.i64 (RP.S p + (1 : Int)))
  (fun i =>
  bif Nat.blt i (RP.len p) then RP.qk p (RP.i0 p + (0 + i))
  else (2 : Int))
  (fun i =>
  bif Nat.blt i (RP.len p) then RP.qi p (RP.i0 p + (0 + i))
  else
  Int.tmod (Dd.vi d (0 + Int.toNat (RP.i p))) (20 : Int))
  (fun i =>
  bif Nat.blt i (RP.len p) then RP.qf p (RP.i0 p + (0 + i))
  else 0)
  fun i =>
  bif Nat.blt i (RP.len p) then RP.ql p (RP.i0 p + (0 + i))
  else false)))
  (br (decide (Int.tmod every (30 : Int) > (0 : Int)))
  (br
  (IntKind.wrap IntKind.i64
  (RP.due p +
  IntKind.wrap IntKind.i64
  (IntKind.wrap IntKind.i64
  (IntKind.wrap IntKind.u64
  (IntKind.wrap IntKind.u64
  (Int.tdiv
  (IntKind.wrap IntKind.u64
  (IntKind.wrap IntKind.u64
  (IntKind.wrap IntKind.i64
  (RP.now p +
  IntKind.wrap IntKind.i64
  (Int.tmod
  (Dd.db d
  (0 + Int.toNat (RP.i p)))
  (40 : Int)))) -
  IntKind.wrap IntKind.u64 (RP.due p)))
  (IntKind.wrap IntKind.u64 E)) +
  (1 : Int))) *
  E)) ==
  IntKind.wrap IntKind.i64
  (RP.now p +
  IntKind.wrap IntKind.i64
  (Int.tmod (Dd.db d (0 + Int.toNat (RP.i p)))
  (40 : Int))))
  (onP N AX.ret
  (shpB d every far E band m
  (RP.mk (RP.i p) 0 (RP.len p + 1)
  (RP.len p + 1) (RP.c p)
  (IntKind.wrap IntKind.i64
  (RP.now p +
  IntKind.wrap IntKind.i64
  (Int.tmod (Dd.db d (0 + Int.toNat (RP.i p)))
  (40 : Int))))
  (RP.last p) (RP.seq p) (RP.lost p)
  (IntKind.wrap IntKind.i64
  (RP.due p +
  IntKind.wrap IntKind.i64
  (IntKind.wrap IntKind.i64
  (IntKind.wrap IntKind.u64
  (IntKind.wrap IntKind.u64
  (Int.tdiv
  (IntKind.wrap IntKind.u64
  (IntKind.wrap IntKind.u64
  (IntKind.wrap IntKind.i64
  (RP.now p +
  IntKind.wrap IntKind.i64
  (Int.tmod
  (Dd.db d
  (0 +
  Int.toNat (RP.i p)))
  (40 : Int)))) -
  IntKind.wrap IntKind.u64 (RP.due p)))
  (IntKind.wrap IntKind.u64 E)) +
  (1 : Int))) *
  E)))
  (Int.tmod (Dd.vi d (0 + Int.toNat (RP.i p))) (20 : Int))
  (IntKind.wrap IntKind.i64 (RP.S p + (1 : Int)))
  (fun i =>
  bif Nat.blt i (RP.len p) then
  RP.qs p (RP.i0 p + (0 + i))
  else IntKind.wrap IntKind.i64 (RP.S p + (1 : Int)))
  (fun i =>
  bif Nat.blt i (RP.len p) then
  RP.qk p (RP.i0 p + (0 + i))
  else (2 : Int))
  (fun i =>
  bif Nat.blt i (RP.len p) then
  RP.qi p (RP.i0 p + (0 + i))
  else
  Int.tmod (Dd.vi d (0 + Int.toNat (RP.i p)))
  (20 : Int))
  (fun i =>
  bif Nat.blt i (RP.len p) then
  RP.qf p (RP.i0 p + (0 + i))
  else 0)
  fun i =>
  bif Nat.blt i (RP.len p) then
  RP.ql p (RP.i0 p + (0 + i))
  else false)))
  (onP N AX.normal
  (shpB d every far E band m
  (RP.mk (IntKind.wrap IntKind.i64 (RP.i p + (1 : Int))) 0
  (RP.len p + 1) (RP.len p + 1) (RP.c p)
  (IntKind.wrap IntKind.i64
  (RP.now p +
  IntKind.wrap IntKind.i64
  (Int.tmod (Dd.db d (0 + Int.toNat (RP.i p)))
  (40 : Int))))
  (RP.last p) (RP.seq p) (RP.lost p)
  (IntKind.wrap IntKind.i64
  (RP.due p +
  IntKind.wrap IntKind.i64
  (IntKind.wrap IntKind.i64
  (IntKind.wrap IntKind.u64
  (IntKind.wrap IntKind.u64
  (Int.tdiv
  (IntKind.wrap IntKind.u64
  (IntKind.wrap IntKind.u64
  (IntKind.wrap IntKind.i64
  (RP.now p +
  IntKind.wrap IntKind.i64
  (Int.tmod
  (Dd.db d
  (0 +
  Int.toNat (RP.i p)))
  (40 : Int)))) -
  IntKind.wrap IntKind.u64 (RP.due p)))
  (IntKind.wrap IntKind.u64 E)) +
  (1 : Int))) *
  E)))
  (Int.tmod (Dd.vi d (0 + Int.toNat (RP.i p))) (20 : Int))
  (IntKind.wrap IntKind.i64 (RP.S p + (1 : Int)))
  (fun i =>
  bif Nat.blt i (RP.len p) then
  RP.qs p (RP.i0 p + (0 + i))
  else IntKind.wrap IntKind.i64 (RP.S p + (1 : Int)))
  (fun i =>
  bif Nat.blt i (RP.len p) then
  RP.qk p (RP.i0 p + (0 + i))
  else (2 : Int))
  (fun i =>
  bif Nat.blt i (RP.len p) then
  RP.qi p (RP.i0 p + (0 + i))
  else
  Int.tmod (Dd.vi d (0 + Int.toNat (RP.i p)))
  (20 : Int))
  (fun i =>
  bif Nat.blt i (RP.len p) then
  RP.qf p (RP.i0 p + (0 + i))
  else 0)
  fun i =>
  bif Nat.blt i (RP.len p) then
  RP.ql p (RP.i0 p + (0 + i))
  else false))))
  (onP N AX.normal
  (shpB d every far E band m
  (RP.mk (IntKind.wrap IntKind.i64 (RP.i p + (1 : Int))) 0
  (RP.len p + 1) (RP.len p + 1) (RP.c p)
  (IntKind.wrap IntKind.i64
  (RP.now p +
  IntKind.wrap IntKind.i64
  (Int.tmod (Dd.db d (0 + Int.toNat (RP.i p)))
  (40 : Int))))
  (RP.last p) (RP.seq p) (RP.lost p)
  (IntKind.wrap IntKind.i64
  (RP.due p +
  IntKind.wrap IntKind.i64
  (IntKind.wrap IntKind.i64
  (IntKind.wrap IntKind.u64
  (IntKind.wrap IntKind.u64
  (Int.tdiv
  (IntKind.wrap IntKind.u64
  (IntKind.wrap IntKind.u64
  (IntKind.wrap IntKind.i64
  (RP.now p +
  IntKind.wrap IntKind.i64
  (Int.tmod
  (Dd.db d
  (0 +
  Int.toNat (RP.i p)))
  (40 : Int)))) -
  IntKind.wrap IntKind.u64 (RP.due p)))
  (IntKind.wrap IntKind.u64 E)) +
  (1 : Int))) *
  E)))
  (Int.tmod (Dd.vi d (0 + Int.toNat (RP.i p))) (20 : Int))
  (IntKind.wrap IntKind.i64 (RP.S p + (1 : Int)))
  (fun i =>
  bif Nat.blt i (RP.len p) then
  RP.qs p (RP.i0 p + (0 + i))
  else IntKind.wrap IntKind.i64 (RP.S p + (1 : Int)))
  (fun i =>
  bif Nat.blt i (RP.len p) then
  RP.qk p (RP.i0 p + (0 + i))
  else (2 : Int))
  (fun i =>
  bif Nat.blt i (RP.len p) then
  RP.qi p (RP.i0 p + (0 + i))
  else
  Int.tmod (Dd.vi d (0 + Int.toNat (RP.i p)))
  (20 : Int))
  (fun i =>
  bif Nat.blt i (RP.len p) then
  RP.qf p (RP.i0 p + (0 + i))
  else 0)
  fun i =>
  bif Nat.blt i (RP.len p) then RP.ql p (RP.i0 p + (0 + i))
  else false))))))
  (br (Int.ofNat (RP.len p + 1 - 1) == (0 : Int))
  (br (decide (Int.ofNat (RP.len p + 1 - 1) > m))
  (N AX.ret
  (mkF 161
  [(0, Value.int IntKind.u8 every),
  (1, Value.int IntKind.u8 far),
  (3,
  Value.slice (some (Addr.mk 0 0 (some 0)))
  (Dd.n d) (Dd.c d)),
  (9, Value.int IntKind.i64 m),
  (11,
  Value.pointer (some (Addr.mk 1 0 none))),
  (12,
  Value.int IntKind.i64
  (IntKind.wrap IntKind.i64
  (RP.now p +
  IntKind.wrap IntKind.i64
  (Int.tmod (Dd.db d (0 + Int.toNat (RP.i p)))
  (40 : Int))))),
  (13, Value.int IntKind.i64 (RP.last p)),
  (14, Value.int IntKind.i64 (RP.seq p)),
  (15, Value.bool (RP.lost p)),
  (16, Value.int IntKind.i64 (RP.i p))])
  (mkS
  [some
  (AObj.row false 5 0 (Dd.n d) fun i =>
  [Value.int IntKind.u8 (Dd.dk d i),
  Value.int IntKind.u8 (Dd.db d i),
  Value.int IntKind.i64 (Dd.vk d i),
  Value.int IntKind.i64 (Dd.vi d i),
  Value.float FloatKind.f64 (Dd.vf d i)]),
  some
  (AObj.cells
  [Value.int IntKind.i64 (1 : Int),
  Value.int IntKind.i64 (0 : Int), Value.int IntKind.i64 E,
  Value.int IntKind.i64
  (IntKind.wrap IntKind.i64
  (RP.due p +
  IntKind.wrap IntKind.i64
  (IntKind.wrap IntKind.i64
  (IntKind.wrap IntKind.u64
  (IntKind.wrap IntKind.u64
  (Int.tdiv
  (IntKind.wrap IntKind.u64
  (IntKind.wrap IntKind.u64
  (IntKind.wrap IntKind.i64
  (RP.now p +
  IntKind.wrap IntKind.i64
  (Int.tmod
  (Dd.db d
  (0 +
  Int.toNat (RP.i p)))
  (40 : Int)))) -
  IntKind.wrap IntKind.u64 (RP.due p)))
  (IntKind.wrap IntKind.u64 E)) +
  (1 : Int))) *
  E))),
  Value.int IntKind.i64 (2 : Int), Value.int IntKind.i64 band,
  Value.float FloatKind.f64 0, Value.int IntKind.i64 m,
  Value.bool true, Value.bool true,
  Value.int IntKind.i64 (2 : Int),
  Value.int IntKind.i64
  (Int.tmod (Dd.vi d (0 + Int.toNat (RP.i p)))
  (20 : Int)),
  Value.float FloatKind.f64 0,
  Value.int IntKind.i64
  (IntKind.wrap IntKind.i64 (RP.S p + (1 : Int))),
  Value.slice
  (some (Addr.mk 2 0 (some 1)))
  (RP.len p + 1 - 1) 0]
  true 0),
  some
  (AObj.row true 5 0 (RP.len p + 1) fun i =>
  [Value.int IntKind.i64
  (bif Nat.blt i (RP.len p) then
  RP.qs p (RP.i0 p + (0 + i))
  else IntKind.wrap IntKind.i64 (RP.S p + (1 : Int))),
  Value.int IntKind.i64
  (bif Nat.blt i (RP.len p) then
  RP.qk p (RP.i0 p + (0 + i))
  else (2 : Int)),
  Value.int IntKind.i64
  (bif Nat.blt i (RP.len p) then
  RP.qi p (RP.i0 p + (0 + i))
  else
  Int.tmod (Dd.vi d (0 + Int.toNat (RP.i p)))
  (20 : Int)),
  Value.float FloatKind.f64
  (bif Nat.blt i (RP.len p) then
  RP.qf p (RP.i0 p + (0 + i))
  else 0),
  Value.bool
  (bif Nat.blt i (RP.len p) then
  RP.ql p (RP.i0 p + (0 + i))
  else false)])]))
  (br
  (decide
  (IntKind.wrap IntKind.i64
  (RP.due p +
  IntKind.wrap IntKind.i64
  (IntKind.wrap IntKind.i64
  (IntKind.wrap IntKind.u64
  (IntKind.wrap IntKind.u64
  (Int.tdiv
  (IntKind.wrap IntKind.u64
  (IntKind.wrap IntKind.u64
  (IntKind.wrap IntKind.i64
  (RP.now p +
  IntKind.wrap IntKind.i64
  (Int.tmod
  (Dd.db d
  (0 + Int.toNat (RP.i p)))
  (40 : Int)))) -
  IntKind.wrap IntKind.u64 (RP.due p)))
  (IntKind.wrap IntKind.u64 E)) +
  (1 : Int))) *
  E)) <
  IntKind.wrap IntKind.i64
  (RP.now p +
  IntKind.wrap IntKind.i64
  (Int.tmod (Dd.db d (0 + Int.toNat (RP.i p)))
  (40 : Int)))))
  (N AX.ret
  (mkF 161
  [(0, Value.int IntKind.u8 every),
  (1, Value.int IntKind.u8 far),
  (3,
  Value.slice
  (some (Addr.mk 0 0 (some 0))) (Dd.n d)
  (Dd.c d)),
  (9, Value.int IntKind.i64 m),
  (11,
  Value.pointer (some (Addr.mk 1 0 none))),
  (12,
  Value.int IntKind.i64
  (IntKind.wrap IntKind.i64
  (RP.now p +
  IntKind.wrap IntKind.i64
  (Int.tmod (Dd.db d (0 + Int.toNat (RP.i p)))
  (40 : Int))))),
  (13, Value.int IntKind.i64 (RP.last p)),
  (14, Value.int IntKind.i64 (RP.seq p)),
  (15, Value.bool (RP.lost p)),
  (16, Value.int IntKind.i64 (RP.i p))])
  (mkS
  [some
  (AObj.row false 5 0 (Dd.n d) fun i =>
  [Value.int IntKind.u8 (Dd.dk d i),
  Value.int IntKind.u8 (Dd.db d i),
  Value.int IntKind.i64 (Dd.vk d i),
  Value.int IntKind.i64 (Dd.vi d i),
  Value.float FloatKind.f64 (Dd.vf d i)]),
  some
  (AObj.cells
  [Value.int IntKind.i64 (1 : Int),
  Value.int IntKind.i64 (0 : Int), Value.int IntKind.i64 E,
  Value.int IntKind.i64
  (IntKind.wrap IntKind.i64
  (RP.due p +
  IntKind.wrap IntKind.i64
  (IntKind.wrap IntKind.i64
  (IntKind.wrap IntKind.u64
  (IntKind.wrap IntKind.u64
  (Int.tdiv
  (IntKind.wrap IntKind.u64
  (IntKind.wrap IntKind.u64
  (IntKind.wrap IntKind.i64
  (RP.now p +
  IntKind.wrap IntKind.i64
  (Int.tmod
  (Dd.db d
  (0 +
  Int.toNat (RP.i p)))
  (40 : Int)))) -
  IntKind.wrap IntKind.u64
  (RP.due p)))
  (IntKind.wrap IntKind.u64 E)) +
  (1 : Int))) *
  E))),
  Value.int IntKind.i64 (2 : Int), Value.int IntKind.i64 band,
  Value.float FloatKind.f64 0,
  Value.int IntKind.i64 m, Value.bool true, Value.bool true,
  Value.int IntKind.i64 (2 : Int),
  Value.int IntKind.i64
  (Int.tmod (Dd.vi d (0 + Int.toNat (RP.i p)))
  (20 : Int)),
  Value.float FloatKind.f64 0,
  Value.int IntKind.i64
  (IntKind.wrap IntKind.i64 (RP.S p + (1 : Int))),
  Value.slice
  (some (Addr.mk 2 0 (some 1)))
  (RP.len p + 1 - 1) 0]
  true 0),
  some
  (AObj.row true 5 0 (RP.len p + 1)
  fun i =>
  [Value.int IntKind.i64
  (bif Nat.blt i (RP.len p) then
  RP.qs p (RP.i0 p + (0 + i))
  else IntKind.wrap IntKind.i64 (RP.S p + (1 : Int))),
  Value.int IntKind.i64
  (bif Nat.blt i (RP.len p) then
  RP.qk p (RP.i0 p + (0 + i))
  else (2 : Int)),
  Value.int IntKind.i64
  (bif Nat.blt i (RP.len p) then
  RP.qi p (RP.i0 p + (0 + i))
  else
  Int.tmod (Dd.vi d (0 + Int.toNat (RP.i p)))
  (20 : Int)),
  Value.float FloatKind.f64
  (bif Nat.blt i (RP.len p) then
  RP.qf p (RP.i0 p + (0 + i))
  else 0),
  Value.bool
  (bif Nat.blt i (RP.len p) then
  RP.ql p (RP.i0 p + (0 + i))
  else false)])]))
  (br (decide (Int.tmod every (30 : Int) > (0 : Int)))
  (br
  (IntKind.wrap IntKind.i64
  (RP.due p +
  IntKind.wrap IntKind.i64
  (IntKind.wrap IntKind.i64
  (IntKind.wrap IntKind.u64
  (IntKind.wrap IntKind.u64
  (Int.tdiv
  (IntKind.wrap IntKind.u64
  (IntKind.wrap IntKind.u64
  (IntKind.wrap IntKind.i64
  (RP.now p +
  IntKind.wrap IntKind.i64
  (Int.tmod
  (Dd.db d
  (0 +
  Int.toNat (RP.i p)))
  (40 : Int)))) -
  IntKind.wrap IntKind.u64 (RP.due p)))
  (IntKind.wrap IntKind.u64 E)) +
  (1 : Int))) *
  E)) ==
  IntKind.wrap IntKind.i64
  (RP.now p +
  IntKind.wrap IntKind.i64
  (Int.tmod (Dd.db d (0 + Int.toNat (RP.i p)))
  (40 : Int))))
  (N AX.ret
  (mkF 161
  [(0, Value.int IntKind.u8 every),
  (1, Value.int IntKind.u8 far),
  (3,
  Value.slice
  (some (Addr.mk 0 0 (some 0)))
  (Dd.n d) (Dd.c d)),
  (9, Value.int IntKind.i64 m),
  (11,
  Value.pointer (some (Addr.mk 1 0 none))),
  (12,
  Value.int IntKind.i64
  (IntKind.wrap IntKind.i64
  (RP.now p +
  IntKind.wrap IntKind.i64
  (Int.tmod (Dd.db d (0 + Int.toNat (RP.i p)))
  (40 : Int))))),
  (13, Value.int IntKind.i64 (RP.last p)),
  (14, Value.int IntKind.i64 (RP.seq p)),
  (15, Value.bool (RP.lost p)),
  (16, Value.int IntKind.i64 (RP.i p))])
  (mkS
  [some
  (AObj.row false 5 0 (Dd.n d) fun i =>
  [Value.int IntKind.u8 (Dd.dk d i),
  Value.int IntKind.u8 (Dd.db d i),
  Value.int IntKind.i64 (Dd.vk d i),
  Value.int IntKind.i64 (Dd.vi d i),
  Value.float FloatKind.f64 (Dd.vf d i)]),
  some
  (AObj.cells
  [Value.int IntKind.i64 (1 : Int),
  Value.int IntKind.i64 (0 : Int),
  Value.int IntKind.i64 E,
  Value.int IntKind.i64
  (IntKind.wrap IntKind.i64
  (RP.due p +
  IntKind.wrap IntKind.i64
  (IntKind.wrap IntKind.i64
  (IntKind.wrap IntKind.u64
  (IntKind.wrap IntKind.u64
  (Int.tdiv
  (IntKind.wrap IntKind.u64
  (IntKind.wrap IntKind.u64
  (IntKind.wrap IntKind.i64
  (RP.now p +
  IntKind.wrap IntKind.i64
  (Int.tmod
  (Dd.db d
  (0 +
  Int.toNat
  (RP.i p)))
  (40 : Int)))) -
  IntKind.wrap IntKind.u64
  (RP.due p)))
  (IntKind.wrap IntKind.u64 E)) +
  (1 : Int))) *
  E))),
  Value.int IntKind.i64 (2 : Int),
  Value.int IntKind.i64 band,
  Value.float FloatKind.f64 0,
  Value.int IntKind.i64 m, Value.bool true,
  Value.bool true, Value.int IntKind.i64 (2 : Int),
  Value.int IntKind.i64
  (Int.tmod (Dd.vi d (0 + Int.toNat (RP.i p)))
  (20 : Int)),
  Value.float FloatKind.f64 0,
  Value.int IntKind.i64
  (IntKind.wrap IntKind.i64 (RP.S p + (1 : Int))),
  Value.slice
  (some (Addr.mk 2 0 (some 1)))
  (RP.len p + 1 - 1) 0]
  true 0),
  some
  (AObj.row true 5 0 (RP.len p + 1)
  fun i =>
  [Value.int IntKind.i64
  (bif Nat.blt i (RP.len p) then
  RP.qs p (RP.i0 p + (0 + i))
  else IntKind.wrap IntKind.i64 (RP.S p + (1 : Int))),
  Value.int IntKind.i64
  (bif Nat.blt i (RP.len p) then
  RP.qk p (RP.i0 p + (0 + i))
  else (2 : Int)),
  Value.int IntKind.i64
  (bif Nat.blt i (RP.len p) then
  RP.qi p (RP.i0 p + (0 + i))
  else
  Int.tmod (Dd.vi d (0 + Int.toNat (RP.i p)))
  (20 : Int)),
  Value.float FloatKind.f64
  (bif Nat.blt i (RP.len p) then
  RP.qf p (RP.i0 p + (0 + i))
  else 0),
  Value.bool
  (bif Nat.blt i (RP.len p) then
  RP.ql p (RP.i0 p + (0 + i))
  else false)])]))
  (N AX.normal
  (mkF 161
  [(0, Value.int IntKind.u8 every),
  (1, Value.int IntKind.u8 far),
  (3,
  Value.slice
  (some (Addr.mk 0 0 (some 0)))
  (Dd.n d) (Dd.c d)),
  (9, Value.int IntKind.i64 m),
  (11,
  Value.pointer (some (Addr.mk 1 0 none))),
  (12,
  Value.int IntKind.i64
  (IntKind.wrap IntKind.i64
  (RP.now p +
  IntKind.wrap IntKind.i64
  (Int.tmod (Dd.db d (0 + Int.toNat (RP.i p)))
  (40 : Int))))),
  (13, Value.int IntKind.i64 (RP.last p)),
  (14, Value.int IntKind.i64 (RP.seq p)),
  (15, Value.bool (RP.lost p)),
  (16,
  Value.int IntKind.i64
  (IntKind.wrap IntKind.i64 (RP.i p + (1 : Int))))])
  (mkS
  [some
  (AObj.row false 5 0 (Dd.n d) fun i =>
  [Value.int IntKind.u8 (Dd.dk d i),
  Value.int IntKind.u8 (Dd.db d i),
  Value.int IntKind.i64 (Dd.vk d i),
  Value.int IntKind.i64 (Dd.vi d i),
  Value.float FloatKind.f64 (Dd.vf d i)]),
  some
  (AObj.cells
  [Value.int IntKind.i64 (1 : Int),
  Value.int IntKind.i64 (0 : Int),
  Value.int IntKind.i64 E,
  Value.int IntKind.i64
  (IntKind.wrap IntKind.i64
  (RP.due p +
  IntKind.wrap IntKind.i64
  (IntKind.wrap IntKind.i64
  (IntKind.wrap IntKind.u64
  (IntKind.wrap IntKind.u64
  (Int.tdiv
  (IntKind.wrap IntKind.u64
  (IntKind.wrap IntKind.u64
  (IntKind.wrap IntKind.i64
  (RP.now p +
  IntKind.wrap IntKind.i64
  (Int.tmod
  (Dd.db d
  (0 +
  Int.toNat
  (RP.i p)))
  (40 : Int)))) -
  IntKind.wrap IntKind.u64
  (RP.due p)))
  (IntKind.wrap IntKind.u64 E)) +
  (1 : Int))) *
  E))),
  Value.int IntKind.i64 (2 : Int),
  Value.int IntKind.i64 band,
  Value.float FloatKind.f64 0,
  Value.int IntKind.i64 m, Value.bool true,
  Value.bool true, Value.int IntKind.i64 (2 : Int),
  Value.int IntKind.i64
  (Int.tmod (Dd.vi d (0 + Int.toNat (RP.i p)))
  (20 : Int)),
  Value.float FloatKind.f64 0,
  Value.int IntKind.i64
  (IntKind.wrap IntKind.i64 (RP.S p + (1 : Int))),
  Value.slice
  (some (Addr.mk 2 0 (some 1)))
  (RP.len p + 1 - 1) 0]
  true 0),
  some
  (AObj.row true 5 0 (RP.len p + 1)
  fun i =>
  [Value.int IntKind.i64
  (bif Nat.blt i (RP.len p) then
  RP.qs p (RP.i0 p + (0 + i))
  else IntKind.wrap IntKind.i64 (RP.S p + (1 : Int))),
  Value.int IntKind.i64
  (bif Nat.blt i (RP.len p) then
  RP.qk p (RP.i0 p + (0 + i))
  else (2 : Int)),
  Value.int IntKind.i64
  (bif Nat.blt i (RP.len p) then
  RP.qi p (RP.i0 p + (0 + i))
  else
  Int.tmod (Dd.vi d (0 + Int.toNat (RP.i p)))
  (20 : Int)),
  Value.float FloatKind.f64
  (bif Nat.blt i (RP.len p) then
  RP.qf p (RP.i0 p + (0 + i))
  else 0),
  Value.bool
  (bif Nat.blt i (RP.len p) then
  RP.ql p (RP.i0 p + (0 + i))
  else false)])])))
  (N AX.normal
  (mkF 161
  [(0, Value.int IntKind.u8 every),
  (1, Value.int IntKind.u8 far),
  (3,
  Value.slice
  (some (Addr.mk 0 0 (some 0)))
  (Dd.n d) (Dd.c d)),
  (9, Value.int IntKind.i64 m),
  (11,
  Value.pointer (some (Addr.mk 1 0 none))),
  (12,
  Value.int IntKind.i64
  (IntKind.wrap IntKind.i64
  (RP.now p +
  IntKind.wrap IntKind.i64
  (Int.tmod (Dd.db d (0 + Int.toNat (RP.i p)))
  (40 : Int))))),
  (13, Value.int IntKind.i64 (RP.last p)),
  (14, Value.int IntKind.i64 (RP.seq p)),
  (15, Value.bool (RP.lost p)),
  (16,
  Value.int IntKind.i64
  (IntKind.wrap IntKind.i64 (RP.i p + (1 : Int))))])
  (mkS
  [some
  (AObj.row false 5 0 (Dd.n d) fun i =>
  [Value.int IntKind.u8 (Dd.dk d i),
  Value.int IntKind.u8 (Dd.db d i),
  Value.int IntKind.i64 (Dd.vk d i),
  Value.int IntKind.i64 (Dd.vi d i),
  Value.float FloatKind.f64 (Dd.vf d i)]),
  some
  (AObj.cells
  [Value.int IntKind.i64 (1 : Int),
  Value.int IntKind.i64 (0 : Int), Value.int IntKind.i64 E,
  Value.int IntKind.i64
  (IntKind.wrap IntKind.i64
  (RP.due p +
  IntKind.wrap IntKind.i64
  (IntKind.wrap IntKind.i64
  (IntKind.wrap IntKind.u64
  (IntKind.wrap IntKind.u64
  (Int.tdiv
  (IntKind.wrap IntKind.u64
  (IntKind.wrap IntKind.u64
  (IntKind.wrap IntKind.i64
  (RP.now p +
  IntKind.wrap IntKind.i64
  (Int.tmod
  (Dd.db d
  (0 +
  Int.toNat (RP.i p)))
  (40 : Int)))) -
  IntKind.wrap IntKind.u64
  (RP.due p)))
  (IntKind.wrap IntKind.u64 E)) +
  (1 : Int))) *
  E))),
  Value.int IntKind.i64 (2 : Int),
  Value.int IntKind.i64 band,
  Value.float FloatKind.f64 0,
  Value.int IntKind.i64 m, Value.bool true, Value.bool true,
  Value.int IntKind.i64 (2 : Int),
  Value.int IntKind.i64
  (Int.tmod (Dd.vi d (0 + Int.toNat (RP.i p)))
  (20 : Int)),
  Value.float FloatKind.f64 0,
  Value.int IntKind.i64
  (IntKind.wrap IntKind.i64 (RP.S p + (1 : Int))),
  Value.slice
  (some (Addr.mk 2 0 (some 1)))
  (RP.len p + 1 - 1) 0]
  true 0),
  some
  (AObj.row true 5 0 (RP.len p + 1)
  fun i =>
  [Value.int IntKind.i64
  (bif Nat.blt i (RP.len p) then
  RP.qs p (RP.i0 p + (0 + i))
  else IntKind.wrap IntKind.i64 (RP.S p + (1 : Int))),
  Value.int IntKind.i64
  (bif Nat.blt i (RP.len p) then
  RP.qk p (RP.i0 p + (0 + i))
  else (2 : Int)),
  Value.int IntKind.i64
  (bif Nat.blt i (RP.len p) then
  RP.qi p (RP.i0 p + (0 + i))
  else
  Int.tmod (Dd.vi d (0 + Int.toNat (RP.i p)))
  (20 : Int)),
  Value.float FloatKind.f64
  (bif Nat.blt i (RP.len p) then
  RP.qf p (RP.i0 p + (0 + i))
  else 0),
  Value.bool
  (bif Nat.blt i (RP.len p) then
  RP.ql p (RP.i0 p + (0 + i))
  else false)])])))))
  (need (Nat.blt 0 (RP.len p + 1 - 1))
  (need (Nat.blt 1 (RP.len p + 1))
  (br (decide (Int.ofNat (RP.len p + 1 - 1) > m))
  (onP N AX.ret
  (shpB d every far E band m
  (RP.mk (RP.i p) 1 (RP.len p + 1)
  (RP.len p + 1 - 1) 0
  (IntKind.wrap IntKind.i64
  (RP.now p +
  IntKind.wrap IntKind.i64
  (Int.tmod (Dd.db d (0 + Int.toNat (RP.i p)))
  (40 : Int))))
  (RP.last p) (RP.seq p) (RP.lost p)
  (IntKind.wrap IntKind.i64
  (RP.due p +
  IntKind.wrap IntKind.i64
  (IntKind.wrap IntKind.i64
  (IntKind.wrap IntKind.u64
  (IntKind.wrap IntKind.u64
  (Int.tdiv
  (IntKind.wrap IntKind.u64
  (IntKind.wrap IntKind.u64
  (IntKind.wrap IntKind.i64
  (RP.now p +
  IntKind.wrap IntKind.i64
  (Int.tmod
  (Dd.db d
  (0 +
  Int.toNat (RP.i p)))
  (40 : Int)))) -
  IntKind.wrap IntKind.u64 (RP.due p)))
  (IntKind.wrap IntKind.u64 E)) +
  (1 : Int))) *
  E)))
  (Int.tmod (Dd.vi d (0 + Int.toNat (RP.i p))) (20 : Int))
  (IntKind.wrap IntKind.i64 (RP.S p + (1 : Int)))
  (fun i =>
  bif Nat.beq i 1 then
  bif Nat.blt 1 (RP.len p) then
  RP.qs p (RP.i0 p + 1)
  else IntKind.wrap IntKind.i64 (RP.S p + (1 : Int))
  else
  bif Nat.blt i (RP.len p) then
  RP.qs p (RP.i0 p + (0 + i))
  else IntKind.wrap IntKind.i64 (RP.S p + (1 : Int)))
  (fun i =>
  bif Nat.beq i 1 then
  bif Nat.blt 1 (RP.len p) then
  RP.qk p (RP.i0 p + 1)
  else (2 : Int)
  else
  bif Nat.blt i (RP.len p) then
  RP.qk p (RP.i0 p + (0 + i))
  else (2 : Int))
  (fun i =>
  bif Nat.beq i 1 then
  bif Nat.blt 1 (RP.len p) then
  RP.qi p (RP.i0 p + 1)
  else
  Int.tmod (Dd.vi d (0 + Int.toNat (RP.i p)))
  (20 : Int)
  else
  bif Nat.blt i (RP.len p) then
  RP.qi p (RP.i0 p + (0 + i))
  else
  Int.tmod (Dd.vi d (0 + Int.toNat (RP.i p)))
  (20 : Int))
  (fun i =>
  bif Nat.beq i 1 then
  bif Nat.blt 1 (RP.len p) then
  RP.qf p (RP.i0 p + 1)
  else 0
  else
  bif Nat.blt i (RP.len p) then
  RP.qf p (RP.i0 p + (0 + i))
  else 0)
  fun i =>
  bif Nat.beq i 1 then true
  else
  bif Nat.blt i (RP.len p) then
  RP.ql p (RP.i0 p + (0 + i))
  else false)))
  (br
  (decide
  (IntKind.wrap IntKind.i64
  (RP.due p +
  IntKind.wrap IntKind.i64
  (IntKind.wrap IntKind.i64
  (IntKind.wrap IntKind.u64
  (IntKind.wrap IntKind.u64
  (Int.tdiv
  (IntKind.wrap IntKind.u64
  (IntKind.wrap IntKind.u64
  (IntKind.wrap IntKind.i64
  (RP.now p +
  IntKind.wrap IntKind.i64
  (Int.tmod
  (Dd.db d
  (0 +
  Int.toNat (RP.i p)))
  (40 : Int)))) -
  IntKind.wrap IntKind.u64 (RP.due p)))
  (IntKind.wrap IntKind.u64 E)) +
  (1 : Int))) *
  E)) <
  IntKind.wrap IntKind.i64
  (RP.now p +
  IntKind.wrap IntKind.i64
  (Int.tmod (Dd.db d (0 + Int.toNat (RP.i p)))
  (40 : Int)))))
  (onP N AX.ret
  (shpB d every far E band m
  (RP.mk (RP.i p) 1 (RP.len p + 1)
  (RP.len p + 1 - 1) 0
  (IntKind.wrap IntKind.i64
  (RP.now p +
  IntKind.wrap IntKind.i64
  (Int.tmod (Dd.db d (0 + Int.toNat (RP.i p)))
  (40 : Int))))
  (RP.last p) (RP.seq p) (RP.lost p)
  (IntKind.wrap IntKind.i64
  (RP.due p +
  IntKind.wrap IntKind.i64
  (IntKind.wrap IntKind.i64
  (IntKind.wrap IntKind.u64
  (IntKind.wrap IntKind.u64
  (Int.tdiv
  (IntKind.wrap IntKind.u64
  (IntKind.wrap IntKind.u64
  (IntKind.wrap IntKind.i64
  (RP.now p +
  IntKind.wrap IntKind.i64
  (Int.tmod
  (Dd.db d
  (0 +
  Int.toNat (RP.i p)))
  (40 : Int)))) -
  IntKind.wrap IntKind.u64 (RP.due p)))
  (IntKind.wrap IntKind.u64 E)) +
  (1 : Int))) *
  E)))
  (Int.tmod (Dd.vi d (0 + Int.toNat (RP.i p)))
  (20 : Int))
  (IntKind.wrap IntKind.i64 (RP.S p + (1 : Int)))
  (fun i =>
  bif Nat.beq i 1 then
  bif Nat.blt 1 (RP.len p) then
  RP.qs p (RP.i0 p + 1)
  else IntKind.wrap IntKind.i64 (RP.S p + (1 : Int))
  else
  bif Nat.blt i (RP.len p) then
  RP.qs p (RP.i0 p + (0 + i))
  else IntKind.wrap IntKind.i64 (RP.S p + (1 : Int)))
  (fun i =>
  bif Nat.beq i 1 then
  bif Nat.blt 1 (RP.len p) then
  RP.qk p (RP.i0 p + 1)
  else (2 : Int)
  else
  bif Nat.blt i (RP.len p) then
  RP.qk p (RP.i0 p + (0 + i))
  else (2 : Int))
  (fun i =>
  bif Nat.beq i 1 then
  bif Nat.blt 1 (RP.len p) then
  RP.qi p (RP.i0 p + 1)
  else
  Int.tmod (Dd.vi d (0 + Int.toNat (RP.i p)))
  (20 : Int)
  else
  bif Nat.blt i (RP.len p) then
  RP.qi p (RP.i0 p + (0 + i))
  else
  Int.tmod (Dd.vi d (0 + Int.toNat (RP.i p)))
  (20 : Int))
  (fun i =>
  bif Nat.beq i 1 then
  bif Nat.blt 1 (RP.len p) then
  RP.qf p (RP.i0 p + 1)
  else 0
  else
  bif Nat.blt i (RP.len p) then
  RP.qf p (RP.i0 p + (0 + i))
  else 0)
  fun i =>
  bif Nat.beq i 1 then true
  else
  bif Nat.blt i (RP.len p) then
  RP.ql p (RP.i0 p + (0 + i))
  else false)))
  (br (decide (Int.tmod every (30 : Int) > (0 : Int)))
  (br
  (IntKind.wrap IntKind.i64
  (RP.due p +
  IntKind.wrap IntKind.i64
  (IntKind.wrap IntKind.i64
  (IntKind.wrap IntKind.u64
  (IntKind.wrap IntKind.u64
  (Int.tdiv
  (IntKind.wrap IntKind.u64
  (IntKind.wrap IntKind.u64
  (IntKind.wrap IntKind.i64
  (RP.now p +
  IntKind.wrap IntKind.i64
  (Int.tmod
  (Dd.db d
  (0 +
  Int.toNat (RP.i p)))
  (40 : Int)))) -
  IntKind.wrap IntKind.u64 (RP.due p)))
  (IntKind.wrap IntKind.u64 E)) +
  (1 : Int))) *
  E)) ==
  IntKind.wrap IntKind.i64
  (RP.now p +
  IntKind.wrap IntKind.i64
  (Int.tmod (Dd.db d (0 + Int.toNat (RP.i p)))
  (40 : Int))))
  (onP N AX.ret
  (shpB d every far E band m
  (RP.mk (RP.i p) 1 (RP.len p + 1)
  (RP.len p + 1 - 1) 0
  (IntKind.wrap IntKind.i64
  (RP.now p +
  IntKind.wrap IntKind.i64
  (Int.tmod (Dd.db d (0 + Int.toNat (RP.i p)))
  (40 : Int))))
  (RP.last p) (RP.seq p) (RP.lost p)
  (IntKind.wrap IntKind.i64
  (RP.due p +
  IntKind.wrap IntKind.i64
  (IntKind.wrap IntKind.i64
  (IntKind.wrap IntKind.u64
  (IntKind.wrap IntKind.u64
  (Int.tdiv
  (IntKind.wrap IntKind.u64
  (IntKind.wrap IntKind.u64
  (IntKind.wrap IntKind.i64
  (RP.now p +
  IntKind.wrap IntKind.i64
  (Int.tmod
  (Dd.db d
  (0 +
  Int.toNat (RP.i p)))
  (40 : Int)))) -
  IntKind.wrap IntKind.u64
  (RP.due p)))
  (IntKind.wrap IntKind.u64 E)) +
  (1 : Int))) *
  E)))
  (Int.tmod (Dd.vi d (0 + Int.toNat (RP.i p)))
  (20 : Int))
  (IntKind.wrap IntKind.i64 (RP.S p + (1 : Int)))
  (fun i =>
  bif Nat.beq i 1 then
  bif Nat.blt 1 (RP.len p) then
  RP.qs p (RP.i0 p + 1)
  else IntKind.wrap IntKind.i64 (RP.S p + (1 : Int))
  else
  bif Nat.blt i (RP.len p) then
  RP.qs p (RP.i0 p + (0 + i))
  else IntKind.wrap IntKind.i64 (RP.S p + (1 : Int)))
  (fun i =>
  bif Nat.beq i 1 then
  bif Nat.blt 1 (RP.len p) then
  RP.qk p (RP.i0 p + 1)
  else (2 : Int)
  else
  bif Nat.blt i (RP.len p) then
  RP.qk p (RP.i0 p + (0 + i))
  else (2 : Int))
  (fun i =>
  bif Nat.beq i 1 then
  bif Nat.blt 1 (RP.len p) then
  RP.qi p (RP.i0 p + 1)
  else
  Int.tmod (Dd.vi d (0 + Int.toNat (RP.i p)))
  (20 : Int)
  else
  bif Nat.blt i (RP.len p) then
  RP.qi p (RP.i0 p + (0 + i))
  else
  Int.tmod (Dd.vi d (0 + Int.toNat (RP.i p)))
  (20 : Int))
  (fun i =>
  bif Nat.beq i 1 then
  bif Nat.blt 1 (RP.len p) then
  RP.qf p (RP.i0 p + 1)
  else 0
  else
  bif Nat.blt i (RP.len p) then
  RP.qf p (RP.i0 p + (0 + i))
  else 0)
  fun i =>
  bif Nat.beq i 1 then true
  else
  bif Nat.blt i (RP.len p) then
  RP.ql p (RP.i0 p + (0 + i))
  else false)))
  (onP N AX.normal
  (shpB d every far E band m
  (RP.mk (IntKind.wrap IntKind.i64 (RP.i p + (1 : Int)))
  1 (RP.len p + 1)
  (RP.len p + 1 - 1) 0
  (IntKind.wrap IntKind.i64
  (RP.now p +
  IntKind.wrap IntKind.i64
  (Int.tmod (Dd.db d (0 + Int.toNat (RP.i p)))
  (40 : Int))))
  (RP.last p) (RP.seq p) (RP.lost p)
  (IntKind.wrap IntKind.i64
  (RP.due p +
  IntKind.wrap IntKind.i64
  (IntKind.wrap IntKind.i64
  (IntKind.wrap IntKind.u64
  (IntKind.wrap IntKind.u64
  (Int.tdiv
  (IntKind.wrap IntKind.u64
  (IntKind.wrap IntKind.u64
  (IntKind.wrap IntKind.i64
  (RP.now p +
  IntKind.wrap IntKind.i64
  (Int.tmod
  (Dd.db d
  (0 +
  Int.toNat (RP.i p)))
  (40 : Int)))) -
  IntKind.wrap IntKind.u64
  (RP.due p)))
  (IntKind.wrap IntKind.u64 E)) +
  (1 : Int))) *
  E)))
  (Int.tmod (Dd.vi d (0 + Int.toNat (RP.i p)))
  (20 : Int))
  (IntKind.wrap IntKind.i64 (RP.S p + (1 : Int)))
  (fun i =>
  bif Nat.beq i 1 then
  bif Nat.blt 1 (RP.len p) then
  RP.qs p (RP.i0 p + 1)
  else IntKind.wrap IntKind.i64 (RP.S p + (1 : Int))
  else
  bif Nat.blt i (RP.len p) then
  RP.qs p (RP.i0 p + (0 + i))
  else IntKind.wrap IntKind.i64 (RP.S p + (1 : Int)))
  (fun i =>
  bif Nat.beq i 1 then
  bif Nat.blt 1 (RP.len p) then
  RP.qk p (RP.i0 p + 1)
  else (2 : Int)
  else
  bif Nat.blt i (RP.len p) then
  RP.qk p (RP.i0 p + (0 + i))
  else (2 : Int))
  (fun i =>
  bif Nat.beq i 1 then
  bif Nat.blt 1 (RP.len p) then
  RP.qi p (RP.i0 p + 1)
  else
  Int.tmod (Dd.vi d (0 + Int.toNat (RP.i p)))
  (20 : Int)
  else
  bif Nat.blt i (RP.len p) then
  RP.qi p (RP.i0 p + (0 + i))
  else
  Int.tmod (Dd.vi d (0 + Int.toNat (RP.i p)))
  (20 : Int))
  (fun i =>
  bif Nat.beq i 1 then
  bif Nat.blt 1 (RP.len p) then
  RP.qf p (RP.i0 p + 1)
  else 0
  else
  bif Nat.blt i (RP.len p) then
  RP.qf p (RP.i0 p + (0 + i))
  else 0)
  fun i =>
  bif Nat.beq i 1 then true
  else
  bif Nat.blt i (RP.len p) then
  RP.ql p (RP.i0 p + (0 + i))
  else false))))
  (onP N AX.normal
  (shpB d every far E band m
  (RP.mk (IntKind.wrap IntKind.i64 (RP.i p + (1 : Int)))
  1 (RP.len p + 1)
  (RP.len p + 1 - 1) 0
  (IntKind.wrap IntKind.i64
  (RP.now p +
  IntKind.wrap IntKind.i64
  (Int.tmod (Dd.db d (0 + Int.toNat (RP.i p)))
  (40 : Int))))
  (RP.last p) (RP.seq p) (RP.lost p)
  (IntKind.wrap IntKind.i64
  (RP.due p +
  IntKind.wrap IntKind.i64
  (IntKind.wrap IntKind.i64
  (IntKind.wrap IntKind.u64
  (IntKind.wrap IntKind.u64
  (Int.tdiv
  (IntKind.wrap IntKind.u64
  (IntKind.wrap IntKind.u64
  (IntKind.wrap IntKind.i64
  (RP.now p +
  IntKind.wrap IntKind.i64
  (Int.tmod
  (Dd.db d
  (0 +
  Int.toNat (RP.i p)))
  (40 : Int)))) -
  IntKind.wrap IntKind.u64 (RP.due p)))
  (IntKind.wrap IntKind.u64 E)) +
  (1 : Int))) *
  E)))
  (Int.tmod (Dd.vi d (0 + Int.toNat (RP.i p)))
  (20 : Int))
  (IntKind.wrap IntKind.i64 (RP.S p + (1 : Int)))
  (fun i =>
  bif Nat.beq i 1 then
  bif Nat.blt 1 (RP.len p) then
  RP.qs p (RP.i0 p + 1)
  else IntKind.wrap IntKind.i64 (RP.S p + (1 : Int))
  else
  bif Nat.blt i (RP.len p) then
  RP.qs p (RP.i0 p + (0 + i))
  else IntKind.wrap IntKind.i64 (RP.S p + (1 : Int)))
  (fun i =>
  bif Nat.beq i 1 then
  bif Nat.blt 1 (RP.len p) then
  RP.qk p (RP.i0 p + 1)
  else (2 : Int)
  else
  bif Nat.blt i (RP.len p) then
  RP.qk p (RP.i0 p + (0 + i))
  else (2 : Int))
  (fun i =>
  bif Nat.beq i 1 then
  bif Nat.blt 1 (RP.len p) then
  RP.qi p (RP.i0 p + 1)
  else
  Int.tmod (Dd.vi d (0 + Int.toNat (RP.i p)))
  (20 : Int)
  else
  bif Nat.blt i (RP.len p) then
  RP.qi p (RP.i0 p + (0 + i))
  else
  Int.tmod (Dd.vi d (0 + Int.toNat (RP.i p)))
  (20 : Int))
  (fun i =>
  bif Nat.beq i 1 then
  bif Nat.blt 1 (RP.len p) then
  RP.qf p (RP.i0 p + 1)
  else 0
  else
  bif Nat.blt i (RP.len p) then
  RP.qf p (RP.i0 p + (0 + i))
  else 0)
  fun i =>
  bif Nat.beq i 1 then true
  else
  bif Nat.blt i (RP.len p) then
  RP.ql p (RP.i0 p + (0 + i))
  else false))))))))))))))))))))))
  (need (Nat.ble 0 (RP.i0 p) && Nat.ble (RP.i0 p + RP.len p) (RP.nn p))
  (need (Nat.ble (RP.len p) 1000000)
  (need
  (allS (RP.len p) fun j =>
  (fun i =>
  [Value.int IntKind.i64 (RP.qs p i), Value.int IntKind.i64 (RP.qk p i),
  Value.int IntKind.i64 (RP.qi p i), Value.float FloatKind.f64 (RP.qf p i),
  Value.bool (RP.ql p i)])
  (RP.i0 p + j))
  (br (Int.ofNat (RP.len p) == (0 : Int))
  (onP N AX.normal
  (shpB d every far E band m
  (RP.mk (IntKind.wrap IntKind.i64 (RP.i p + (1 : Int))) 0 (RP.len p) (RP.len p)
  (RP.c p)
  (IntKind.wrap IntKind.i64
  (RP.now p +
  IntKind.wrap IntKind.i64
  (Int.tmod (Dd.db d (0 + Int.toNat (RP.i p))) (40 : Int))))
  (RP.last p) (RP.seq p) (RP.lost p) (RP.due p) (RP.li p) (RP.S p)
  (fun i => RP.qs p (RP.i0 p + i)) (fun i => RP.qk p (RP.i0 p + i))
  (fun i => RP.qi p (RP.i0 p + i)) (fun i => RP.qf p (RP.i0 p + i)) fun i =>
  RP.ql p (RP.i0 p + i))))
  (need (Nat.blt 0 (RP.len p))
  (need (true && Nat.blt 0 (RP.len p))
  (need (Nat.ble 1 (RP.len p))
  (br (decide (RP.qs p (RP.i0 p + 0) ≤ RP.seq p))
  (onP N AX.ret
  (shpB d every far E band m
  (RP.mk (RP.i p) 1 (RP.len p) (RP.len p - 1)
  (bif Nat.beq (RP.len p) 0 then RP.c p else 0)
  (IntKind.wrap IntKind.i64
  (RP.now p +
  IntKind.wrap IntKind.i64
  (Int.tmod (Dd.db d (0 + Int.toNat (RP.i p))) (40 : Int))))
  (RP.last p) (RP.seq p) (RP.lost p) (RP.due p) (RP.li p) (RP.S p)
  (fun i => RP.qs p (RP.i0 p + i)) (fun i => RP.qk p (RP.i0 p + i))
  (fun i => RP.qi p (RP.i0 p + i)) (fun i => RP.qf p (RP.i0 p + i)) fun i =>
  RP.ql p (RP.i0 p + i))))
  (br
  (!(RP.qs p (RP.i0 p + 0) !=
  IntKind.wrap IntKind.i64 (RP.seq p + (1 : Int))) ==
  RP.ql p (RP.i0 p + 0))
  (onP N AX.ret
  (shpB d every far E band m
  (RP.mk (RP.i p) 1 (RP.len p) (RP.len p - 1)
  (bif Nat.beq (RP.len p) 0 then RP.c p else 0)
  (IntKind.wrap IntKind.i64
  (RP.now p +
  IntKind.wrap IntKind.i64
  (Int.tmod (Dd.db d (0 + Int.toNat (RP.i p))) (40 : Int))))
  (RP.last p) (RP.seq p) (RP.lost p) (RP.due p) (RP.li p) (RP.S p)
  (fun i => RP.qs p (RP.i0 p + i)) (fun i => RP.qk p (RP.i0 p + i))
  (fun i => RP.qi p (RP.i0 p + i)) (fun i => RP.qf p (RP.i0 p + i)) fun i =>
  RP.ql p (RP.i0 p + i))))
  (br (RP.qk p (RP.i0 p + 0) != (2 : Int))
  (onP N AX.ret
  (shpB d every far E band m
  (RP.mk (RP.i p) 1 (RP.len p) (RP.len p - 1)
  (bif Nat.beq (RP.len p) 0 then RP.c p else 0)
  (IntKind.wrap IntKind.i64
  (RP.now p +
  IntKind.wrap IntKind.i64
  (Int.tmod (Dd.db d (0 + Int.toNat (RP.i p))) (40 : Int))))
  (RP.last p) (RP.seq p) (RP.lost p) (RP.due p) (RP.li p) (RP.S p)
  (fun i => RP.qs p (RP.i0 p + i)) (fun i => RP.qk p (RP.i0 p + i))
  (fun i => RP.qi p (RP.i0 p + i)) (fun i => RP.qf p (RP.i0 p + i)) fun i =>
  RP.ql p (RP.i0 p + i))))
  (br
  (!RP.qs p (RP.i0 p + 0) !=
  IntKind.wrap IntKind.i64 (RP.seq p + (1 : Int)))
  (br (decide (RP.seq p > (0 : Int)))
  (br
  (decide
  (IntKind.wrap IntKind.i64
  ((if RP.last p > RP.qi p (RP.i0 p + 0) then RP.last p
  else RP.qi p (RP.i0 p + 0)) -
  if RP.last p < RP.qi p (RP.i0 p + 0) then RP.last p
  else RP.qi p (RP.i0 p + 0)) ≤
  IntKind.wrap IntKind.i64 (Int.tmod far (5 : Int))))
  (onP N AX.ret
  (shpB d every far E band m
  (RP.mk (RP.i p) 1 (RP.len p) (RP.len p - 1)
  (bif Nat.beq (RP.len p) 0 then RP.c p else 0)
  (IntKind.wrap IntKind.i64
  (RP.now p +
  IntKind.wrap IntKind.i64
  (Int.tmod (Dd.db d (0 + Int.toNat (RP.i p))) (40 : Int))))
  (RP.last p) (RP.seq p) (RP.lost p) (RP.due p) (RP.li p) (RP.S p)
  (fun i => RP.qs p (RP.i0 p + i)) (fun i => RP.qk p (RP.i0 p + i))
  (fun i => RP.qi p (RP.i0 p + i)) (fun i => RP.qf p (RP.i0 p + i))
  fun i => RP.ql p (RP.i0 p + i))))
  (br (RP.lost p)
  (onP N AX.normal
  (shpB d every far E band m
  (RP.mk (IntKind.wrap IntKind.i64 (RP.i p + (1 : Int))) 1
  (RP.len p) (RP.len p - 1)
  (bif Nat.beq (RP.len p) 0 then RP.c p else 0)
  (IntKind.wrap IntKind.i64
  (RP.now p +
  IntKind.wrap IntKind.i64
  (Int.tmod (Dd.db d (0 + Int.toNat (RP.i p)))
  (40 : Int))))
  (RP.qi p (RP.i0 p + 0)) (RP.qs p (RP.i0 p + 0)) true
  (RP.due p) (RP.li p) (RP.S p) (fun i => RP.qs p (RP.i0 p + i))
  (fun i => RP.qk p (RP.i0 p + i)) (fun i => RP.qi p (RP.i0 p + i))
  (fun i => RP.qf p (RP.i0 p + i)) fun i => RP.ql p (RP.i0 p + i))))
  (onP N AX.normal
  (shpB d every far E band m
  (RP.mk (IntKind.wrap IntKind.i64 (RP.i p + (1 : Int))) 1
  (RP.len p) (RP.len p - 1)
  (bif Nat.beq (RP.len p) 0 then RP.c p else 0)
  (IntKind.wrap IntKind.i64
  (RP.now p +
  IntKind.wrap IntKind.i64
  (Int.tmod (Dd.db d (0 + Int.toNat (RP.i p)))
  (40 : Int))))
  (RP.qi p (RP.i0 p + 0)) (RP.qs p (RP.i0 p + 0))
  (RP.qs p (RP.i0 p + 0) !=
  IntKind.wrap IntKind.i64 (RP.seq p + (1 : Int)))
  (RP.due p) (RP.li p) (RP.S p) (fun i => RP.qs p (RP.i0 p + i))
  (fun i => RP.qk p (RP.i0 p + i)) (fun i => RP.qi p (RP.i0 p + i))
  (fun i => RP.qf p (RP.i0 p + i)) fun i => RP.ql p (RP.i0 p + i))))))
  (br (RP.lost p)
  (onP N AX.normal
  (shpB d every far E band m
  (RP.mk (IntKind.wrap IntKind.i64 (RP.i p + (1 : Int))) 1
  (RP.len p) (RP.len p - 1)
  (bif Nat.beq (RP.len p) 0 then RP.c p else 0)
  (IntKind.wrap IntKind.i64
  (RP.now p +
  IntKind.wrap IntKind.i64
  (Int.tmod (Dd.db d (0 + Int.toNat (RP.i p))) (40 : Int))))
  (RP.qi p (RP.i0 p + 0)) (RP.qs p (RP.i0 p + 0)) true
  (RP.due p) (RP.li p) (RP.S p) (fun i => RP.qs p (RP.i0 p + i))
  (fun i => RP.qk p (RP.i0 p + i)) (fun i => RP.qi p (RP.i0 p + i))
  (fun i => RP.qf p (RP.i0 p + i)) fun i => RP.ql p (RP.i0 p + i))))
  (onP N AX.normal
  (shpB d every far E band m
  (RP.mk (IntKind.wrap IntKind.i64 (RP.i p + (1 : Int))) 1
  (RP.len p) (RP.len p - 1)
  (bif Nat.beq (RP.len p) 0 then RP.c p else 0)
  (IntKind.wrap IntKind.i64
  (RP.now p +
  IntKind.wrap IntKind.i64
  (Int.tmod (Dd.db d (0 + Int.toNat (RP.i p))) (40 : Int))))
  (RP.qi p (RP.i0 p + 0)) (RP.qs p (RP.i0 p + 0))
  (RP.qs p (RP.i0 p + 0) !=
  IntKind.wrap IntKind.i64 (RP.seq p + (1 : Int)))
  (RP.due p) (RP.li p) (RP.S p) (fun i => RP.qs p (RP.i0 p + i))
  (fun i => RP.qk p (RP.i0 p + i)) (fun i => RP.qi p (RP.i0 p + i))
  (fun i => RP.qf p (RP.i0 p + i)) fun i => RP.ql p (RP.i0 p + i))))))
  (br (RP.lost p)
  (onP N AX.normal
  (shpB d every far E band m
  (RP.mk (IntKind.wrap IntKind.i64 (RP.i p + (1 : Int))) 1 (RP.len p)
  (RP.len p - 1)
  (bif Nat.beq (RP.len p) 0 then RP.c p else 0)
  (IntKind.wrap IntKind.i64
  (RP.now p +
  IntKind.wrap IntKind.i64
  (Int.tmod (Dd.db d (0 + Int.toNat (RP.i p))) (40 : Int))))
  (RP.qi p (RP.i0 p + 0)) (RP.qs p (RP.i0 p + 0)) true
  (RP.due p) (RP.li p) (RP.S p) (fun i => RP.qs p (RP.i0 p + i))
  (fun i => RP.qk p (RP.i0 p + i)) (fun i => RP.qi p (RP.i0 p + i))
  (fun i => RP.qf p (RP.i0 p + i)) fun i => RP.ql p (RP.i0 p + i))))
  (onP N AX.normal
  (shpB d every far E band m
  (RP.mk (IntKind.wrap IntKind.i64 (RP.i p + (1 : Int))) 1 (RP.len p)
  (RP.len p - 1)
  (bif Nat.beq (RP.len p) 0 then RP.c p else 0)
  (IntKind.wrap IntKind.i64
  (RP.now p +
  IntKind.wrap IntKind.i64
  (Int.tmod (Dd.db d (0 + Int.toNat (RP.i p))) (40 : Int))))
  (RP.qi p (RP.i0 p + 0)) (RP.qs p (RP.i0 p + 0))
  (RP.qs p (RP.i0 p + 0) !=
  IntKind.wrap IntKind.i64 (RP.seq p + (1 : Int)))
  (RP.due p) (RP.li p) (RP.S p) (fun i => RP.qs p (RP.i0 p + i))
  (fun i => RP.qk p (RP.i0 p + i)) (fun i => RP.qi p (RP.i0 p + i))
  (fun i => RP.qf p (RP.i0 p + i)) fun i =>
  RP.ql p (RP.i0 p + i)))))))))))))))))))))))
  (onP N (AX.exit 0)
  (shpB d every far E band m
  (RP.mk (RP.i p) (RP.i0 p) (RP.nn p) (RP.len p) (RP.c p) (RP.now p) (RP.last p) (RP.seq p) (RP.lost p) (RP.due p)
  (RP.li p) (RP.S p) (RP.qs p) (RP.qk p) (RP.qi p) (RP.qf p) (RP.ql p))))) := by kernel_rfl
end Go.Proofs.Ytlbccgoheiaheaa.Ev
