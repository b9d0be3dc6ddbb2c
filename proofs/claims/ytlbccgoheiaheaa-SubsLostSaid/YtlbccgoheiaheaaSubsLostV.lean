/-
  SubsLost: what has to hold, printed by the evaluator.
-/
import Derived.Test.YtlbccgoheiaheaaSubsS
set_option linter.unusedVariables false
set_option maxRecDepth 1000000
namespace Go.Proofs.Ytlbccgoheiaheaa.Ev
open Go Go.Proofs
def exEnd (n : Nat) (l : List (Option AObj)) : Nat → Kt → Prop := fun b K => K (.exit b) (mkF n []) (mkS l)
def lvOf (l : List Nat) : AX → List Nat := fun x => match x with
  | .normal => l
  | _ => []
structure QP where
  i : Nat
  i0 : Nat
  nn : Nat
  len : Nat
  c : Nat
  due : Int
  li : Int
  seq : Int
  qs : Nat → Int
  qk : Nat → Int
  qi : Nat → Int
  qf : Nat → Nat
  ql : Nat → Bool
def queRow (p : QP) : AObj := .row true 5 0 p.nn fun i => [.int .i64 (p.qs i), .int .i64 (p.qk i), .int .i64 (p.qi i), .float .f64 (p.qf i), .bool (p.ql i)]
def lostCells (m : Int) (has : Bool) (lk : Int) (p : QP) : List Value := [.int .i64 1, .int .i64 0, .int .i64 0, .int .i64 p.due, .int .i64 0, .int .i64 0, .float .f64 0, .int .i64 m, .bool has, .bool false, .int .i64 lk, .int .i64 p.li, .float .f64 0, .int .i64 p.seq, .slice (some ⟨1, 0, some p.i0⟩) p.len p.c]
def FL1 (m k : Int) (p : QP) : AFr := mkF 109 [(5, .int .i64 m), (6, .int .i64 k), (7, .pointer (some ⟨0, 0, none⟩)), (8, .int .i64 (Int.ofNat p.i))]
def FL2 (m k : Int) (p : QP) : AFr := mkF 109 [(5, .int .i64 m), (6, .int .i64 k), (7, .pointer (some ⟨0, 0, none⟩)), (9, .int .i64 (Int.ofNat p.i))]
def SL (m : Int) (has : Bool) (lk : Int) (p : QP) : ASt := mkS [some (.cells (lostCells m has lk p) true 0), some (queRow p)]
def lvL : Nat → List Nat := fun b => match b with
  | 0 => [5, 6, 7, 8]
  | _ => [5, 6, 7, 9]
def exL (m k : Int) (Post1 Post2 : Bool → Int → QP → Prop) : Nat → Kt → Prop := fun b K => match b with
  | 0 => ∀ has lk p, Post1 has lk p → K (.exit 0) (FL1 m k p) (SL m has lk p)
  | b => ∀ has lk p, Post2 has lk p → K (.exit b) (FL2 m k p) (SL m has lk p)
theorem vc_lost (n most m k : Int) (Post1 Post2 : Bool → Int → QP → Prop) (β : Bs) : lawJ Try.prog toldB 100 20 β (fun _ => 0) (cnOf 0 lvL) (exL m k Post1 Post2) 6 [.int .u8 n, .int .u8 most] st0 trueV =
(  LoopJ Try.prog β (exL m k Post1 Post2) (0 : Nat) (loopOf Try.prog (6 : FuncId) (0 : Nat))
      (mkF (109 : Nat)
        [((5 : Nat),
            Value.int IntKind.i64
              (IntKind.wrap IntKind.i64 ((1 : Int) + IntKind.wrap IntKind.i64 (Int.tmod most (8 : Int))))),
          ((6 : Nat), Value.int IntKind.i64 (IntKind.wrap IntKind.i64 (Int.tmod n (30 : Int)))),
          ((7 : Nat), Value.pointer (some { block := (0 : Nat), off := (0 : Nat) })),
          ((8 : Nat), Value.int IntKind.i64 (0 : Int))])
      (mkS
        [some
            (AObj.cells
              [Value.int IntKind.i64 (1 : Int), Value.int IntKind.i64 (0 : Int), Value.int IntKind.i64 (0 : Int),
                Value.int IntKind.i64 (0 : Int), Value.int IntKind.i64 (0 : Int), Value.int IntKind.i64 (0 : Int),
                Value.float FloatKind.f64 (0 : Nat),
                Value.int IntKind.i64
                  (IntKind.wrap IntKind.i64 ((1 : Int) + IntKind.wrap IntKind.i64 (Int.tmod most (8 : Int)))),
                Value.bool false, Value.bool false, Value.int IntKind.i64 (0 : Int), Value.int IntKind.i64 (0 : Int),
                Value.float FloatKind.f64 (0 : Nat), Value.int IntKind.i64 (0 : Int),
                Value.slice none (0 : Nat) (0 : Nat)]
              true (0 : Nat))]) ∧
    ∀ (has : Bool) (lk : Int) (p : QP),
      Post1 has lk p →
        br (Int.ofNat (QP.len p) != if m < k then m else k) False
          (br (QP.seq p != k) False
            (LoopJ Try.prog β (exL m k Post1 Post2) (2 : Nat) (loopOf Try.prog (6 : FuncId) (2 : Nat))
                (mkF (109 : Nat)
                  [((5 : Nat), Value.int IntKind.i64 m), ((6 : Nat), Value.int IntKind.i64 k),
                    ((7 : Nat), Value.pointer (some { block := (0 : Nat), off := (0 : Nat) })),
                    ((9 : Nat), Value.int IntKind.i64 (0 : Int))])
                (mkS
                  [some
                      (AObj.cells
                        [Value.int IntKind.i64 (1 : Int), Value.int IntKind.i64 (0 : Int),
                          Value.int IntKind.i64 (0 : Int), Value.int IntKind.i64 (QP.due p),
                          Value.int IntKind.i64 (0 : Int), Value.int IntKind.i64 (0 : Int),
                          Value.float FloatKind.f64 (0 : Nat), Value.int IntKind.i64 m, Value.bool has, Value.bool false,
                          Value.int IntKind.i64 lk, Value.int IntKind.i64 (QP.li p), Value.float FloatKind.f64 (0 : Nat),
                          Value.int IntKind.i64 (QP.seq p),
                          Value.slice (some { block := (1 : Nat), off := (0 : Nat), spot := some (QP.i0 p) }) (QP.len p)
                            (QP.c p)]
                        true (0 : Nat)),
                    some
                      (AObj.row true (5 : Nat) (0 : Nat) (QP.nn p) fun i =>
                        [Value.int IntKind.i64 (QP.qs p i), Value.int IntKind.i64 (QP.qk p i),
                          Value.int IntKind.i64 (QP.qi p i), Value.float FloatKind.f64 (QP.qf p i),
                          Value.bool (QP.ql p i)])]) ∧
              ∀ (has : Bool) (lk : Int) (p : QP),
                Post2 has lk p →
                  need (Nat.ble (0 : Nat) (QP.i0 p) && Nat.ble (QP.i0 p + QP.len p) (QP.nn p))
                    (need (Nat.ble (QP.len p) (1000000 : Nat))
                      (need
                        (allS (QP.len p) fun j =>
                          (fun i =>
                              [Value.int IntKind.i64 (QP.qs p i), Value.int IntKind.i64 (QP.qk p i),
                                Value.int IntKind.i64 (QP.qi p i), Value.float FloatKind.f64 (QP.qf p i),
                                Value.bool (QP.ql p i)])
                            (QP.i0 p + j))
                        (br (Int.ofNat (QP.len p) == (0 : Int)) True
                          (need (Nat.blt (0 : Nat) (QP.len p))
                            (need (true && Nat.blt (0 : Nat) (QP.len p))
                              (need (Nat.ble (1 : Nat) (QP.len p)) False))))))))) := by kernel_rfl
theorem vc_lost_r0 (m k : Int) (p : QP) (β : Bs) (N : Kt) (ex : Nat → Kt → Prop) : roundJ Try.prog toldB 100 20 β (fun _ => 0) (cnOf 0 lvL) ex 6 0 0 (fun _ => [5, 6, 7, 8])
    (FL1 m k p) (SL m false 0 p) N =
(  br (decide (Int.ofNat (QP.i p) < k))
    (need (Nat.ble (0 : Nat) (QP.i0 p) && Nat.ble (QP.i0 p + QP.len p) (QP.nn p))
      (need (Nat.ble (QP.len p) (1000000 : Nat))
        (need
          (allS (QP.len p) fun j =>
            (fun i =>
                [Value.int IntKind.i64 (QP.qs p i), Value.int IntKind.i64 (QP.qk p i), Value.int IntKind.i64 (QP.qi p i),
                  Value.float FloatKind.f64 (QP.qf p i), Value.bool (QP.ql p i)])
              (QP.i0 p + j))
          (br (decide (Int.ofNat (QP.i p) < QP.due p))
            (N AX.normal
              (mkF (109 : Nat)
                [((5 : Nat), Value.int IntKind.i64 m), ((6 : Nat), Value.int IntKind.i64 k),
                  ((7 : Nat), Value.pointer (some { block := (0 : Nat), off := (0 : Nat) })),
                  ((8 : Nat), Value.int IntKind.i64 (IntKind.wrap IntKind.i64 (Int.ofNat (QP.i p) + (1 : Int))))])
              (mkS
                [some
                    (AObj.cells
                      [Value.int IntKind.i64 (1 : Int), Value.int IntKind.i64 (0 : Int), Value.int IntKind.i64 (0 : Int),
                        Value.int IntKind.i64 (QP.due p), Value.int IntKind.i64 (0 : Int),
                        Value.int IntKind.i64 (0 : Int), Value.float FloatKind.f64 (0 : Nat), Value.int IntKind.i64 m,
                        Value.bool false, Value.bool false, Value.int IntKind.i64 (0 : Int),
                        Value.int IntKind.i64 (QP.li p), Value.float FloatKind.f64 (0 : Nat),
                        Value.int IntKind.i64 (QP.seq p),
                        Value.slice (some { block := (1 : Nat), off := (0 : Nat), spot := some (0 : Nat) }) (QP.len p)
                          (QP.c p)]
                      true (0 : Nat)),
                  some
                    (AObj.row true (5 : Nat) (0 : Nat) (QP.len p) fun i =>
                      [Value.int IntKind.i64 (QP.qs p (QP.i0 p + i)), Value.int IntKind.i64 (QP.qk p (QP.i0 p + i)),
                        Value.int IntKind.i64 (QP.qi p (QP.i0 p + i)), Value.float FloatKind.f64 (QP.qf p (QP.i0 p + i)),
                        Value.bool (QP.ql p (QP.i0 p + i))])]))
            (need (Nat.ble (QP.len p + (1 : Nat)) (1000000 : Nat))
              (need (true && Nat.ble ((0 : Nat) + QP.len p) (QP.len p))
                (br (decide (Int.ofNat (QP.len p + (1 : Nat)) ≤ m))
                  (N AX.normal
                    (mkF (109 : Nat)
                      [((5 : Nat), Value.int IntKind.i64 m), ((6 : Nat), Value.int IntKind.i64 k),
                        ((7 : Nat), Value.pointer (some { block := (0 : Nat), off := (0 : Nat) })),
                        ((8 : Nat), Value.int IntKind.i64 (IntKind.wrap IntKind.i64 (Int.ofNat (QP.i p) + (1 : Int))))])
                    (mkS
                      [some
                          (AObj.cells
                            [Value.int IntKind.i64 (1 : Int), Value.int IntKind.i64 (0 : Int),
                              Value.int IntKind.i64 (0 : Int), Value.int IntKind.i64 (Int.ofNat (QP.i p)),
                              Value.int IntKind.i64 (0 : Int), Value.int IntKind.i64 (0 : Int),
                              Value.float FloatKind.f64 (0 : Nat), Value.int IntKind.i64 m, Value.bool true,
                              Value.bool false, Value.int IntKind.i64 (3 : Int),
                              Value.int IntKind.i64 (Int.ofNat (QP.i p)), Value.float FloatKind.f64 (0 : Nat),
                              Value.int IntKind.i64 (IntKind.wrap IntKind.i64 (QP.seq p + (1 : Int))),
                              Value.slice (some { block := (1 : Nat), off := (0 : Nat), spot := some (0 : Nat) })
                                (QP.len p + (1 : Nat)) (QP.c p)]
                            true (0 : Nat)),
                        some
                          (AObj.row true (5 : Nat) (0 : Nat) (QP.len p + (1 : Nat)) fun i =>
                            [Value.int IntKind.i64
                                (bif Nat.blt i (QP.len p) then QP.qs p (QP.i0 p + ((0 : Nat) + i))
                                else IntKind.wrap IntKind.i64 (QP.seq p + (1 : Int))),
                              Value.int IntKind.i64
                                (bif Nat.blt i (QP.len p) then QP.qk p (QP.i0 p + ((0 : Nat) + i)) else (3 : Int)),
                              Value.int IntKind.i64
                                (bif Nat.blt i (QP.len p) then QP.qi p (QP.i0 p + ((0 : Nat) + i))
                                else Int.ofNat (QP.i p)),
                              Value.float FloatKind.f64
                                (bif Nat.blt i (QP.len p) then QP.qf p (QP.i0 p + ((0 : Nat) + i)) else (0 : Nat)),
                              Value.bool
                                (bif Nat.blt i (QP.len p) then QP.ql p (QP.i0 p + ((0 : Nat) + i)) else false)])]))
                  (br (Int.ofNat (QP.len p + (1 : Nat) - (1 : Nat)) == (0 : Int))
                    (N AX.normal
                      (mkF (109 : Nat)
                        [((5 : Nat), Value.int IntKind.i64 m), ((6 : Nat), Value.int IntKind.i64 k),
                          ((7 : Nat), Value.pointer (some { block := (0 : Nat), off := (0 : Nat) })),
                          ((8 : Nat), Value.int IntKind.i64 (IntKind.wrap IntKind.i64 (Int.ofNat (QP.i p) + (1 : Int))))])
                      (mkS
                        [some
                            (AObj.cells
                              [Value.int IntKind.i64 (1 : Int), Value.int IntKind.i64 (0 : Int),
                                Value.int IntKind.i64 (0 : Int), Value.int IntKind.i64 (Int.ofNat (QP.i p)),
                                Value.int IntKind.i64 (0 : Int), Value.int IntKind.i64 (0 : Int),
                                Value.float FloatKind.f64 (0 : Nat), Value.int IntKind.i64 m, Value.bool true,
                                Value.bool true, Value.int IntKind.i64 (3 : Int),
                                Value.int IntKind.i64 (Int.ofNat (QP.i p)), Value.float FloatKind.f64 (0 : Nat),
                                Value.int IntKind.i64 (IntKind.wrap IntKind.i64 (QP.seq p + (1 : Int))),
                                Value.slice (some { block := (1 : Nat), off := (0 : Nat), spot := some (1 : Nat) })
                                  (QP.len p + (1 : Nat) - (1 : Nat)) (0 : Nat)]
                              true (0 : Nat)),
                          some
                            (AObj.row true (5 : Nat) (0 : Nat) (QP.len p + (1 : Nat)) fun i =>
                              [Value.int IntKind.i64
                                  (bif Nat.blt i (QP.len p) then QP.qs p (QP.i0 p + ((0 : Nat) + i))
                                  else IntKind.wrap IntKind.i64 (QP.seq p + (1 : Int))),
                                Value.int IntKind.i64
                                  (bif Nat.blt i (QP.len p) then QP.qk p (QP.i0 p + ((0 : Nat) + i)) else (3 : Int)),
                                Value.int IntKind.i64
                                  (bif Nat.blt i (QP.len p) then QP.qi p (QP.i0 p + ((0 : Nat) + i))
                                  else Int.ofNat (QP.i p)),
                                Value.float FloatKind.f64
                                  (bif Nat.blt i (QP.len p) then QP.qf p (QP.i0 p + ((0 : Nat) + i)) else (0 : Nat)),
                                Value.bool
                                  (bif Nat.blt i (QP.len p) then QP.ql p (QP.i0 p + ((0 : Nat) + i)) else false)])]))
                    (need (Nat.blt (0 : Nat) (QP.len p + (1 : Nat) - (1 : Nat)))
                      (need (Nat.blt (1 : Nat) (QP.len p + (1 : Nat)))
                        (N AX.normal
                          (mkF (109 : Nat)
                            [((5 : Nat), Value.int IntKind.i64 m), ((6 : Nat), Value.int IntKind.i64 k),
                              ((7 : Nat), Value.pointer (some { block := (0 : Nat), off := (0 : Nat) })),
                              ((8 : Nat),
                                Value.int IntKind.i64 (IntKind.wrap IntKind.i64 (Int.ofNat (QP.i p) + (1 : Int))))])
                          (mkS
                            [some
                                (AObj.cells
                                  [Value.int IntKind.i64 (1 : Int), Value.int IntKind.i64 (0 : Int),
                                    Value.int IntKind.i64 (0 : Int), Value.int IntKind.i64 (Int.ofNat (QP.i p)),
                                    Value.int IntKind.i64 (0 : Int), Value.int IntKind.i64 (0 : Int),
                                    Value.float FloatKind.f64 (0 : Nat), Value.int IntKind.i64 m, Value.bool true,
                                    Value.bool false, Value.int IntKind.i64 (3 : Int),
                                    Value.int IntKind.i64 (Int.ofNat (QP.i p)), Value.float FloatKind.f64 (0 : Nat),
                                    Value.int IntKind.i64 (IntKind.wrap IntKind.i64 (QP.seq p + (1 : Int))),
                                    Value.slice (some { block := (1 : Nat), off := (0 : Nat), spot := some (1 : Nat) })
                                      (QP.len p + (1 : Nat) - (1 : Nat)) (0 : Nat)]
                                  true (0 : Nat)),
                              some
                                (AObj.row true (5 : Nat) (0 : Nat) (QP.len p + (1 : Nat)) fun i =>
                                  [Value.int IntKind.i64
                                      (bif Nat.beq i (1 : Nat) then
                                        bif Nat.blt (1 : Nat) (QP.len p) then QP.qs p (QP.i0 p + (1 : Nat))
                                        else IntKind.wrap IntKind.i64 (QP.seq p + (1 : Int))
                                      else
                                        bif Nat.blt i (QP.len p) then QP.qs p (QP.i0 p + ((0 : Nat) + i))
                                        else IntKind.wrap IntKind.i64 (QP.seq p + (1 : Int))),
                                    Value.int IntKind.i64
                                      (bif Nat.beq i (1 : Nat) then
                                        bif Nat.blt (1 : Nat) (QP.len p) then QP.qk p (QP.i0 p + (1 : Nat)) else (3 : Int)
                                      else
                                        bif Nat.blt i (QP.len p) then QP.qk p (QP.i0 p + ((0 : Nat) + i)) else (3 : Int)),
                                    Value.int IntKind.i64
                                      (bif Nat.beq i (1 : Nat) then
                                        bif Nat.blt (1 : Nat) (QP.len p) then QP.qi p (QP.i0 p + (1 : Nat))
                                        else Int.ofNat (QP.i p)
                                      else
                                        bif Nat.blt i (QP.len p) then QP.qi p (QP.i0 p + ((0 : Nat) + i))
                                        else Int.ofNat (QP.i p)),
                                    Value.float FloatKind.f64
                                      (bif Nat.beq i (1 : Nat) then
                                        bif Nat.blt (1 : Nat) (QP.len p) then QP.qf p (QP.i0 p + (1 : Nat)) else (0 : Nat)
                                      else
                                        bif Nat.blt i (QP.len p) then QP.qf p (QP.i0 p + ((0 : Nat) + i)) else (0 : Nat)),
                                    Value.bool
                                      (bif Nat.beq i (1 : Nat) then true
                                      else
                                        bif Nat.blt i (QP.len p) then QP.ql p (QP.i0 p + ((0 : Nat) + i))
                                        else false)])]))))))))))))
    (N (AX.exit (0 : Nat))
      (mkF (109 : Nat)
        [((5 : Nat), Value.int IntKind.i64 m), ((6 : Nat), Value.int IntKind.i64 k),
          ((7 : Nat), Value.pointer (some { block := (0 : Nat), off := (0 : Nat) })),
          ((8 : Nat), Value.int IntKind.i64 (Int.ofNat (QP.i p)))])
      (mkS
        [some
            (AObj.cells
              [Value.int IntKind.i64 (1 : Int), Value.int IntKind.i64 (0 : Int), Value.int IntKind.i64 (0 : Int),
                Value.int IntKind.i64 (QP.due p), Value.int IntKind.i64 (0 : Int), Value.int IntKind.i64 (0 : Int),
                Value.float FloatKind.f64 (0 : Nat), Value.int IntKind.i64 m, Value.bool false, Value.bool false,
                Value.int IntKind.i64 (0 : Int), Value.int IntKind.i64 (QP.li p), Value.float FloatKind.f64 (0 : Nat),
                Value.int IntKind.i64 (QP.seq p),
                Value.slice (some { block := (1 : Nat), off := (0 : Nat), spot := some (QP.i0 p) }) (QP.len p) (QP.c p)]
              true (0 : Nat)),
          some
            (AObj.row true (5 : Nat) (0 : Nat) (QP.nn p) fun i =>
              [Value.int IntKind.i64 (QP.qs p i), Value.int IntKind.i64 (QP.qk p i), Value.int IntKind.i64 (QP.qi p i),
                Value.float FloatKind.f64 (QP.qf p i), Value.bool (QP.ql p i)])]))) := by kernel_rfl
theorem vc_lost_r1 (m k : Int) (p : QP) (β : Bs) (N : Kt) (ex : Nat → Kt → Prop) : roundJ Try.prog toldB 100 20 β (fun _ => 0) (cnOf 0 lvL) ex 6 0 0 (fun _ => [5, 6, 7, 8])
    (FL1 m k p) (SL m true 3 p) N =
(  br (decide (Int.ofNat (QP.i p) < k))
    (need (Nat.ble (0 : Nat) (QP.i0 p) && Nat.ble (QP.i0 p + QP.len p) (QP.nn p))
      (need (Nat.ble (QP.len p) (1000000 : Nat))
        (need
          (allS (QP.len p) fun j =>
            (fun i =>
                [Value.int IntKind.i64 (QP.qs p i), Value.int IntKind.i64 (QP.qk p i), Value.int IntKind.i64 (QP.qi p i),
                  Value.float FloatKind.f64 (QP.qf p i), Value.bool (QP.ql p i)])
              (QP.i0 p + j))
          (br (decide (Int.ofNat (QP.i p) < QP.due p))
            (N AX.normal
              (mkF (109 : Nat)
                [((5 : Nat), Value.int IntKind.i64 m), ((6 : Nat), Value.int IntKind.i64 k),
                  ((7 : Nat), Value.pointer (some { block := (0 : Nat), off := (0 : Nat) })),
                  ((8 : Nat), Value.int IntKind.i64 (IntKind.wrap IntKind.i64 (Int.ofNat (QP.i p) + (1 : Int))))])
              (mkS
                [some
                    (AObj.cells
                      [Value.int IntKind.i64 (1 : Int), Value.int IntKind.i64 (0 : Int), Value.int IntKind.i64 (0 : Int),
                        Value.int IntKind.i64 (QP.due p), Value.int IntKind.i64 (0 : Int),
                        Value.int IntKind.i64 (0 : Int), Value.float FloatKind.f64 (0 : Nat), Value.int IntKind.i64 m,
                        Value.bool true, Value.bool false, Value.int IntKind.i64 (3 : Int),
                        Value.int IntKind.i64 (QP.li p), Value.float FloatKind.f64 (0 : Nat),
                        Value.int IntKind.i64 (QP.seq p),
                        Value.slice (some { block := (1 : Nat), off := (0 : Nat), spot := some (0 : Nat) }) (QP.len p)
                          (QP.c p)]
                      true (0 : Nat)),
                  some
                    (AObj.row true (5 : Nat) (0 : Nat) (QP.len p) fun i =>
                      [Value.int IntKind.i64 (QP.qs p (QP.i0 p + i)), Value.int IntKind.i64 (QP.qk p (QP.i0 p + i)),
                        Value.int IntKind.i64 (QP.qi p (QP.i0 p + i)), Value.float FloatKind.f64 (QP.qf p (QP.i0 p + i)),
                        Value.bool (QP.ql p (QP.i0 p + i))])]))
            (br
              (!decide
                  (IntKind.wrap IntKind.u64
                      (IntKind.wrap IntKind.u64 (if QP.li p > Int.ofNat (QP.i p) then QP.li p else Int.ofNat (QP.i p)) -
                        IntKind.wrap IntKind.u64 (if QP.li p < Int.ofNat (QP.i p) then QP.li p else Int.ofNat (QP.i p))) >
                    (0 : Int)))
              (N AX.normal
                (mkF (109 : Nat)
                  [((5 : Nat), Value.int IntKind.i64 m), ((6 : Nat), Value.int IntKind.i64 k),
                    ((7 : Nat), Value.pointer (some { block := (0 : Nat), off := (0 : Nat) })),
                    ((8 : Nat), Value.int IntKind.i64 (IntKind.wrap IntKind.i64 (Int.ofNat (QP.i p) + (1 : Int))))])
                (mkS
                  [some
                      (AObj.cells
                        [Value.int IntKind.i64 (1 : Int), Value.int IntKind.i64 (0 : Int),
                          Value.int IntKind.i64 (0 : Int), Value.int IntKind.i64 (Int.ofNat (QP.i p)),
                          Value.int IntKind.i64 (0 : Int), Value.int IntKind.i64 (0 : Int),
                          Value.float FloatKind.f64 (0 : Nat), Value.int IntKind.i64 m, Value.bool true, Value.bool false,
                          Value.int IntKind.i64 (3 : Int), Value.int IntKind.i64 (QP.li p),
                          Value.float FloatKind.f64 (0 : Nat), Value.int IntKind.i64 (QP.seq p),
                          Value.slice (some { block := (1 : Nat), off := (0 : Nat), spot := some (0 : Nat) }) (QP.len p)
                            (QP.c p)]
                        true (0 : Nat)),
                    some
                      (AObj.row true (5 : Nat) (0 : Nat) (QP.len p) fun i =>
                        [Value.int IntKind.i64 (QP.qs p (QP.i0 p + i)), Value.int IntKind.i64 (QP.qk p (QP.i0 p + i)),
                          Value.int IntKind.i64 (QP.qi p (QP.i0 p + i)),
                          Value.float FloatKind.f64 (QP.qf p (QP.i0 p + i)), Value.bool (QP.ql p (QP.i0 p + i))])]))
              (need (Nat.ble (QP.len p + (1 : Nat)) (1000000 : Nat))
                (need (true && Nat.ble ((0 : Nat) + QP.len p) (QP.len p))
                  (br (decide (Int.ofNat (QP.len p + (1 : Nat)) ≤ m))
                    (N AX.normal
                      (mkF (109 : Nat)
                        [((5 : Nat), Value.int IntKind.i64 m), ((6 : Nat), Value.int IntKind.i64 k),
                          ((7 : Nat), Value.pointer (some { block := (0 : Nat), off := (0 : Nat) })),
                          ((8 : Nat), Value.int IntKind.i64 (IntKind.wrap IntKind.i64 (Int.ofNat (QP.i p) + (1 : Int))))])
                      (mkS
                        [some
                            (AObj.cells
                              [Value.int IntKind.i64 (1 : Int), Value.int IntKind.i64 (0 : Int),
                                Value.int IntKind.i64 (0 : Int), Value.int IntKind.i64 (Int.ofNat (QP.i p)),
                                Value.int IntKind.i64 (0 : Int), Value.int IntKind.i64 (0 : Int),
                                Value.float FloatKind.f64 (0 : Nat), Value.int IntKind.i64 m, Value.bool true,
                                Value.bool false, Value.int IntKind.i64 (3 : Int),
                                Value.int IntKind.i64 (Int.ofNat (QP.i p)), Value.float FloatKind.f64 (0 : Nat),
                                Value.int IntKind.i64 (IntKind.wrap IntKind.i64 (QP.seq p + (1 : Int))),
                                Value.slice (some { block := (1 : Nat), off := (0 : Nat), spot := some (0 : Nat) })
                                  (QP.len p + (1 : Nat)) (QP.c p)]
                              true (0 : Nat)),
                          some
                            (AObj.row true (5 : Nat) (0 : Nat) (QP.len p + (1 : Nat)) fun i =>
                              [Value.int IntKind.i64
                                  (bif Nat.blt i (QP.len p) then QP.qs p (QP.i0 p + ((0 : Nat) + i))
                                  else IntKind.wrap IntKind.i64 (QP.seq p + (1 : Int))),
                                Value.int IntKind.i64
                                  (bif Nat.blt i (QP.len p) then QP.qk p (QP.i0 p + ((0 : Nat) + i)) else (3 : Int)),
                                Value.int IntKind.i64
                                  (bif Nat.blt i (QP.len p) then QP.qi p (QP.i0 p + ((0 : Nat) + i))
                                  else Int.ofNat (QP.i p)),
                                Value.float FloatKind.f64
                                  (bif Nat.blt i (QP.len p) then QP.qf p (QP.i0 p + ((0 : Nat) + i)) else (0 : Nat)),
                                Value.bool
                                  (bif Nat.blt i (QP.len p) then QP.ql p (QP.i0 p + ((0 : Nat) + i)) else false)])]))
                    (br (Int.ofNat (QP.len p + (1 : Nat) - (1 : Nat)) == (0 : Int))
                      (N AX.normal
                        (mkF (109 : Nat)
                          [((5 : Nat), Value.int IntKind.i64 m), ((6 : Nat), Value.int IntKind.i64 k),
                            ((7 : Nat), Value.pointer (some { block := (0 : Nat), off := (0 : Nat) })),
                            ((8 : Nat),
                              Value.int IntKind.i64 (IntKind.wrap IntKind.i64 (Int.ofNat (QP.i p) + (1 : Int))))])
                        (mkS
                          [some
                              (AObj.cells
                                [Value.int IntKind.i64 (1 : Int), Value.int IntKind.i64 (0 : Int),
                                  Value.int IntKind.i64 (0 : Int), Value.int IntKind.i64 (Int.ofNat (QP.i p)),
                                  Value.int IntKind.i64 (0 : Int), Value.int IntKind.i64 (0 : Int),
                                  Value.float FloatKind.f64 (0 : Nat), Value.int IntKind.i64 m, Value.bool true,
                                  Value.bool true, Value.int IntKind.i64 (3 : Int),
                                  Value.int IntKind.i64 (Int.ofNat (QP.i p)), Value.float FloatKind.f64 (0 : Nat),
                                  Value.int IntKind.i64 (IntKind.wrap IntKind.i64 (QP.seq p + (1 : Int))),
                                  Value.slice (some { block := (1 : Nat), off := (0 : Nat), spot := some (1 : Nat) })
                                    (QP.len p + (1 : Nat) - (1 : Nat)) (0 : Nat)]
                                true (0 : Nat)),
                            some
                              (AObj.row true (5 : Nat) (0 : Nat) (QP.len p + (1 : Nat)) fun i =>
                                [Value.int IntKind.i64
                                    (bif Nat.blt i (QP.len p) then QP.qs p (QP.i0 p + ((0 : Nat) + i))
                                    else IntKind.wrap IntKind.i64 (QP.seq p + (1 : Int))),
                                  Value.int IntKind.i64
                                    (bif Nat.blt i (QP.len p) then QP.qk p (QP.i0 p + ((0 : Nat) + i)) else (3 : Int)),
                                  Value.int IntKind.i64
                                    (bif Nat.blt i (QP.len p) then QP.qi p (QP.i0 p + ((0 : Nat) + i))
                                    else Int.ofNat (QP.i p)),
                                  Value.float FloatKind.f64
                                    (bif Nat.blt i (QP.len p) then QP.qf p (QP.i0 p + ((0 : Nat) + i)) else (0 : Nat)),
                                  Value.bool
                                    (bif Nat.blt i (QP.len p) then QP.ql p (QP.i0 p + ((0 : Nat) + i)) else false)])]))
                      (need (Nat.blt (0 : Nat) (QP.len p + (1 : Nat) - (1 : Nat)))
                        (need (Nat.blt (1 : Nat) (QP.len p + (1 : Nat)))
                          (N AX.normal
                            (mkF (109 : Nat)
                              [((5 : Nat), Value.int IntKind.i64 m), ((6 : Nat), Value.int IntKind.i64 k),
                                ((7 : Nat), Value.pointer (some { block := (0 : Nat), off := (0 : Nat) })),
                                ((8 : Nat),
                                  Value.int IntKind.i64 (IntKind.wrap IntKind.i64 (Int.ofNat (QP.i p) + (1 : Int))))])
                            (mkS
                              [some
                                  (AObj.cells
                                    [Value.int IntKind.i64 (1 : Int), Value.int IntKind.i64 (0 : Int),
                                      Value.int IntKind.i64 (0 : Int), Value.int IntKind.i64 (Int.ofNat (QP.i p)),
                                      Value.int IntKind.i64 (0 : Int), Value.int IntKind.i64 (0 : Int),
                                      Value.float FloatKind.f64 (0 : Nat), Value.int IntKind.i64 m, Value.bool true,
                                      Value.bool false, Value.int IntKind.i64 (3 : Int),
                                      Value.int IntKind.i64 (Int.ofNat (QP.i p)), Value.float FloatKind.f64 (0 : Nat),
                                      Value.int IntKind.i64 (IntKind.wrap IntKind.i64 (QP.seq p + (1 : Int))),
                                      Value.slice (some { block := (1 : Nat), off := (0 : Nat), spot := some (1 : Nat) })
                                        (QP.len p + (1 : Nat) - (1 : Nat)) (0 : Nat)]
                                    true (0 : Nat)),
                                some
                                  (AObj.row true (5 : Nat) (0 : Nat) (QP.len p + (1 : Nat)) fun i =>
                                    [Value.int IntKind.i64
                                        (bif Nat.beq i (1 : Nat) then
                                          bif Nat.blt (1 : Nat) (QP.len p) then QP.qs p (QP.i0 p + (1 : Nat))
                                          else IntKind.wrap IntKind.i64 (QP.seq p + (1 : Int))
                                        else
                                          bif Nat.blt i (QP.len p) then QP.qs p (QP.i0 p + ((0 : Nat) + i))
                                          else IntKind.wrap IntKind.i64 (QP.seq p + (1 : Int))),
                                      Value.int IntKind.i64
                                        (bif Nat.beq i (1 : Nat) then
                                          bif Nat.blt (1 : Nat) (QP.len p) then QP.qk p (QP.i0 p + (1 : Nat))
                                          else (3 : Int)
                                        else
                                          bif Nat.blt i (QP.len p) then QP.qk p (QP.i0 p + ((0 : Nat) + i))
                                          else (3 : Int)),
                                      Value.int IntKind.i64
                                        (bif Nat.beq i (1 : Nat) then
                                          bif Nat.blt (1 : Nat) (QP.len p) then QP.qi p (QP.i0 p + (1 : Nat))
                                          else Int.ofNat (QP.i p)
                                        else
                                          bif Nat.blt i (QP.len p) then QP.qi p (QP.i0 p + ((0 : Nat) + i))
                                          else Int.ofNat (QP.i p)),
                                      Value.float FloatKind.f64
                                        (bif Nat.beq i (1 : Nat) then
                                          bif Nat.blt (1 : Nat) (QP.len p) then QP.qf p (QP.i0 p + (1 : Nat))
                                          else (0 : Nat)
                                        else
                                          bif Nat.blt i (QP.len p) then QP.qf p (QP.i0 p + ((0 : Nat) + i))
                                          else (0 : Nat)),
                                      Value.bool
                                        (bif Nat.beq i (1 : Nat) then true
                                        else
                                          bif Nat.blt i (QP.len p) then QP.ql p (QP.i0 p + ((0 : Nat) + i))
                                          else false)])])))))))))))))
    (N (AX.exit (0 : Nat))
      (mkF (109 : Nat)
        [((5 : Nat), Value.int IntKind.i64 m), ((6 : Nat), Value.int IntKind.i64 k),
          ((7 : Nat), Value.pointer (some { block := (0 : Nat), off := (0 : Nat) })),
          ((8 : Nat), Value.int IntKind.i64 (Int.ofNat (QP.i p)))])
      (mkS
        [some
            (AObj.cells
              [Value.int IntKind.i64 (1 : Int), Value.int IntKind.i64 (0 : Int), Value.int IntKind.i64 (0 : Int),
                Value.int IntKind.i64 (QP.due p), Value.int IntKind.i64 (0 : Int), Value.int IntKind.i64 (0 : Int),
                Value.float FloatKind.f64 (0 : Nat), Value.int IntKind.i64 m, Value.bool true, Value.bool false,
                Value.int IntKind.i64 (3 : Int), Value.int IntKind.i64 (QP.li p), Value.float FloatKind.f64 (0 : Nat),
                Value.int IntKind.i64 (QP.seq p),
                Value.slice (some { block := (1 : Nat), off := (0 : Nat), spot := some (QP.i0 p) }) (QP.len p) (QP.c p)]
              true (0 : Nat)),
          some
            (AObj.row true (5 : Nat) (0 : Nat) (QP.nn p) fun i =>
              [Value.int IntKind.i64 (QP.qs p i), Value.int IntKind.i64 (QP.qk p i), Value.int IntKind.i64 (QP.qi p i),
                Value.float FloatKind.f64 (QP.qf p i), Value.bool (QP.ql p i)])]))) := by kernel_rfl
theorem vc_lost_2 (m k : Int) (has : Bool) (lk : Int) (p : QP) (β : Bs) (N : Kt) (ex : Nat → Kt → Prop) : roundJ Try.prog toldB 100 20 β (fun _ => 0) (cnOf 0 lvL) ex 6 2 0 (fun _ => [5, 6, 7, 9])
    (FL2 m k p) (SL m has lk p) N =
(  br (decide (Int.ofNat (QP.i p) < if m < k then m else k))
    (need (Nat.ble (0 : Nat) (QP.i0 p) && Nat.ble (QP.i0 p + QP.len p) (QP.nn p))
      (need (Nat.ble (QP.len p) (1000000 : Nat))
        (need
          (allS (QP.len p) fun j =>
            (fun i =>
                [Value.int IntKind.i64 (QP.qs p i), Value.int IntKind.i64 (QP.qk p i), Value.int IntKind.i64 (QP.qi p i),
                  Value.float FloatKind.f64 (QP.qf p i), Value.bool (QP.ql p i)])
              (QP.i0 p + j))
          (br (Int.ofNat (QP.len p) == (0 : Int))
            (N AX.ret
              (mkF (109 : Nat)
                [((5 : Nat), Value.int IntKind.i64 m), ((6 : Nat), Value.int IntKind.i64 k),
                  ((7 : Nat), Value.pointer (some { block := (0 : Nat), off := (0 : Nat) })),
                  ((9 : Nat), Value.int IntKind.i64 (Int.ofNat (QP.i p)))])
              (mkS
                [some
                    (AObj.cells
                      [Value.int IntKind.i64 (1 : Int), Value.int IntKind.i64 (0 : Int), Value.int IntKind.i64 (0 : Int),
                        Value.int IntKind.i64 (QP.due p), Value.int IntKind.i64 (0 : Int),
                        Value.int IntKind.i64 (0 : Int), Value.float FloatKind.f64 (0 : Nat), Value.int IntKind.i64 m,
                        Value.bool has, Value.bool false, Value.int IntKind.i64 lk, Value.int IntKind.i64 (QP.li p),
                        Value.float FloatKind.f64 (0 : Nat), Value.int IntKind.i64 (QP.seq p),
                        Value.slice (some { block := (1 : Nat), off := (0 : Nat), spot := some (QP.i0 p) }) (QP.len p)
                          (QP.c p)]
                      true (0 : Nat)),
                  some
                    (AObj.row true (5 : Nat) (0 : Nat) (QP.nn p) fun i =>
                      [Value.int IntKind.i64 (QP.qs p i), Value.int IntKind.i64 (QP.qk p i),
                        Value.int IntKind.i64 (QP.qi p i), Value.float FloatKind.f64 (QP.qf p i),
                        Value.bool (QP.ql p i)])]))
            (need (Nat.blt (0 : Nat) (QP.len p))
              (need (true && Nat.blt (0 : Nat) (QP.len p))
                (need (Nat.ble (1 : Nat) (QP.len p))
                  (br
                    (QP.qs p (QP.i0 p + (0 : Nat)) !=
                      IntKind.wrap IntKind.i64
                        (IntKind.wrap IntKind.i64
                            (IntKind.wrap IntKind.i64 (k - if m < k then m else k) + Int.ofNat (QP.i p)) +
                          (1 : Int)))
                    (N AX.ret
                      (mkF (109 : Nat)
                        [((5 : Nat), Value.int IntKind.i64 m), ((6 : Nat), Value.int IntKind.i64 k),
                          ((7 : Nat), Value.pointer (some { block := (0 : Nat), off := (0 : Nat) })),
                          ((9 : Nat), Value.int IntKind.i64 (Int.ofNat (QP.i p)))])
                      (mkS
                        [some
                            (AObj.cells
                              [Value.int IntKind.i64 (1 : Int), Value.int IntKind.i64 (0 : Int),
                                Value.int IntKind.i64 (0 : Int), Value.int IntKind.i64 (QP.due p),
                                Value.int IntKind.i64 (0 : Int), Value.int IntKind.i64 (0 : Int),
                                Value.float FloatKind.f64 (0 : Nat), Value.int IntKind.i64 m, Value.bool has,
                                Value.bool false, Value.int IntKind.i64 lk, Value.int IntKind.i64 (QP.li p),
                                Value.float FloatKind.f64 (0 : Nat), Value.int IntKind.i64 (QP.seq p),
                                Value.slice (some { block := (1 : Nat), off := (0 : Nat), spot := some (QP.i0 p) })
                                  (QP.len p) (QP.c p)]
                              true (0 : Nat)),
                          some
                            (AObj.row true (5 : Nat) (0 : Nat) (QP.nn p) fun i =>
                              [Value.int IntKind.i64 (QP.qs p i), Value.int IntKind.i64 (QP.qk p i),
                                Value.int IntKind.i64 (QP.qi p i), Value.float FloatKind.f64 (QP.qf p i),
                                Value.bool (QP.ql p i)])]))
                    (br
                      (QP.qi p (QP.i0 p + (0 : Nat)) !=
                        IntKind.wrap IntKind.i64
                          (IntKind.wrap IntKind.i64 (k - if m < k then m else k) + Int.ofNat (QP.i p)))
                      (N AX.ret
                        (mkF (109 : Nat)
                          [((5 : Nat), Value.int IntKind.i64 m), ((6 : Nat), Value.int IntKind.i64 k),
                            ((7 : Nat), Value.pointer (some { block := (0 : Nat), off := (0 : Nat) })),
                            ((9 : Nat), Value.int IntKind.i64 (Int.ofNat (QP.i p)))])
                        (mkS
                          [some
                              (AObj.cells
                                [Value.int IntKind.i64 (1 : Int), Value.int IntKind.i64 (0 : Int),
                                  Value.int IntKind.i64 (0 : Int), Value.int IntKind.i64 (QP.due p),
                                  Value.int IntKind.i64 (0 : Int), Value.int IntKind.i64 (0 : Int),
                                  Value.float FloatKind.f64 (0 : Nat), Value.int IntKind.i64 m, Value.bool has,
                                  Value.bool false, Value.int IntKind.i64 lk, Value.int IntKind.i64 (QP.li p),
                                  Value.float FloatKind.f64 (0 : Nat), Value.int IntKind.i64 (QP.seq p),
                                  Value.slice (some { block := (1 : Nat), off := (0 : Nat), spot := some (QP.i0 p) })
                                    (QP.len p) (QP.c p)]
                                true (0 : Nat)),
                            some
                              (AObj.row true (5 : Nat) (0 : Nat) (QP.nn p) fun i =>
                                [Value.int IntKind.i64 (QP.qs p i), Value.int IntKind.i64 (QP.qk p i),
                                  Value.int IntKind.i64 (QP.qi p i), Value.float FloatKind.f64 (QP.qf p i),
                                  Value.bool (QP.ql p i)])]))
                      (br (Int.ofNat (QP.i p) == (0 : Int))
                        (br (!QP.ql p (QP.i0 p + (0 : Nat)) == decide (k > m))
                          (N AX.ret
                            (mkF (109 : Nat)
                              [((5 : Nat), Value.int IntKind.i64 m), ((6 : Nat), Value.int IntKind.i64 k),
                                ((7 : Nat), Value.pointer (some { block := (0 : Nat), off := (0 : Nat) })),
                                ((9 : Nat), Value.int IntKind.i64 (Int.ofNat (QP.i p)))])
                            (mkS
                              [some
                                  (AObj.cells
                                    [Value.int IntKind.i64 (1 : Int), Value.int IntKind.i64 (0 : Int),
                                      Value.int IntKind.i64 (0 : Int), Value.int IntKind.i64 (QP.due p),
                                      Value.int IntKind.i64 (0 : Int), Value.int IntKind.i64 (0 : Int),
                                      Value.float FloatKind.f64 (0 : Nat), Value.int IntKind.i64 m, Value.bool has,
                                      Value.bool false, Value.int IntKind.i64 lk, Value.int IntKind.i64 (QP.li p),
                                      Value.float FloatKind.f64 (0 : Nat), Value.int IntKind.i64 (QP.seq p),
                                      Value.slice (some { block := (1 : Nat), off := (0 : Nat), spot := some (QP.i0 p) })
                                        (QP.len p) (QP.c p)]
                                    true (0 : Nat)),
                                some
                                  (AObj.row true (5 : Nat) (0 : Nat) (QP.nn p) fun i =>
                                    [Value.int IntKind.i64 (QP.qs p i), Value.int IntKind.i64 (QP.qk p i),
                                      Value.int IntKind.i64 (QP.qi p i), Value.float FloatKind.f64 (QP.qf p i),
                                      Value.bool (QP.ql p i)])]))
                          (N AX.normal
                            (mkF (109 : Nat)
                              [((5 : Nat), Value.int IntKind.i64 m), ((6 : Nat), Value.int IntKind.i64 k),
                                ((7 : Nat), Value.pointer (some { block := (0 : Nat), off := (0 : Nat) })),
                                ((9 : Nat),
                                  Value.int IntKind.i64 (IntKind.wrap IntKind.i64 (Int.ofNat (QP.i p) + (1 : Int))))])
                            (mkS
                              [some
                                  (AObj.cells
                                    [Value.int IntKind.i64 (1 : Int), Value.int IntKind.i64 (0 : Int),
                                      Value.int IntKind.i64 (0 : Int), Value.int IntKind.i64 (QP.due p),
                                      Value.int IntKind.i64 (0 : Int), Value.int IntKind.i64 (0 : Int),
                                      Value.float FloatKind.f64 (0 : Nat), Value.int IntKind.i64 m, Value.bool has,
                                      Value.bool false, Value.int IntKind.i64 lk, Value.int IntKind.i64 (QP.li p),
                                      Value.float FloatKind.f64 (0 : Nat), Value.int IntKind.i64 (QP.seq p),
                                      Value.slice (some { block := (1 : Nat), off := (0 : Nat), spot := some (1 : Nat) })
                                        (QP.len p - (1 : Nat))
                                        (bif Nat.beq (QP.len p) (0 : Nat) then QP.c p else (0 : Nat))]
                                    true (0 : Nat)),
                                some
                                  (AObj.row true (5 : Nat) (0 : Nat) (QP.len p) fun i =>
                                    [Value.int IntKind.i64 (QP.qs p (QP.i0 p + i)),
                                      Value.int IntKind.i64 (QP.qk p (QP.i0 p + i)),
                                      Value.int IntKind.i64 (QP.qi p (QP.i0 p + i)),
                                      Value.float FloatKind.f64 (QP.qf p (QP.i0 p + i)),
                                      Value.bool (QP.ql p (QP.i0 p + i))])])))
                        (br (!QP.ql p (QP.i0 p + (0 : Nat)) == false)
                          (N AX.ret
                            (mkF (109 : Nat)
                              [((5 : Nat), Value.int IntKind.i64 m), ((6 : Nat), Value.int IntKind.i64 k),
                                ((7 : Nat), Value.pointer (some { block := (0 : Nat), off := (0 : Nat) })),
                                ((9 : Nat), Value.int IntKind.i64 (Int.ofNat (QP.i p)))])
                            (mkS
                              [some
                                  (AObj.cells
                                    [Value.int IntKind.i64 (1 : Int), Value.int IntKind.i64 (0 : Int),
                                      Value.int IntKind.i64 (0 : Int), Value.int IntKind.i64 (QP.due p),
                                      Value.int IntKind.i64 (0 : Int), Value.int IntKind.i64 (0 : Int),
                                      Value.float FloatKind.f64 (0 : Nat), Value.int IntKind.i64 m, Value.bool has,
                                      Value.bool false, Value.int IntKind.i64 lk, Value.int IntKind.i64 (QP.li p),
                                      Value.float FloatKind.f64 (0 : Nat), Value.int IntKind.i64 (QP.seq p),
                                      Value.slice (some { block := (1 : Nat), off := (0 : Nat), spot := some (QP.i0 p) })
                                        (QP.len p) (QP.c p)]
                                    true (0 : Nat)),
                                some
                                  (AObj.row true (5 : Nat) (0 : Nat) (QP.nn p) fun i =>
                                    [Value.int IntKind.i64 (QP.qs p i), Value.int IntKind.i64 (QP.qk p i),
                                      Value.int IntKind.i64 (QP.qi p i), Value.float FloatKind.f64 (QP.qf p i),
                                      Value.bool (QP.ql p i)])]))
                          (N AX.normal
                            (mkF (109 : Nat)
                              [((5 : Nat), Value.int IntKind.i64 m), ((6 : Nat), Value.int IntKind.i64 k),
                                ((7 : Nat), Value.pointer (some { block := (0 : Nat), off := (0 : Nat) })),
                                ((9 : Nat),
                                  Value.int IntKind.i64 (IntKind.wrap IntKind.i64 (Int.ofNat (QP.i p) + (1 : Int))))])
                            (mkS
                              [some
                                  (AObj.cells
                                    [Value.int IntKind.i64 (1 : Int), Value.int IntKind.i64 (0 : Int),
                                      Value.int IntKind.i64 (0 : Int), Value.int IntKind.i64 (QP.due p),
                                      Value.int IntKind.i64 (0 : Int), Value.int IntKind.i64 (0 : Int),
                                      Value.float FloatKind.f64 (0 : Nat), Value.int IntKind.i64 m, Value.bool has,
                                      Value.bool false, Value.int IntKind.i64 lk, Value.int IntKind.i64 (QP.li p),
                                      Value.float FloatKind.f64 (0 : Nat), Value.int IntKind.i64 (QP.seq p),
                                      Value.slice (some { block := (1 : Nat), off := (0 : Nat), spot := some (1 : Nat) })
                                        (QP.len p - (1 : Nat))
                                        (bif Nat.beq (QP.len p) (0 : Nat) then QP.c p else (0 : Nat))]
                                    true (0 : Nat)),
                                some
                                  (AObj.row true (5 : Nat) (0 : Nat) (QP.len p) fun i =>
                                    [Value.int IntKind.i64 (QP.qs p (QP.i0 p + i)),
                                      Value.int IntKind.i64 (QP.qk p (QP.i0 p + i)),
                                      Value.int IntKind.i64 (QP.qi p (QP.i0 p + i)),
                                      Value.float FloatKind.f64 (QP.qf p (QP.i0 p + i)),
                                      Value.bool (QP.ql p (QP.i0 p + i))])])))))))))))))
    (N (AX.exit (2 : Nat))
      (mkF (109 : Nat)
        [((5 : Nat), Value.int IntKind.i64 m), ((6 : Nat), Value.int IntKind.i64 k),
          ((7 : Nat), Value.pointer (some { block := (0 : Nat), off := (0 : Nat) })),
          ((9 : Nat), Value.int IntKind.i64 (Int.ofNat (QP.i p)))])
      (mkS
        [some
            (AObj.cells
              [Value.int IntKind.i64 (1 : Int), Value.int IntKind.i64 (0 : Int), Value.int IntKind.i64 (0 : Int),
                Value.int IntKind.i64 (QP.due p), Value.int IntKind.i64 (0 : Int), Value.int IntKind.i64 (0 : Int),
                Value.float FloatKind.f64 (0 : Nat), Value.int IntKind.i64 m, Value.bool has, Value.bool false,
                Value.int IntKind.i64 lk, Value.int IntKind.i64 (QP.li p), Value.float FloatKind.f64 (0 : Nat),
                Value.int IntKind.i64 (QP.seq p),
                Value.slice (some { block := (1 : Nat), off := (0 : Nat), spot := some (QP.i0 p) }) (QP.len p) (QP.c p)]
              true (0 : Nat)),
          some
            (AObj.row true (5 : Nat) (0 : Nat) (QP.nn p) fun i =>
              [Value.int IntKind.i64 (QP.qs p i), Value.int IntKind.i64 (QP.qk p i), Value.int IntKind.i64 (QP.qi p i),
                Value.float FloatKind.f64 (QP.qf p i), Value.bool (QP.ql p i)])]))) := by kernel_rfl
end Go.Proofs.Ytlbccgoheiaheaa.Ev
