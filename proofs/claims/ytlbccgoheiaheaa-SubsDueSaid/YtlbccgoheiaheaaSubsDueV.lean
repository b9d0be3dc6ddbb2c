/-
  SubsDue: what has to hold, printed by the evaluator.
-/
import Derived.Test.YtlbccgoheiaheaaSubsS
set_option linter.unusedVariables false
set_option maxRecDepth 1000000
namespace Go.Proofs.Ytlbccgoheiaheaa.Ev
open Go Go.Proofs
def exEnd (n : Nat) (l : List (Option AObj)) : Nat → Kt → Prop := fun b K => K (.exit b) (mkF n []) (mkS l)
def lvOf (l : List Nat) : AX → List Nat := fun x => match x with
  | .normal => l
  | _ => []
def gapRow (n : Nat) (g : Nat → Int) : AObj := .row false 1 0 n fun i => [.int .u8 (g i)]
structure DP where
  k : Nat
  m : Nat
  now : Int
  seq : Int
  due : Int
  due2 : Int
  li : Int
  qs : Nat → Int
  qk : Nat → Int
  qi : Nat → Int
  qf : Nat → Nat
  ql : Nat → Bool
def itemRow (p : DP) : AObj := .row true 5 0 p.m fun i => [.int .i64 (p.qs i), .int .i64 (p.qk i), .int .i64 (p.qi i), .float .f64 (p.qf i), .bool (p.ql i)]
def dueCells (every : Int) (has : Bool) (lk : Int) (p : DP) : List Value := [.int .i64 1, .int .i64 0, .int .i64 every, .int .i64 p.due, .int .i64 0, .int .i64 0, .float .f64 0, .int .i64 99, .bool has, .bool false, .int .i64 lk, .int .i64 p.li, .float .f64 0, .int .i64 p.seq, .slice (some ⟨2, 0, some 0⟩) p.m 1]
def FD (n c : Nat) (every : Int) (seq : Int) (p : DP) : AFr := mkF 70 [(1, .slice (some ⟨0, 0, some 0⟩) n c), (5, .int .i64 every), (6, .pointer (some ⟨1, 0, none⟩)), (7, .int .i64 p.now), (8, .int .i64 seq), (9, .int .i64 p.due2), (10, .int .i64 (Int.ofNat p.k))]
def SD (n : Nat) (g : Nat → Int) (every : Int) (has : Bool) (lk : Int) (p : DP) : ASt := mkS [some (gapRow n g), some (.cells (dueCells every has lk p) true 0), some (itemRow p)]
/-- behind the loop within -/
def exIn (n c : Nat) (g : Nat → Int) (every : Int) (Post : DP → Prop) : Nat → Kt → Prop := fun b K => ∀ p, Post p → K (.exit b) (FD n c every p.seq p) (SD n g every true 3 p)
theorem vc_due (n c : Nat) (g : Nat → Int) (every : Int) (β : Bs) : lawJ Try.prog toldB 100 20 β (fun _ => 0) (cnOf 1 fun _ => [1, 5, 6, 7, 8, 9, 10]) (exEnd 70 [some (gapRow n g)]) 4 [.int .u8 every, .slice (some ⟨0, 0, some 0⟩) n c] (mkS [some (gapRow n g)]) trueV =
(  br (decide (Int.ofNat n > (40 : Int))) True
    (LoopJ Try.prog β (exEnd (70 : Nat) [some (gapRow n g)]) (0 : Nat) (loopOf Try.prog (4 : FuncId) (0 : Nat))
        (mkF (70 : Nat)
          [((1 : Nat), Value.slice (some { block := (0 : Nat), off := (0 : Nat), spot := some (0 : Nat) }) n c),
            ((5 : Nat),
              Value.int IntKind.i64
                (IntKind.wrap IntKind.i64 (IntKind.wrap IntKind.u8 ((1 : Int) + Int.tmod every (30 : Int))))),
            ((6 : Nat), Value.pointer (some { block := (1 : Nat), off := (0 : Nat) })),
            ((7 : Nat), Value.int IntKind.i64 (5 : Int)), ((8 : Nat), Value.int IntKind.i64 (0 : Int)),
            ((9 : Nat), Value.int IntKind.i64 (5 : Int)), ((10 : Nat), Value.int IntKind.i64 (0 : Int))])
        (mkS
          [some (AObj.row false (1 : Nat) (0 : Nat) n fun i => [Value.int IntKind.u8 (g i)]),
            some
              (AObj.cells
                [Value.int IntKind.i64 (1 : Int), Value.int IntKind.i64 (0 : Int),
                  Value.int IntKind.i64
                    (IntKind.wrap IntKind.i64 (IntKind.wrap IntKind.u8 ((1 : Int) + Int.tmod every (30 : Int)))),
                  Value.int IntKind.i64 (5 : Int), Value.int IntKind.i64 (0 : Int), Value.int IntKind.i64 (0 : Int),
                  Value.float FloatKind.f64 (0 : Nat), Value.int IntKind.i64 (99 : Int), Value.bool false,
                  Value.bool false, Value.int IntKind.i64 (0 : Int), Value.int IntKind.i64 (0 : Int),
                  Value.float FloatKind.f64 (0 : Nat), Value.int IntKind.i64 (0 : Int),
                  Value.slice none (0 : Nat) (0 : Nat)]
                true (0 : Nat))]) ∧
      True)) := by kernel_rfl
theorem vc_due_r0 (n c : Nat) (g : Nat → Int) (every : Int) (p : DP) (Post : DP → Prop) (β : Bs) (N : Kt) : roundJ Try.prog toldB 100 20 β (fun _ => 0) (cnOf 1 fun _ => [1, 5, 6, 7, 8, 9, 10]) (exIn n c g every Post) 4 0 1 (lvOf [1, 5, 6, 7, 8, 9, 10])
    (FD n c every p.seq p) (SD n g every false 0 p) N =
(  br (decide (Int.ofNat (DP.k p) < Int.ofNat n))
    (need (Nat.blt (Int.toNat (Int.ofNat (DP.k p))) n)
      (need
        (Nat.ble (0 : Nat) ((0 : Nat) + Int.toNat (Int.ofNat (DP.k p))) &&
          Nat.blt ((0 : Nat) + Int.toNat (Int.ofNat (DP.k p))) n)
        (need (true && Nat.ble ((0 : Nat) + DP.m p) (DP.m p))
          (need (Nat.ble (DP.m p) (1000000 : Nat))
            (need
              (allS (DP.m p) fun j =>
                (fun i =>
                    [Value.int IntKind.i64 (DP.qs p i), Value.int IntKind.i64 (DP.qk p i),
                      Value.int IntKind.i64 (DP.qi p i), Value.float FloatKind.f64 (DP.qf p i), Value.bool (DP.ql p i)])
                  ((0 : Nat) + j))
              (br
                (decide
                  (IntKind.wrap IntKind.i64
                      (DP.now p +
                        IntKind.wrap IntKind.i64 (Int.tmod (g ((0 : Nat) + Int.toNat (Int.ofNat (DP.k p)))) (50 : Int))) <
                    DP.due p))
                (br
                  (decide
                    (IntKind.wrap IntKind.i64
                        (DP.now p +
                          IntKind.wrap IntKind.i64
                            (Int.tmod (g ((0 : Nat) + Int.toNat (Int.ofNat (DP.k p)))) (50 : Int))) ≥
                      DP.due2 p))
                  (LoopJ Try.prog β (exIn n c g every Post) (2 : Nat) (loopOf Try.prog (4 : FuncId) (2 : Nat))
                      (mkF (70 : Nat)
                        [((1 : Nat),
                            Value.slice (some { block := (0 : Nat), off := (0 : Nat), spot := some (0 : Nat) }) n c),
                          ((5 : Nat), Value.int IntKind.i64 every),
                          ((6 : Nat), Value.pointer (some { block := (1 : Nat), off := (0 : Nat) })),
                          ((7 : Nat),
                            Value.int IntKind.i64
                              (IntKind.wrap IntKind.i64
                                (DP.now p +
                                  IntKind.wrap IntKind.i64
                                    (Int.tmod (g ((0 : Nat) + Int.toNat (Int.ofNat (DP.k p)))) (50 : Int))))),
                          ((8 : Nat), Value.int IntKind.i64 (IntKind.wrap IntKind.i64 (DP.seq p + (1 : Int)))),
                          ((9 : Nat), Value.int IntKind.i64 (DP.due2 p)),
                          ((10 : Nat), Value.int IntKind.i64 (Int.ofNat (DP.k p)))])
                      (mkS
                        [some (AObj.row false (1 : Nat) (0 : Nat) n fun i => [Value.int IntKind.u8 (g i)]),
                          some
                            (AObj.cells
                              [Value.int IntKind.i64 (1 : Int), Value.int IntKind.i64 (0 : Int),
                                Value.int IntKind.i64 every, Value.int IntKind.i64 (DP.due p),
                                Value.int IntKind.i64 (0 : Int), Value.int IntKind.i64 (0 : Int),
                                Value.float FloatKind.f64 (0 : Nat), Value.int IntKind.i64 (99 : Int), Value.bool false,
                                Value.bool false, Value.int IntKind.i64 (0 : Int), Value.int IntKind.i64 (DP.li p),
                                Value.float FloatKind.f64 (0 : Nat), Value.int IntKind.i64 (DP.seq p),
                                Value.slice (some { block := (2 : Nat), off := (0 : Nat), spot := some (0 : Nat) })
                                  (DP.m p) (1 : Nat)]
                              true (0 : Nat)),
                          some
                            (AObj.row true (5 : Nat) (0 : Nat) (DP.m p) fun i =>
                              [Value.int IntKind.i64 (DP.qs p ((0 : Nat) + i)),
                                Value.int IntKind.i64 (DP.qk p ((0 : Nat) + i)),
                                Value.int IntKind.i64 (DP.qi p ((0 : Nat) + i)),
                                Value.float FloatKind.f64 (DP.qf p ((0 : Nat) + i)),
                                Value.bool (DP.ql p ((0 : Nat) + i))])]) ∧
                    ∀ (p : DP),
                      Post p →
                        br (DP.seq p != DP.seq p)
                          (N AX.ret (mkF (70 : Nat) [])
                            (mkS [some (AObj.row false (1 : Nat) (0 : Nat) n fun i => [Value.int IntKind.u8 (g i)])]))
                          (br (DP.due p != DP.due2 p)
                            (N AX.ret (mkF (70 : Nat) [])
                              (mkS [some (AObj.row false (1 : Nat) (0 : Nat) n fun i => [Value.int IntKind.u8 (g i)])]))
                            (br (Int.ofNat (DP.m p) != DP.seq p)
                              (N AX.ret (mkF (70 : Nat) [])
                                (mkS [some (AObj.row false (1 : Nat) (0 : Nat) n fun i => [Value.int IntKind.u8 (g i)])]))
                              (N AX.normal
                                (mkF (70 : Nat)
                                  [((1 : Nat),
                                      Value.slice (some { block := (0 : Nat), off := (0 : Nat), spot := some (0 : Nat) })
                                        n c),
                                    ((5 : Nat), Value.int IntKind.i64 every),
                                    ((6 : Nat), Value.pointer (some { block := (1 : Nat), off := (0 : Nat) })),
                                    ((7 : Nat), Value.int IntKind.i64 (DP.now p)),
                                    ((8 : Nat), Value.int IntKind.i64 (DP.seq p)),
                                    ((9 : Nat), Value.int IntKind.i64 (DP.due2 p)),
                                    ((10 : Nat),
                                      Value.int IntKind.i64 (IntKind.wrap IntKind.i64 (Int.ofNat (DP.k p) + (1 : Int))))])
                                (mkS
                                  [some (AObj.row false (1 : Nat) (0 : Nat) n fun i => [Value.int IntKind.u8 (g i)]),
                                    some
                                      (AObj.cells
                                        [Value.int IntKind.i64 (1 : Int), Value.int IntKind.i64 (0 : Int),
                                          Value.int IntKind.i64 every, Value.int IntKind.i64 (DP.due p),
                                          Value.int IntKind.i64 (0 : Int), Value.int IntKind.i64 (0 : Int),
                                          Value.float FloatKind.f64 (0 : Nat), Value.int IntKind.i64 (99 : Int),
                                          Value.bool true, Value.bool false, Value.int IntKind.i64 (3 : Int),
                                          Value.int IntKind.i64 (DP.li p), Value.float FloatKind.f64 (0 : Nat),
                                          Value.int IntKind.i64 (DP.seq p),
                                          Value.slice
                                            (some { block := (2 : Nat), off := (0 : Nat), spot := some (0 : Nat) })
                                            (DP.m p) (1 : Nat)]
                                        true (0 : Nat)),
                                    some
                                      (AObj.row true (5 : Nat) (0 : Nat) (DP.m p) fun i =>
                                        [Value.int IntKind.i64 (DP.qs p i), Value.int IntKind.i64 (DP.qk p i),
                                          Value.int IntKind.i64 (DP.qi p i), Value.float FloatKind.f64 (DP.qf p i),
                                          Value.bool (DP.ql p i)])])))))
                  (br (DP.seq p != DP.seq p)
                    (N AX.ret (mkF (70 : Nat) [])
                      (mkS [some (AObj.row false (1 : Nat) (0 : Nat) n fun i => [Value.int IntKind.u8 (g i)])]))
                    (br (DP.due p != DP.due2 p)
                      (N AX.ret (mkF (70 : Nat) [])
                        (mkS [some (AObj.row false (1 : Nat) (0 : Nat) n fun i => [Value.int IntKind.u8 (g i)])]))
                      (br (Int.ofNat (DP.m p) != DP.seq p)
                        (N AX.ret (mkF (70 : Nat) [])
                          (mkS [some (AObj.row false (1 : Nat) (0 : Nat) n fun i => [Value.int IntKind.u8 (g i)])]))
                        (N AX.normal
                          (mkF (70 : Nat)
                            [((1 : Nat),
                                Value.slice (some { block := (0 : Nat), off := (0 : Nat), spot := some (0 : Nat) }) n c),
                              ((5 : Nat), Value.int IntKind.i64 every),
                              ((6 : Nat), Value.pointer (some { block := (1 : Nat), off := (0 : Nat) })),
                              ((7 : Nat),
                                Value.int IntKind.i64
                                  (IntKind.wrap IntKind.i64
                                    (DP.now p +
                                      IntKind.wrap IntKind.i64
                                        (Int.tmod (g ((0 : Nat) + Int.toNat (Int.ofNat (DP.k p)))) (50 : Int))))),
                              ((8 : Nat), Value.int IntKind.i64 (DP.seq p)),
                              ((9 : Nat), Value.int IntKind.i64 (DP.due2 p)),
                              ((10 : Nat),
                                Value.int IntKind.i64 (IntKind.wrap IntKind.i64 (Int.ofNat (DP.k p) + (1 : Int))))])
                          (mkS
                            [some (AObj.row false (1 : Nat) (0 : Nat) n fun i => [Value.int IntKind.u8 (g i)]),
                              some
                                (AObj.cells
                                  [Value.int IntKind.i64 (1 : Int), Value.int IntKind.i64 (0 : Int),
                                    Value.int IntKind.i64 every, Value.int IntKind.i64 (DP.due p),
                                    Value.int IntKind.i64 (0 : Int), Value.int IntKind.i64 (0 : Int),
                                    Value.float FloatKind.f64 (0 : Nat), Value.int IntKind.i64 (99 : Int),
                                    Value.bool false, Value.bool false, Value.int IntKind.i64 (0 : Int),
                                    Value.int IntKind.i64 (DP.li p), Value.float FloatKind.f64 (0 : Nat),
                                    Value.int IntKind.i64 (DP.seq p),
                                    Value.slice (some { block := (2 : Nat), off := (0 : Nat), spot := some (0 : Nat) })
                                      (DP.m p) (1 : Nat)]
                                  true (0 : Nat)),
                              some
                                (AObj.row true (5 : Nat) (0 : Nat) (DP.m p) fun i =>
                                  [Value.int IntKind.i64 (DP.qs p ((0 : Nat) + i)),
                                    Value.int IntKind.i64 (DP.qk p ((0 : Nat) + i)),
                                    Value.int IntKind.i64 (DP.qi p ((0 : Nat) + i)),
                                    Value.float FloatKind.f64 (DP.qf p ((0 : Nat) + i)),
                                    Value.bool (DP.ql p ((0 : Nat) + i))])]))))))
                (br (decide (every ≤ (0 : Int)))
                  (need (Nat.ble (DP.m p + (1 : Nat)) (1000000 : Nat))
                    (need (true && Nat.ble ((0 : Nat) + DP.m p) (DP.m p))
                      (br (decide (Int.ofNat (DP.m p + (1 : Nat)) ≤ (99 : Int)))
                        (br
                          (decide
                            (IntKind.wrap IntKind.i64
                                (DP.now p +
                                  IntKind.wrap IntKind.i64
                                    (Int.tmod (g ((0 : Nat) + Int.toNat (Int.ofNat (DP.k p)))) (50 : Int))) ≥
                              DP.due2 p))
                          (LoopJ Try.prog β (exIn n c g every Post) (2 : Nat) (loopOf Try.prog (4 : FuncId) (2 : Nat))
                              (mkF (70 : Nat)
                                [((1 : Nat),
                                    Value.slice (some { block := (0 : Nat), off := (0 : Nat), spot := some (0 : Nat) }) n
                                      c),
                                  ((5 : Nat), Value.int IntKind.i64 every),
                                  ((6 : Nat), Value.pointer (some { block := (1 : Nat), off := (0 : Nat) })),
                                  ((7 : Nat),
                                    Value.int IntKind.i64
                                      (IntKind.wrap IntKind.i64
                                        (DP.now p +
                                          IntKind.wrap IntKind.i64
                                            (Int.tmod (g ((0 : Nat) + Int.toNat (Int.ofNat (DP.k p)))) (50 : Int))))),
                                  ((8 : Nat), Value.int IntKind.i64 (IntKind.wrap IntKind.i64 (DP.seq p + (1 : Int)))),
                                  ((9 : Nat), Value.int IntKind.i64 (DP.due2 p)),
                                  ((10 : Nat), Value.int IntKind.i64 (Int.ofNat (DP.k p)))])
                              (mkS
                                [some (AObj.row false (1 : Nat) (0 : Nat) n fun i => [Value.int IntKind.u8 (g i)]),
                                  some
                                    (AObj.cells
                                      [Value.int IntKind.i64 (1 : Int), Value.int IntKind.i64 (0 : Int),
                                        Value.int IntKind.i64 every,
                                        Value.int IntKind.i64
                                          (IntKind.wrap IntKind.i64
                                            (DP.now p +
                                              IntKind.wrap IntKind.i64
                                                (Int.tmod (g ((0 : Nat) + Int.toNat (Int.ofNat (DP.k p)))) (50 : Int)))),
                                        Value.int IntKind.i64 (0 : Int), Value.int IntKind.i64 (0 : Int),
                                        Value.float FloatKind.f64 (0 : Nat), Value.int IntKind.i64 (99 : Int),
                                        Value.bool true, Value.bool false, Value.int IntKind.i64 (3 : Int),
                                        Value.int IntKind.i64 (Int.ofNat (DP.k p)), Value.float FloatKind.f64 (0 : Nat),
                                        Value.int IntKind.i64 (IntKind.wrap IntKind.i64 (DP.seq p + (1 : Int))),
                                        Value.slice
                                          (some { block := (2 : Nat), off := (0 : Nat), spot := some (0 : Nat) })
                                          (DP.m p + (1 : Nat)) (1 : Nat)]
                                      true (0 : Nat)),
                                  some
                                    (AObj.row true (5 : Nat) (0 : Nat) (DP.m p + (1 : Nat)) fun i =>
                                      [Value.int IntKind.i64
                                          (bif Nat.blt i (DP.m p) then DP.qs p ((0 : Nat) + ((0 : Nat) + i))
                                          else IntKind.wrap IntKind.i64 (DP.seq p + (1 : Int))),
                                        Value.int IntKind.i64
                                          (bif Nat.blt i (DP.m p) then DP.qk p ((0 : Nat) + ((0 : Nat) + i))
                                          else (3 : Int)),
                                        Value.int IntKind.i64
                                          (bif Nat.blt i (DP.m p) then DP.qi p ((0 : Nat) + ((0 : Nat) + i))
                                          else Int.ofNat (DP.k p)),
                                        Value.float FloatKind.f64
                                          (bif Nat.blt i (DP.m p) then DP.qf p ((0 : Nat) + ((0 : Nat) + i))
                                          else (0 : Nat)),
                                        Value.bool
                                          (bif Nat.blt i (DP.m p) then DP.ql p ((0 : Nat) + ((0 : Nat) + i))
                                          else false)])]) ∧
                            ∀ (p : DP),
                              Post p →
                                br (DP.seq p != DP.seq p)
                                  (N AX.ret (mkF (70 : Nat) [])
                                    (mkS
                                      [some
                                          (AObj.row false (1 : Nat) (0 : Nat) n fun i => [Value.int IntKind.u8 (g i)])]))
                                  (br (DP.due p != DP.due2 p)
                                    (N AX.ret (mkF (70 : Nat) [])
                                      (mkS
                                        [some
                                            (AObj.row false (1 : Nat) (0 : Nat) n fun i =>
                                              [Value.int IntKind.u8 (g i)])]))
                                    (br (Int.ofNat (DP.m p) != DP.seq p)
                                      (N AX.ret (mkF (70 : Nat) [])
                                        (mkS
                                          [some
                                              (AObj.row false (1 : Nat) (0 : Nat) n fun i =>
                                                [Value.int IntKind.u8 (g i)])]))
                                      (N AX.normal
                                        (mkF (70 : Nat)
                                          [((1 : Nat),
                                              Value.slice
                                                (some { block := (0 : Nat), off := (0 : Nat), spot := some (0 : Nat) }) n
                                                c),
                                            ((5 : Nat), Value.int IntKind.i64 every),
                                            ((6 : Nat), Value.pointer (some { block := (1 : Nat), off := (0 : Nat) })),
                                            ((7 : Nat), Value.int IntKind.i64 (DP.now p)),
                                            ((8 : Nat), Value.int IntKind.i64 (DP.seq p)),
                                            ((9 : Nat), Value.int IntKind.i64 (DP.due2 p)),
                                            ((10 : Nat),
                                              Value.int IntKind.i64
                                                (IntKind.wrap IntKind.i64 (Int.ofNat (DP.k p) + (1 : Int))))])
                                        (mkS
                                          [some
                                              (AObj.row false (1 : Nat) (0 : Nat) n fun i =>
                                                [Value.int IntKind.u8 (g i)]),
                                            some
                                              (AObj.cells
                                                [Value.int IntKind.i64 (1 : Int), Value.int IntKind.i64 (0 : Int),
                                                  Value.int IntKind.i64 every, Value.int IntKind.i64 (DP.due p),
                                                  Value.int IntKind.i64 (0 : Int), Value.int IntKind.i64 (0 : Int),
                                                  Value.float FloatKind.f64 (0 : Nat), Value.int IntKind.i64 (99 : Int),
                                                  Value.bool true, Value.bool false, Value.int IntKind.i64 (3 : Int),
                                                  Value.int IntKind.i64 (DP.li p), Value.float FloatKind.f64 (0 : Nat),
                                                  Value.int IntKind.i64 (DP.seq p),
                                                  Value.slice
                                                    (some
                                                      { block := (2 : Nat), off := (0 : Nat), spot := some (0 : Nat) })
                                                    (DP.m p) (1 : Nat)]
                                                true (0 : Nat)),
                                            some
                                              (AObj.row true (5 : Nat) (0 : Nat) (DP.m p) fun i =>
                                                [Value.int IntKind.i64 (DP.qs p i), Value.int IntKind.i64 (DP.qk p i),
                                                  Value.int IntKind.i64 (DP.qi p i),
                                                  Value.float FloatKind.f64 (DP.qf p i), Value.bool (DP.ql p i)])])))))
                          (br (IntKind.wrap IntKind.i64 (DP.seq p + (1 : Int)) != DP.seq p)
                            (N AX.ret (mkF (70 : Nat) [])
                              (mkS [some (AObj.row false (1 : Nat) (0 : Nat) n fun i => [Value.int IntKind.u8 (g i)])]))
                            (br
                              (IntKind.wrap IntKind.i64
                                  (DP.now p +
                                    IntKind.wrap IntKind.i64
                                      (Int.tmod (g ((0 : Nat) + Int.toNat (Int.ofNat (DP.k p)))) (50 : Int))) !=
                                DP.due2 p)
                              (N AX.ret (mkF (70 : Nat) [])
                                (mkS [some (AObj.row false (1 : Nat) (0 : Nat) n fun i => [Value.int IntKind.u8 (g i)])]))
                              (br (Int.ofNat (DP.m p + (1 : Nat)) != DP.seq p)
                                (N AX.ret (mkF (70 : Nat) [])
                                  (mkS
                                    [some (AObj.row false (1 : Nat) (0 : Nat) n fun i => [Value.int IntKind.u8 (g i)])]))
                                (N AX.normal
                                  (mkF (70 : Nat)
                                    [((1 : Nat),
                                        Value.slice
                                          (some { block := (0 : Nat), off := (0 : Nat), spot := some (0 : Nat) }) n c),
                                      ((5 : Nat), Value.int IntKind.i64 every),
                                      ((6 : Nat), Value.pointer (some { block := (1 : Nat), off := (0 : Nat) })),
                                      ((7 : Nat),
                                        Value.int IntKind.i64
                                          (IntKind.wrap IntKind.i64
                                            (DP.now p +
                                              IntKind.wrap IntKind.i64
                                                (Int.tmod (g ((0 : Nat) + Int.toNat (Int.ofNat (DP.k p)))) (50 : Int))))),
                                      ((8 : Nat), Value.int IntKind.i64 (DP.seq p)),
                                      ((9 : Nat), Value.int IntKind.i64 (DP.due2 p)),
                                      ((10 : Nat),
                                        Value.int IntKind.i64
                                          (IntKind.wrap IntKind.i64 (Int.ofNat (DP.k p) + (1 : Int))))])
                                  (mkS
                                    [some (AObj.row false (1 : Nat) (0 : Nat) n fun i => [Value.int IntKind.u8 (g i)]),
                                      some
                                        (AObj.cells
                                          [Value.int IntKind.i64 (1 : Int), Value.int IntKind.i64 (0 : Int),
                                            Value.int IntKind.i64 every,
                                            Value.int IntKind.i64
                                              (IntKind.wrap IntKind.i64
                                                (DP.now p +
                                                  IntKind.wrap IntKind.i64
                                                    (Int.tmod (g ((0 : Nat) + Int.toNat (Int.ofNat (DP.k p))))
                                                      (50 : Int)))),
                                            Value.int IntKind.i64 (0 : Int), Value.int IntKind.i64 (0 : Int),
                                            Value.float FloatKind.f64 (0 : Nat), Value.int IntKind.i64 (99 : Int),
                                            Value.bool true, Value.bool false, Value.int IntKind.i64 (3 : Int),
                                            Value.int IntKind.i64 (Int.ofNat (DP.k p)),
                                            Value.float FloatKind.f64 (0 : Nat),
                                            Value.int IntKind.i64 (IntKind.wrap IntKind.i64 (DP.seq p + (1 : Int))),
                                            Value.slice
                                              (some { block := (2 : Nat), off := (0 : Nat), spot := some (0 : Nat) })
                                              (DP.m p + (1 : Nat)) (1 : Nat)]
                                          true (0 : Nat)),
                                      some
                                        (AObj.row true (5 : Nat) (0 : Nat) (DP.m p + (1 : Nat)) fun i =>
                                          [Value.int IntKind.i64
                                              (bif Nat.blt i (DP.m p) then DP.qs p ((0 : Nat) + ((0 : Nat) + i))
                                              else IntKind.wrap IntKind.i64 (DP.seq p + (1 : Int))),
                                            Value.int IntKind.i64
                                              (bif Nat.blt i (DP.m p) then DP.qk p ((0 : Nat) + ((0 : Nat) + i))
                                              else (3 : Int)),
                                            Value.int IntKind.i64
                                              (bif Nat.blt i (DP.m p) then DP.qi p ((0 : Nat) + ((0 : Nat) + i))
                                              else Int.ofNat (DP.k p)),
                                            Value.float FloatKind.f64
                                              (bif Nat.blt i (DP.m p) then DP.qf p ((0 : Nat) + ((0 : Nat) + i))
                                              else (0 : Nat)),
                                            Value.bool
                                              (bif Nat.blt i (DP.m p) then DP.ql p ((0 : Nat) + ((0 : Nat) + i))
                                              else false)])]))))))
                        (br (Int.ofNat (DP.m p + (1 : Nat) - (1 : Nat)) == (0 : Int))
                          (br
                            (decide
                              (IntKind.wrap IntKind.i64
                                  (DP.now p +
                                    IntKind.wrap IntKind.i64
                                      (Int.tmod (g ((0 : Nat) + Int.toNat (Int.ofNat (DP.k p)))) (50 : Int))) ≥
                                DP.due2 p))
                            (LoopJ Try.prog β (exIn n c g every Post) (2 : Nat) (loopOf Try.prog (4 : FuncId) (2 : Nat))
                                (mkF (70 : Nat)
                                  [((1 : Nat),
                                      Value.slice (some { block := (0 : Nat), off := (0 : Nat), spot := some (0 : Nat) })
                                        n c),
                                    ((5 : Nat), Value.int IntKind.i64 every),
                                    ((6 : Nat), Value.pointer (some { block := (1 : Nat), off := (0 : Nat) })),
                                    ((7 : Nat),
                                      Value.int IntKind.i64
                                        (IntKind.wrap IntKind.i64
                                          (DP.now p +
                                            IntKind.wrap IntKind.i64
                                              (Int.tmod (g ((0 : Nat) + Int.toNat (Int.ofNat (DP.k p)))) (50 : Int))))),
                                    ((8 : Nat), Value.int IntKind.i64 (IntKind.wrap IntKind.i64 (DP.seq p + (1 : Int)))),
                                    ((9 : Nat), Value.int IntKind.i64 (DP.due2 p)),
                                    ((10 : Nat), Value.int IntKind.i64 (Int.ofNat (DP.k p)))])
                                (mkS
                                  [some (AObj.row false (1 : Nat) (0 : Nat) n fun i => [Value.int IntKind.u8 (g i)]),
                                    some
                                      (AObj.cells
                                        [Value.int IntKind.i64 (1 : Int), Value.int IntKind.i64 (0 : Int),
                                          Value.int IntKind.i64 every,
                                          Value.int IntKind.i64
                                            (IntKind.wrap IntKind.i64
                                              (DP.now p +
                                                IntKind.wrap IntKind.i64
                                                  (Int.tmod (g ((0 : Nat) + Int.toNat (Int.ofNat (DP.k p))))
                                                    (50 : Int)))),
                                          Value.int IntKind.i64 (0 : Int), Value.int IntKind.i64 (0 : Int),
                                          Value.float FloatKind.f64 (0 : Nat), Value.int IntKind.i64 (99 : Int),
                                          Value.bool true, Value.bool true, Value.int IntKind.i64 (3 : Int),
                                          Value.int IntKind.i64 (Int.ofNat (DP.k p)), Value.float FloatKind.f64 (0 : Nat),
                                          Value.int IntKind.i64 (IntKind.wrap IntKind.i64 (DP.seq p + (1 : Int))),
                                          Value.slice
                                            (some { block := (2 : Nat), off := (0 : Nat), spot := some (1 : Nat) })
                                            (DP.m p + (1 : Nat) - (1 : Nat)) (0 : Nat)]
                                        true (0 : Nat)),
                                    some
                                      (AObj.row true (5 : Nat) (0 : Nat) (DP.m p + (1 : Nat)) fun i =>
                                        [Value.int IntKind.i64
                                            (bif Nat.blt i (DP.m p) then DP.qs p ((0 : Nat) + ((0 : Nat) + i))
                                            else IntKind.wrap IntKind.i64 (DP.seq p + (1 : Int))),
                                          Value.int IntKind.i64
                                            (bif Nat.blt i (DP.m p) then DP.qk p ((0 : Nat) + ((0 : Nat) + i))
                                            else (3 : Int)),
                                          Value.int IntKind.i64
                                            (bif Nat.blt i (DP.m p) then DP.qi p ((0 : Nat) + ((0 : Nat) + i))
                                            else Int.ofNat (DP.k p)),
                                          Value.float FloatKind.f64
                                            (bif Nat.blt i (DP.m p) then DP.qf p ((0 : Nat) + ((0 : Nat) + i))
                                            else (0 : Nat)),
                                          Value.bool
                                            (bif Nat.blt i (DP.m p) then DP.ql p ((0 : Nat) + ((0 : Nat) + i))
                                            else false)])]) ∧
                              ∀ (p : DP),
                                Post p →
                                  br (DP.seq p != DP.seq p)
                                    (N AX.ret (mkF (70 : Nat) [])
                                      (mkS
                                        [some
                                            (AObj.row false (1 : Nat) (0 : Nat) n fun i =>
                                              [Value.int IntKind.u8 (g i)])]))
                                    (br (DP.due p != DP.due2 p)
                                      (N AX.ret (mkF (70 : Nat) [])
                                        (mkS
                                          [some
                                              (AObj.row false (1 : Nat) (0 : Nat) n fun i =>
                                                [Value.int IntKind.u8 (g i)])]))
                                      (br (Int.ofNat (DP.m p) != DP.seq p)
                                        (N AX.ret (mkF (70 : Nat) [])
                                          (mkS
                                            [some
                                                (AObj.row false (1 : Nat) (0 : Nat) n fun i =>
                                                  [Value.int IntKind.u8 (g i)])]))
                                        (N AX.normal
                                          (mkF (70 : Nat)
                                            [((1 : Nat),
                                                Value.slice
                                                  (some { block := (0 : Nat), off := (0 : Nat), spot := some (0 : Nat) })
                                                  n c),
                                              ((5 : Nat), Value.int IntKind.i64 every),
                                              ((6 : Nat), Value.pointer (some { block := (1 : Nat), off := (0 : Nat) })),
                                              ((7 : Nat), Value.int IntKind.i64 (DP.now p)),
                                              ((8 : Nat), Value.int IntKind.i64 (DP.seq p)),
                                              ((9 : Nat), Value.int IntKind.i64 (DP.due2 p)),
                                              ((10 : Nat),
                                                Value.int IntKind.i64
                                                  (IntKind.wrap IntKind.i64 (Int.ofNat (DP.k p) + (1 : Int))))])
                                          (mkS
                                            [some
                                                (AObj.row false (1 : Nat) (0 : Nat) n fun i =>
                                                  [Value.int IntKind.u8 (g i)]),
                                              some
                                                (AObj.cells
                                                  [Value.int IntKind.i64 (1 : Int), Value.int IntKind.i64 (0 : Int),
                                                    Value.int IntKind.i64 every, Value.int IntKind.i64 (DP.due p),
                                                    Value.int IntKind.i64 (0 : Int), Value.int IntKind.i64 (0 : Int),
                                                    Value.float FloatKind.f64 (0 : Nat), Value.int IntKind.i64 (99 : Int),
                                                    Value.bool true, Value.bool false, Value.int IntKind.i64 (3 : Int),
                                                    Value.int IntKind.i64 (DP.li p), Value.float FloatKind.f64 (0 : Nat),
                                                    Value.int IntKind.i64 (DP.seq p),
                                                    Value.slice
                                                      (some
                                                        { block := (2 : Nat), off := (0 : Nat), spot := some (0 : Nat) })
                                                      (DP.m p) (1 : Nat)]
                                                  true (0 : Nat)),
                                              some
                                                (AObj.row true (5 : Nat) (0 : Nat) (DP.m p) fun i =>
                                                  [Value.int IntKind.i64 (DP.qs p i), Value.int IntKind.i64 (DP.qk p i),
                                                    Value.int IntKind.i64 (DP.qi p i),
                                                    Value.float FloatKind.f64 (DP.qf p i), Value.bool (DP.ql p i)])])))))
                            (br (IntKind.wrap IntKind.i64 (DP.seq p + (1 : Int)) != DP.seq p)
                              (N AX.ret (mkF (70 : Nat) [])
                                (mkS [some (AObj.row false (1 : Nat) (0 : Nat) n fun i => [Value.int IntKind.u8 (g i)])]))
                              (br
                                (IntKind.wrap IntKind.i64
                                    (DP.now p +
                                      IntKind.wrap IntKind.i64
                                        (Int.tmod (g ((0 : Nat) + Int.toNat (Int.ofNat (DP.k p)))) (50 : Int))) !=
                                  DP.due2 p)
                                (N AX.ret (mkF (70 : Nat) [])
                                  (mkS
                                    [some (AObj.row false (1 : Nat) (0 : Nat) n fun i => [Value.int IntKind.u8 (g i)])]))
                                (br (Int.ofNat (DP.m p + (1 : Nat) - (1 : Nat)) != DP.seq p)
                                  (N AX.ret (mkF (70 : Nat) [])
                                    (mkS
                                      [some
                                          (AObj.row false (1 : Nat) (0 : Nat) n fun i => [Value.int IntKind.u8 (g i)])]))
                                  (N AX.normal
                                    (mkF (70 : Nat)
                                      [((1 : Nat),
                                          Value.slice
                                            (some { block := (0 : Nat), off := (0 : Nat), spot := some (0 : Nat) }) n c),
                                        ((5 : Nat), Value.int IntKind.i64 every),
                                        ((6 : Nat), Value.pointer (some { block := (1 : Nat), off := (0 : Nat) })),
                                        ((7 : Nat),
                                          Value.int IntKind.i64
                                            (IntKind.wrap IntKind.i64
                                              (DP.now p +
                                                IntKind.wrap IntKind.i64
                                                  (Int.tmod (g ((0 : Nat) + Int.toNat (Int.ofNat (DP.k p))))
                                                    (50 : Int))))),
                                        ((8 : Nat), Value.int IntKind.i64 (DP.seq p)),
                                        ((9 : Nat), Value.int IntKind.i64 (DP.due2 p)),
                                        ((10 : Nat),
                                          Value.int IntKind.i64
                                            (IntKind.wrap IntKind.i64 (Int.ofNat (DP.k p) + (1 : Int))))])
                                    (mkS
                                      [some (AObj.row false (1 : Nat) (0 : Nat) n fun i => [Value.int IntKind.u8 (g i)]),
                                        some
                                          (AObj.cells
                                            [Value.int IntKind.i64 (1 : Int), Value.int IntKind.i64 (0 : Int),
                                              Value.int IntKind.i64 every,
                                              Value.int IntKind.i64
                                                (IntKind.wrap IntKind.i64
                                                  (DP.now p +
                                                    IntKind.wrap IntKind.i64
                                                      (Int.tmod (g ((0 : Nat) + Int.toNat (Int.ofNat (DP.k p))))
                                                        (50 : Int)))),
                                              Value.int IntKind.i64 (0 : Int), Value.int IntKind.i64 (0 : Int),
                                              Value.float FloatKind.f64 (0 : Nat), Value.int IntKind.i64 (99 : Int),
                                              Value.bool true, Value.bool true, Value.int IntKind.i64 (3 : Int),
                                              Value.int IntKind.i64 (Int.ofNat (DP.k p)),
                                              Value.float FloatKind.f64 (0 : Nat),
                                              Value.int IntKind.i64 (IntKind.wrap IntKind.i64 (DP.seq p + (1 : Int))),
                                              Value.slice
                                                (some { block := (2 : Nat), off := (0 : Nat), spot := some (1 : Nat) })
                                                (DP.m p + (1 : Nat) - (1 : Nat)) (0 : Nat)]
                                            true (0 : Nat)),
                                        some
                                          (AObj.row true (5 : Nat) (0 : Nat) (DP.m p + (1 : Nat)) fun i =>
                                            [Value.int IntKind.i64
                                                (bif Nat.blt i (DP.m p) then DP.qs p ((0 : Nat) + ((0 : Nat) + i))
                                                else IntKind.wrap IntKind.i64 (DP.seq p + (1 : Int))),
                                              Value.int IntKind.i64
                                                (bif Nat.blt i (DP.m p) then DP.qk p ((0 : Nat) + ((0 : Nat) + i))
                                                else (3 : Int)),
                                              Value.int IntKind.i64
                                                (bif Nat.blt i (DP.m p) then DP.qi p ((0 : Nat) + ((0 : Nat) + i))
                                                else Int.ofNat (DP.k p)),
                                              Value.float FloatKind.f64
                                                (bif Nat.blt i (DP.m p) then DP.qf p ((0 : Nat) + ((0 : Nat) + i))
                                                else (0 : Nat)),
                                              Value.bool
                                                (bif Nat.blt i (DP.m p) then DP.ql p ((0 : Nat) + ((0 : Nat) + i))
                                                else false)])]))))))
                          (need (Nat.blt (0 : Nat) (DP.m p + (1 : Nat) - (1 : Nat)))
                            (need (Nat.blt (1 : Nat) (DP.m p + (1 : Nat)))
                              (br
                                (decide
                                  (IntKind.wrap IntKind.i64
                                      (DP.now p +
                                        IntKind.wrap IntKind.i64
                                          (Int.tmod (g ((0 : Nat) + Int.toNat (Int.ofNat (DP.k p)))) (50 : Int))) ≥
                                    DP.due2 p))
                                (LoopJ Try.prog β (exIn n c g every Post) (2 : Nat)
                                    (loopOf Try.prog (4 : FuncId) (2 : Nat))
                                    (mkF (70 : Nat)
                                      [((1 : Nat),
                                          Value.slice
                                            (some { block := (0 : Nat), off := (0 : Nat), spot := some (0 : Nat) }) n c),
                                        ((5 : Nat), Value.int IntKind.i64 every),
                                        ((6 : Nat), Value.pointer (some { block := (1 : Nat), off := (0 : Nat) })),
                                        ((7 : Nat),
                                          Value.int IntKind.i64
                                            (IntKind.wrap IntKind.i64
                                              (DP.now p +
                                                IntKind.wrap IntKind.i64
                                                  (Int.tmod (g ((0 : Nat) + Int.toNat (Int.ofNat (DP.k p))))
                                                    (50 : Int))))),
                                        ((8 : Nat),
                                          Value.int IntKind.i64 (IntKind.wrap IntKind.i64 (DP.seq p + (1 : Int)))),
                                        ((9 : Nat), Value.int IntKind.i64 (DP.due2 p)),
                                        ((10 : Nat), Value.int IntKind.i64 (Int.ofNat (DP.k p)))])
                                    (mkS
                                      [some (AObj.row false (1 : Nat) (0 : Nat) n fun i => [Value.int IntKind.u8 (g i)]),
                                        some
                                          (AObj.cells
                                            [Value.int IntKind.i64 (1 : Int), Value.int IntKind.i64 (0 : Int),
                                              Value.int IntKind.i64 every,
                                              Value.int IntKind.i64
                                                (IntKind.wrap IntKind.i64
                                                  (DP.now p +
                                                    IntKind.wrap IntKind.i64
                                                      (Int.tmod (g ((0 : Nat) + Int.toNat (Int.ofNat (DP.k p))))
                                                        (50 : Int)))),
                                              Value.int IntKind.i64 (0 : Int), Value.int IntKind.i64 (0 : Int),
                                              Value.float FloatKind.f64 (0 : Nat), Value.int IntKind.i64 (99 : Int),
                                              Value.bool true, Value.bool false, Value.int IntKind.i64 (3 : Int),
                                              Value.int IntKind.i64 (Int.ofNat (DP.k p)),
                                              Value.float FloatKind.f64 (0 : Nat),
                                              Value.int IntKind.i64 (IntKind.wrap IntKind.i64 (DP.seq p + (1 : Int))),
                                              Value.slice
                                                (some { block := (2 : Nat), off := (0 : Nat), spot := some (1 : Nat) })
                                                (DP.m p + (1 : Nat) - (1 : Nat)) (0 : Nat)]
                                            true (0 : Nat)),
                                        some
                                          (AObj.row true (5 : Nat) (0 : Nat) (DP.m p + (1 : Nat)) fun i =>
                                            [Value.int IntKind.i64
                                                (bif Nat.beq i (1 : Nat) then
                                                  bif Nat.blt (1 : Nat) (DP.m p) then DP.qs p (1 : Nat)
                                                  else IntKind.wrap IntKind.i64 (DP.seq p + (1 : Int))
                                                else
                                                  bif Nat.blt i (DP.m p) then DP.qs p ((0 : Nat) + ((0 : Nat) + i))
                                                  else IntKind.wrap IntKind.i64 (DP.seq p + (1 : Int))),
                                              Value.int IntKind.i64
                                                (bif Nat.beq i (1 : Nat) then
                                                  bif Nat.blt (1 : Nat) (DP.m p) then DP.qk p (1 : Nat) else (3 : Int)
                                                else
                                                  bif Nat.blt i (DP.m p) then DP.qk p ((0 : Nat) + ((0 : Nat) + i))
                                                  else (3 : Int)),
                                              Value.int IntKind.i64
                                                (bif Nat.beq i (1 : Nat) then
                                                  bif Nat.blt (1 : Nat) (DP.m p) then DP.qi p (1 : Nat)
                                                  else Int.ofNat (DP.k p)
                                                else
                                                  bif Nat.blt i (DP.m p) then DP.qi p ((0 : Nat) + ((0 : Nat) + i))
                                                  else Int.ofNat (DP.k p)),
                                              Value.float FloatKind.f64
                                                (bif Nat.beq i (1 : Nat) then
                                                  bif Nat.blt (1 : Nat) (DP.m p) then DP.qf p (1 : Nat) else (0 : Nat)
                                                else
                                                  bif Nat.blt i (DP.m p) then DP.qf p ((0 : Nat) + ((0 : Nat) + i))
                                                  else (0 : Nat)),
                                              Value.bool
                                                (bif Nat.beq i (1 : Nat) then true
                                                else
                                                  bif Nat.blt i (DP.m p) then DP.ql p ((0 : Nat) + ((0 : Nat) + i))
                                                  else false)])]) ∧
                                  ∀ (p : DP),
                                    Post p →
                                      br (DP.seq p != DP.seq p)
                                        (N AX.ret (mkF (70 : Nat) [])
                                          (mkS
                                            [some
                                                (AObj.row false (1 : Nat) (0 : Nat) n fun i =>
                                                  [Value.int IntKind.u8 (g i)])]))
                                        (br (DP.due p != DP.due2 p)
                                          (N AX.ret (mkF (70 : Nat) [])
                                            (mkS
                                              [some
                                                  (AObj.row false (1 : Nat) (0 : Nat) n fun i =>
                                                    [Value.int IntKind.u8 (g i)])]))
                                          (br (Int.ofNat (DP.m p) != DP.seq p)
                                            (N AX.ret (mkF (70 : Nat) [])
                                              (mkS
                                                [some
                                                    (AObj.row false (1 : Nat) (0 : Nat) n fun i =>
                                                      [Value.int IntKind.u8 (g i)])]))
                                            (N AX.normal
                                              (mkF (70 : Nat)
                                                [((1 : Nat),
                                                    Value.slice
                                                      (some
                                                        { block := (0 : Nat), off := (0 : Nat), spot := some (0 : Nat) })
                                                      n c),
                                                  ((5 : Nat), Value.int IntKind.i64 every),
                                                  ((6 : Nat),
                                                    Value.pointer (some { block := (1 : Nat), off := (0 : Nat) })),
                                                  ((7 : Nat), Value.int IntKind.i64 (DP.now p)),
                                                  ((8 : Nat), Value.int IntKind.i64 (DP.seq p)),
                                                  ((9 : Nat), Value.int IntKind.i64 (DP.due2 p)),
                                                  ((10 : Nat),
                                                    Value.int IntKind.i64
                                                      (IntKind.wrap IntKind.i64 (Int.ofNat (DP.k p) + (1 : Int))))])
                                              (mkS
                                                [some
                                                    (AObj.row false (1 : Nat) (0 : Nat) n fun i =>
                                                      [Value.int IntKind.u8 (g i)]),
                                                  some
                                                    (AObj.cells
                                                      [Value.int IntKind.i64 (1 : Int), Value.int IntKind.i64 (0 : Int),
                                                        Value.int IntKind.i64 every, Value.int IntKind.i64 (DP.due p),
                                                        Value.int IntKind.i64 (0 : Int), Value.int IntKind.i64 (0 : Int),
                                                        Value.float FloatKind.f64 (0 : Nat),
                                                        Value.int IntKind.i64 (99 : Int), Value.bool true,
                                                        Value.bool false, Value.int IntKind.i64 (3 : Int),
                                                        Value.int IntKind.i64 (DP.li p),
                                                        Value.float FloatKind.f64 (0 : Nat),
                                                        Value.int IntKind.i64 (DP.seq p),
                                                        Value.slice
                                                          (some
                                                            { block := (2 : Nat), off := (0 : Nat),
                                                              spot := some (0 : Nat) })
                                                          (DP.m p) (1 : Nat)]
                                                      true (0 : Nat)),
                                                  some
                                                    (AObj.row true (5 : Nat) (0 : Nat) (DP.m p) fun i =>
                                                      [Value.int IntKind.i64 (DP.qs p i),
                                                        Value.int IntKind.i64 (DP.qk p i),
                                                        Value.int IntKind.i64 (DP.qi p i),
                                                        Value.float FloatKind.f64 (DP.qf p i),
                                                        Value.bool (DP.ql p i)])])))))
                                (br (IntKind.wrap IntKind.i64 (DP.seq p + (1 : Int)) != DP.seq p)
                                  (N AX.ret (mkF (70 : Nat) [])
                                    (mkS
                                      [some
                                          (AObj.row false (1 : Nat) (0 : Nat) n fun i => [Value.int IntKind.u8 (g i)])]))
                                  (br
                                    (IntKind.wrap IntKind.i64
                                        (DP.now p +
                                          IntKind.wrap IntKind.i64
                                            (Int.tmod (g ((0 : Nat) + Int.toNat (Int.ofNat (DP.k p)))) (50 : Int))) !=
                                      DP.due2 p)
                                    (N AX.ret (mkF (70 : Nat) [])
                                      (mkS
                                        [some
                                            (AObj.row false (1 : Nat) (0 : Nat) n fun i =>
                                              [Value.int IntKind.u8 (g i)])]))
                                    (br (Int.ofNat (DP.m p + (1 : Nat) - (1 : Nat)) != DP.seq p)
                                      (N AX.ret (mkF (70 : Nat) [])
                                        (mkS
                                          [some
                                              (AObj.row false (1 : Nat) (0 : Nat) n fun i =>
                                                [Value.int IntKind.u8 (g i)])]))
                                      (N AX.normal
                                        (mkF (70 : Nat)
                                          [((1 : Nat),
                                              Value.slice
                                                (some { block := (0 : Nat), off := (0 : Nat), spot := some (0 : Nat) }) n
                                                c),
                                            ((5 : Nat), Value.int IntKind.i64 every),
                                            ((6 : Nat), Value.pointer (some { block := (1 : Nat), off := (0 : Nat) })),
                                            ((7 : Nat),
                                              Value.int IntKind.i64
                                                (IntKind.wrap IntKind.i64
                                                  (DP.now p +
                                                    IntKind.wrap IntKind.i64
                                                      (Int.tmod (g ((0 : Nat) + Int.toNat (Int.ofNat (DP.k p))))
                                                        (50 : Int))))),
                                            ((8 : Nat), Value.int IntKind.i64 (DP.seq p)),
                                            ((9 : Nat), Value.int IntKind.i64 (DP.due2 p)),
                                            ((10 : Nat),
                                              Value.int IntKind.i64
                                                (IntKind.wrap IntKind.i64 (Int.ofNat (DP.k p) + (1 : Int))))])
                                        (mkS
                                          [some
                                              (AObj.row false (1 : Nat) (0 : Nat) n fun i =>
                                                [Value.int IntKind.u8 (g i)]),
                                            some
                                              (AObj.cells
                                                [Value.int IntKind.i64 (1 : Int), Value.int IntKind.i64 (0 : Int),
                                                  Value.int IntKind.i64 every,
                                                  Value.int IntKind.i64
                                                    (IntKind.wrap IntKind.i64
                                                      (DP.now p +
                                                        IntKind.wrap IntKind.i64
                                                          (Int.tmod (g ((0 : Nat) + Int.toNat (Int.ofNat (DP.k p))))
                                                            (50 : Int)))),
                                                  Value.int IntKind.i64 (0 : Int), Value.int IntKind.i64 (0 : Int),
                                                  Value.float FloatKind.f64 (0 : Nat), Value.int IntKind.i64 (99 : Int),
                                                  Value.bool true, Value.bool false, Value.int IntKind.i64 (3 : Int),
                                                  Value.int IntKind.i64 (Int.ofNat (DP.k p)),
                                                  Value.float FloatKind.f64 (0 : Nat),
                                                  Value.int IntKind.i64 (IntKind.wrap IntKind.i64 (DP.seq p + (1 : Int))),
                                                  Value.slice
                                                    (some
                                                      { block := (2 : Nat), off := (0 : Nat), spot := some (1 : Nat) })
                                                    (DP.m p + (1 : Nat) - (1 : Nat)) (0 : Nat)]
                                                true (0 : Nat)),
                                            some
                                              (AObj.row true (5 : Nat) (0 : Nat) (DP.m p + (1 : Nat)) fun i =>
                                                [Value.int IntKind.i64
                                                    (bif Nat.beq i (1 : Nat) then
                                                      bif Nat.blt (1 : Nat) (DP.m p) then DP.qs p (1 : Nat)
                                                      else IntKind.wrap IntKind.i64 (DP.seq p + (1 : Int))
                                                    else
                                                      bif Nat.blt i (DP.m p) then DP.qs p ((0 : Nat) + ((0 : Nat) + i))
                                                      else IntKind.wrap IntKind.i64 (DP.seq p + (1 : Int))),
                                                  Value.int IntKind.i64
                                                    (bif Nat.beq i (1 : Nat) then
                                                      bif Nat.blt (1 : Nat) (DP.m p) then DP.qk p (1 : Nat) else (3 : Int)
                                                    else
                                                      bif Nat.blt i (DP.m p) then DP.qk p ((0 : Nat) + ((0 : Nat) + i))
                                                      else (3 : Int)),
                                                  Value.int IntKind.i64
                                                    (bif Nat.beq i (1 : Nat) then
                                                      bif Nat.blt (1 : Nat) (DP.m p) then DP.qi p (1 : Nat)
                                                      else Int.ofNat (DP.k p)
                                                    else
                                                      bif Nat.blt i (DP.m p) then DP.qi p ((0 : Nat) + ((0 : Nat) + i))
                                                      else Int.ofNat (DP.k p)),
                                                  Value.float FloatKind.f64
                                                    (bif Nat.beq i (1 : Nat) then
                                                      bif Nat.blt (1 : Nat) (DP.m p) then DP.qf p (1 : Nat) else (0 : Nat)
                                                    else
                                                      bif Nat.blt i (DP.m p) then DP.qf p ((0 : Nat) + ((0 : Nat) + i))
                                                      else (0 : Nat)),
                                                  Value.bool
                                                    (bif Nat.beq i (1 : Nat) then true
                                                    else
                                                      bif Nat.blt i (DP.m p) then DP.ql p ((0 : Nat) + ((0 : Nat) + i))
                                                      else false)])]))))))))))))
                  (need (true && !decide (IntKind.wrap IntKind.u64 every = (0 : Int)))
                    (need (Nat.ble (DP.m p + (1 : Nat)) (1000000 : Nat))
                      (need (true && Nat.ble ((0 : Nat) + DP.m p) (DP.m p))
                        (br (decide (Int.ofNat (DP.m p + (1 : Nat)) ≤ (99 : Int)))
                          (br
                            (decide
                              (IntKind.wrap IntKind.i64
                                  (DP.now p +
                                    IntKind.wrap IntKind.i64
                                      (Int.tmod (g ((0 : Nat) + Int.toNat (Int.ofNat (DP.k p)))) (50 : Int))) ≥
                                DP.due2 p))
                            (LoopJ Try.prog β (exIn n c g every Post) (2 : Nat) (loopOf Try.prog (4 : FuncId) (2 : Nat))
                                (mkF (70 : Nat)
                                  [((1 : Nat),
                                      Value.slice (some { block := (0 : Nat), off := (0 : Nat), spot := some (0 : Nat) })
                                        n c),
                                    ((5 : Nat), Value.int IntKind.i64 every),
                                    ((6 : Nat), Value.pointer (some { block := (1 : Nat), off := (0 : Nat) })),
                                    ((7 : Nat),
                                      Value.int IntKind.i64
                                        (IntKind.wrap IntKind.i64
                                          (DP.now p +
                                            IntKind.wrap IntKind.i64
                                              (Int.tmod (g ((0 : Nat) + Int.toNat (Int.ofNat (DP.k p)))) (50 : Int))))),
                                    ((8 : Nat), Value.int IntKind.i64 (IntKind.wrap IntKind.i64 (DP.seq p + (1 : Int)))),
                                    ((9 : Nat), Value.int IntKind.i64 (DP.due2 p)),
                                    ((10 : Nat), Value.int IntKind.i64 (Int.ofNat (DP.k p)))])
                                (mkS
                                  [some (AObj.row false (1 : Nat) (0 : Nat) n fun i => [Value.int IntKind.u8 (g i)]),
                                    some
                                      (AObj.cells
                                        [Value.int IntKind.i64 (1 : Int), Value.int IntKind.i64 (0 : Int),
                                          Value.int IntKind.i64 every,
                                          Value.int IntKind.i64
                                            (IntKind.wrap IntKind.i64
                                              (DP.due p +
                                                IntKind.wrap IntKind.i64
                                                  (IntKind.wrap IntKind.i64
                                                      (IntKind.wrap IntKind.u64
                                                        (IntKind.wrap IntKind.u64
                                                            (Int.tdiv
                                                              (IntKind.wrap IntKind.u64
                                                                (IntKind.wrap IntKind.u64
                                                                    (IntKind.wrap IntKind.i64
                                                                      (DP.now p +
                                                                        IntKind.wrap IntKind.i64
                                                                          (Int.tmod
                                                                            (g
                                                                              ((0 : Nat) +
                                                                                Int.toNat (Int.ofNat (DP.k p))))
                                                                            (50 : Int)))) -
                                                                  IntKind.wrap IntKind.u64 (DP.due p)))
                                                              (IntKind.wrap IntKind.u64 every)) +
                                                          (1 : Int))) *
                                                    every))),
                                          Value.int IntKind.i64 (0 : Int), Value.int IntKind.i64 (0 : Int),
                                          Value.float FloatKind.f64 (0 : Nat), Value.int IntKind.i64 (99 : Int),
                                          Value.bool true, Value.bool false, Value.int IntKind.i64 (3 : Int),
                                          Value.int IntKind.i64 (Int.ofNat (DP.k p)), Value.float FloatKind.f64 (0 : Nat),
                                          Value.int IntKind.i64 (IntKind.wrap IntKind.i64 (DP.seq p + (1 : Int))),
                                          Value.slice
                                            (some { block := (2 : Nat), off := (0 : Nat), spot := some (0 : Nat) })
                                            (DP.m p + (1 : Nat)) (1 : Nat)]
                                        true (0 : Nat)),
                                    some
                                      (AObj.row true (5 : Nat) (0 : Nat) (DP.m p + (1 : Nat)) fun i =>
                                        [Value.int IntKind.i64
                                            (bif Nat.blt i (DP.m p) then DP.qs p ((0 : Nat) + ((0 : Nat) + i))
                                            else IntKind.wrap IntKind.i64 (DP.seq p + (1 : Int))),
                                          Value.int IntKind.i64
                                            (bif Nat.blt i (DP.m p) then DP.qk p ((0 : Nat) + ((0 : Nat) + i))
                                            else (3 : Int)),
                                          Value.int IntKind.i64
                                            (bif Nat.blt i (DP.m p) then DP.qi p ((0 : Nat) + ((0 : Nat) + i))
                                            else Int.ofNat (DP.k p)),
                                          Value.float FloatKind.f64
                                            (bif Nat.blt i (DP.m p) then DP.qf p ((0 : Nat) + ((0 : Nat) + i))
                                            else (0 : Nat)),
                                          Value.bool
                                            (bif Nat.blt i (DP.m p) then DP.ql p ((0 : Nat) + ((0 : Nat) + i))
                                            else false)])]) ∧
                              ∀ (p : DP),
                                Post p →
                                  br (DP.seq p != DP.seq p)
                                    (N AX.ret (mkF (70 : Nat) [])
                                      (mkS
                                        [some
                                            (AObj.row false (1 : Nat) (0 : Nat) n fun i =>
                                              [Value.int IntKind.u8 (g i)])]))
                                    (br (DP.due p != DP.due2 p)
                                      (N AX.ret (mkF (70 : Nat) [])
                                        (mkS
                                          [some
                                              (AObj.row false (1 : Nat) (0 : Nat) n fun i =>
                                                [Value.int IntKind.u8 (g i)])]))
                                      (br (Int.ofNat (DP.m p) != DP.seq p)
                                        (N AX.ret (mkF (70 : Nat) [])
                                          (mkS
                                            [some
                                                (AObj.row false (1 : Nat) (0 : Nat) n fun i =>
                                                  [Value.int IntKind.u8 (g i)])]))
                                        (N AX.normal
                                          (mkF (70 : Nat)
                                            [((1 : Nat),
                                                Value.slice
                                                  (some { block := (0 : Nat), off := (0 : Nat), spot := some (0 : Nat) })
                                                  n c),
                                              ((5 : Nat), Value.int IntKind.i64 every),
                                              ((6 : Nat), Value.pointer (some { block := (1 : Nat), off := (0 : Nat) })),
                                              ((7 : Nat), Value.int IntKind.i64 (DP.now p)),
                                              ((8 : Nat), Value.int IntKind.i64 (DP.seq p)),
                                              ((9 : Nat), Value.int IntKind.i64 (DP.due2 p)),
                                              ((10 : Nat),
                                                Value.int IntKind.i64
                                                  (IntKind.wrap IntKind.i64 (Int.ofNat (DP.k p) + (1 : Int))))])
                                          (mkS
                                            [some
                                                (AObj.row false (1 : Nat) (0 : Nat) n fun i =>
                                                  [Value.int IntKind.u8 (g i)]),
                                              some
                                                (AObj.cells
                                                  [Value.int IntKind.i64 (1 : Int), Value.int IntKind.i64 (0 : Int),
                                                    Value.int IntKind.i64 every, Value.int IntKind.i64 (DP.due p),
                                                    Value.int IntKind.i64 (0 : Int), Value.int IntKind.i64 (0 : Int),
                                                    Value.float FloatKind.f64 (0 : Nat), Value.int IntKind.i64 (99 : Int),
                                                    Value.bool true, Value.bool false, Value.int IntKind.i64 (3 : Int),
                                                    Value.int IntKind.i64 (DP.li p), Value.float FloatKind.f64 (0 : Nat),
                                                    Value.int IntKind.i64 (DP.seq p),
                                                    Value.slice
                                                      (some
                                                        { block := (2 : Nat), off := (0 : Nat), spot := some (0 : Nat) })
                                                      (DP.m p) (1 : Nat)]
                                                  true (0 : Nat)),
                                              some
                                                (AObj.row true (5 : Nat) (0 : Nat) (DP.m p) fun i =>
                                                  [Value.int IntKind.i64 (DP.qs p i), Value.int IntKind.i64 (DP.qk p i),
                                                    Value.int IntKind.i64 (DP.qi p i),
                                                    Value.float FloatKind.f64 (DP.qf p i), Value.bool (DP.ql p i)])])))))
                            (br (IntKind.wrap IntKind.i64 (DP.seq p + (1 : Int)) != DP.seq p)
                              (N AX.ret (mkF (70 : Nat) [])
                                (mkS [some (AObj.row false (1 : Nat) (0 : Nat) n fun i => [Value.int IntKind.u8 (g i)])]))
                              (br
                                (IntKind.wrap IntKind.i64
                                    (DP.due p +
                                      IntKind.wrap IntKind.i64
                                        (IntKind.wrap IntKind.i64
                                            (IntKind.wrap IntKind.u64
                                              (IntKind.wrap IntKind.u64
                                                  (Int.tdiv
                                                    (IntKind.wrap IntKind.u64
                                                      (IntKind.wrap IntKind.u64
                                                          (IntKind.wrap IntKind.i64
                                                            (DP.now p +
                                                              IntKind.wrap IntKind.i64
                                                                (Int.tmod (g ((0 : Nat) + Int.toNat (Int.ofNat (DP.k p))))
                                                                  (50 : Int)))) -
                                                        IntKind.wrap IntKind.u64 (DP.due p)))
                                                    (IntKind.wrap IntKind.u64 every)) +
                                                (1 : Int))) *
                                          every)) !=
                                  DP.due2 p)
                                (N AX.ret (mkF (70 : Nat) [])
                                  (mkS
                                    [some (AObj.row false (1 : Nat) (0 : Nat) n fun i => [Value.int IntKind.u8 (g i)])]))
                                (br (Int.ofNat (DP.m p + (1 : Nat)) != DP.seq p)
                                  (N AX.ret (mkF (70 : Nat) [])
                                    (mkS
                                      [some
                                          (AObj.row false (1 : Nat) (0 : Nat) n fun i => [Value.int IntKind.u8 (g i)])]))
                                  (N AX.normal
                                    (mkF (70 : Nat)
                                      [((1 : Nat),
                                          Value.slice
                                            (some { block := (0 : Nat), off := (0 : Nat), spot := some (0 : Nat) }) n c),
                                        ((5 : Nat), Value.int IntKind.i64 every),
                                        ((6 : Nat), Value.pointer (some { block := (1 : Nat), off := (0 : Nat) })),
                                        ((7 : Nat),
                                          Value.int IntKind.i64
                                            (IntKind.wrap IntKind.i64
                                              (DP.now p +
                                                IntKind.wrap IntKind.i64
                                                  (Int.tmod (g ((0 : Nat) + Int.toNat (Int.ofNat (DP.k p))))
                                                    (50 : Int))))),
                                        ((8 : Nat), Value.int IntKind.i64 (DP.seq p)),
                                        ((9 : Nat), Value.int IntKind.i64 (DP.due2 p)),
                                        ((10 : Nat),
                                          Value.int IntKind.i64
                                            (IntKind.wrap IntKind.i64 (Int.ofNat (DP.k p) + (1 : Int))))])
                                    (mkS
                                      [some (AObj.row false (1 : Nat) (0 : Nat) n fun i => [Value.int IntKind.u8 (g i)]),
                                        some
                                          (AObj.cells
                                            [Value.int IntKind.i64 (1 : Int), Value.int IntKind.i64 (0 : Int),
                                              Value.int IntKind.i64 every,
                                              Value.int IntKind.i64
                                                (IntKind.wrap IntKind.i64
                                                  (DP.due p +
                                                    IntKind.wrap IntKind.i64
                                                      (IntKind.wrap IntKind.i64
                                                          (IntKind.wrap IntKind.u64
                                                            (IntKind.wrap IntKind.u64
                                                                (Int.tdiv
                                                                  (IntKind.wrap IntKind.u64
                                                                    (IntKind.wrap IntKind.u64
                                                                        (IntKind.wrap IntKind.i64
                                                                          (DP.now p +
                                                                            IntKind.wrap IntKind.i64
                                                                              (Int.tmod
                                                                                (g
                                                                                  ((0 : Nat) +
                                                                                    Int.toNat (Int.ofNat (DP.k p))))
                                                                                (50 : Int)))) -
                                                                      IntKind.wrap IntKind.u64 (DP.due p)))
                                                                  (IntKind.wrap IntKind.u64 every)) +
                                                              (1 : Int))) *
                                                        every))),
                                              Value.int IntKind.i64 (0 : Int), Value.int IntKind.i64 (0 : Int),
                                              Value.float FloatKind.f64 (0 : Nat), Value.int IntKind.i64 (99 : Int),
                                              Value.bool true, Value.bool false, Value.int IntKind.i64 (3 : Int),
                                              Value.int IntKind.i64 (Int.ofNat (DP.k p)),
                                              Value.float FloatKind.f64 (0 : Nat),
                                              Value.int IntKind.i64 (IntKind.wrap IntKind.i64 (DP.seq p + (1 : Int))),
                                              Value.slice
                                                (some { block := (2 : Nat), off := (0 : Nat), spot := some (0 : Nat) })
                                                (DP.m p + (1 : Nat)) (1 : Nat)]
                                            true (0 : Nat)),
                                        some
                                          (AObj.row true (5 : Nat) (0 : Nat) (DP.m p + (1 : Nat)) fun i =>
                                            [Value.int IntKind.i64
                                                (bif Nat.blt i (DP.m p) then DP.qs p ((0 : Nat) + ((0 : Nat) + i))
                                                else IntKind.wrap IntKind.i64 (DP.seq p + (1 : Int))),
                                              Value.int IntKind.i64
                                                (bif Nat.blt i (DP.m p) then DP.qk p ((0 : Nat) + ((0 : Nat) + i))
                                                else (3 : Int)),
                                              Value.int IntKind.i64
                                                (bif Nat.blt i (DP.m p) then DP.qi p ((0 : Nat) + ((0 : Nat) + i))
                                                else Int.ofNat (DP.k p)),
                                              Value.float FloatKind.f64
                                                (bif Nat.blt i (DP.m p) then DP.qf p ((0 : Nat) + ((0 : Nat) + i))
                                                else (0 : Nat)),
                                              Value.bool
                                                (bif Nat.blt i (DP.m p) then DP.ql p ((0 : Nat) + ((0 : Nat) + i))
                                                else false)])]))))))
                          (br (Int.ofNat (DP.m p + (1 : Nat) - (1 : Nat)) == (0 : Int))
                            (br
                              (decide
                                (IntKind.wrap IntKind.i64
                                    (DP.now p +
                                      IntKind.wrap IntKind.i64
                                        (Int.tmod (g ((0 : Nat) + Int.toNat (Int.ofNat (DP.k p)))) (50 : Int))) ≥
                                  DP.due2 p))
                              (LoopJ Try.prog β (exIn n c g every Post) (2 : Nat) (loopOf Try.prog (4 : FuncId) (2 : Nat))
                                  (mkF (70 : Nat)
                                    [((1 : Nat),
                                        Value.slice
                                          (some { block := (0 : Nat), off := (0 : Nat), spot := some (0 : Nat) }) n c),
                                      ((5 : Nat), Value.int IntKind.i64 every),
                                      ((6 : Nat), Value.pointer (some { block := (1 : Nat), off := (0 : Nat) })),
                                      ((7 : Nat),
                                        Value.int IntKind.i64
                                          (IntKind.wrap IntKind.i64
                                            (DP.now p +
                                              IntKind.wrap IntKind.i64
                                                (Int.tmod (g ((0 : Nat) + Int.toNat (Int.ofNat (DP.k p)))) (50 : Int))))),
                                      ((8 : Nat),
                                        Value.int IntKind.i64 (IntKind.wrap IntKind.i64 (DP.seq p + (1 : Int)))),
                                      ((9 : Nat), Value.int IntKind.i64 (DP.due2 p)),
                                      ((10 : Nat), Value.int IntKind.i64 (Int.ofNat (DP.k p)))])
                                  (mkS
                                    [some (AObj.row false (1 : Nat) (0 : Nat) n fun i => [Value.int IntKind.u8 (g i)]),
                                      some
                                        (AObj.cells
                                          [Value.int IntKind.i64 (1 : Int), Value.int IntKind.i64 (0 : Int),
                                            Value.int IntKind.i64 every,
                                            Value.int IntKind.i64
                                              (IntKind.wrap IntKind.i64
                                                (DP.due p +
                                                  IntKind.wrap IntKind.i64
                                                    (IntKind.wrap IntKind.i64
                                                        (IntKind.wrap IntKind.u64
                                                          (IntKind.wrap IntKind.u64
                                                              (Int.tdiv
                                                                (IntKind.wrap IntKind.u64
                                                                  (IntKind.wrap IntKind.u64
                                                                      (IntKind.wrap IntKind.i64
                                                                        (DP.now p +
                                                                          IntKind.wrap IntKind.i64
                                                                            (Int.tmod
                                                                              (g
                                                                                ((0 : Nat) +
                                                                                  Int.toNat (Int.ofNat (DP.k p))))
                                                                              (50 : Int)))) -
                                                                    IntKind.wrap IntKind.u64 (DP.due p)))
                                                                (IntKind.wrap IntKind.u64 every)) +
                                                            (1 : Int))) *
                                                      every))),
                                            Value.int IntKind.i64 (0 : Int), Value.int IntKind.i64 (0 : Int),
                                            Value.float FloatKind.f64 (0 : Nat), Value.int IntKind.i64 (99 : Int),
                                            Value.bool true, Value.bool true, Value.int IntKind.i64 (3 : Int),
                                            Value.int IntKind.i64 (Int.ofNat (DP.k p)),
                                            Value.float FloatKind.f64 (0 : Nat),
                                            Value.int IntKind.i64 (IntKind.wrap IntKind.i64 (DP.seq p + (1 : Int))),
                                            Value.slice
                                              (some { block := (2 : Nat), off := (0 : Nat), spot := some (1 : Nat) })
                                              (DP.m p + (1 : Nat) - (1 : Nat)) (0 : Nat)]
                                          true (0 : Nat)),
                                      some
                                        (AObj.row true (5 : Nat) (0 : Nat) (DP.m p + (1 : Nat)) fun i =>
                                          [Value.int IntKind.i64
                                              (bif Nat.blt i (DP.m p) then DP.qs p ((0 : Nat) + ((0 : Nat) + i))
                                              else IntKind.wrap IntKind.i64 (DP.seq p + (1 : Int))),
                                            Value.int IntKind.i64
                                              (bif Nat.blt i (DP.m p) then DP.qk p ((0 : Nat) + ((0 : Nat) + i))
                                              else (3 : Int)),
                                            Value.int IntKind.i64
                                              (bif Nat.blt i (DP.m p) then DP.qi p ((0 : Nat) + ((0 : Nat) + i))
                                              else Int.ofNat (DP.k p)),
                                            Value.float FloatKind.f64
                                              (bif Nat.blt i (DP.m p) then DP.qf p ((0 : Nat) + ((0 : Nat) + i))
                                              else (0 : Nat)),
                                            Value.bool
                                              (bif Nat.blt i (DP.m p) then DP.ql p ((0 : Nat) + ((0 : Nat) + i))
                                              else false)])]) ∧
                                ∀ (p : DP),
                                  Post p →
                                    br (DP.seq p != DP.seq p)
                                      (N AX.ret (mkF (70 : Nat) [])
                                        (mkS
                                          [some
                                              (AObj.row false (1 : Nat) (0 : Nat) n fun i =>
                                                [Value.int IntKind.u8 (g i)])]))
                                      (br (DP.due p != DP.due2 p)
                                        (N AX.ret (mkF (70 : Nat) [])
                                          (mkS
                                            [some
                                                (AObj.row false (1 : Nat) (0 : Nat) n fun i =>
                                                  [Value.int IntKind.u8 (g i)])]))
                                        (br (Int.ofNat (DP.m p) != DP.seq p)
                                          (N AX.ret (mkF (70 : Nat) [])
                                            (mkS
                                              [some
                                                  (AObj.row false (1 : Nat) (0 : Nat) n fun i =>
                                                    [Value.int IntKind.u8 (g i)])]))
                                          (N AX.normal
                                            (mkF (70 : Nat)
                                              [((1 : Nat),
                                                  Value.slice
                                                    (some
                                                      { block := (0 : Nat), off := (0 : Nat), spot := some (0 : Nat) })
                                                    n c),
                                                ((5 : Nat), Value.int IntKind.i64 every),
                                                ((6 : Nat),
                                                  Value.pointer (some { block := (1 : Nat), off := (0 : Nat) })),
                                                ((7 : Nat), Value.int IntKind.i64 (DP.now p)),
                                                ((8 : Nat), Value.int IntKind.i64 (DP.seq p)),
                                                ((9 : Nat), Value.int IntKind.i64 (DP.due2 p)),
                                                ((10 : Nat),
                                                  Value.int IntKind.i64
                                                    (IntKind.wrap IntKind.i64 (Int.ofNat (DP.k p) + (1 : Int))))])
                                            (mkS
                                              [some
                                                  (AObj.row false (1 : Nat) (0 : Nat) n fun i =>
                                                    [Value.int IntKind.u8 (g i)]),
                                                some
                                                  (AObj.cells
                                                    [Value.int IntKind.i64 (1 : Int), Value.int IntKind.i64 (0 : Int),
                                                      Value.int IntKind.i64 every, Value.int IntKind.i64 (DP.due p),
                                                      Value.int IntKind.i64 (0 : Int), Value.int IntKind.i64 (0 : Int),
                                                      Value.float FloatKind.f64 (0 : Nat),
                                                      Value.int IntKind.i64 (99 : Int), Value.bool true, Value.bool false,
                                                      Value.int IntKind.i64 (3 : Int), Value.int IntKind.i64 (DP.li p),
                                                      Value.float FloatKind.f64 (0 : Nat),
                                                      Value.int IntKind.i64 (DP.seq p),
                                                      Value.slice
                                                        (some
                                                          { block := (2 : Nat), off := (0 : Nat),
                                                            spot := some (0 : Nat) })
                                                        (DP.m p) (1 : Nat)]
                                                    true (0 : Nat)),
                                                some
                                                  (AObj.row true (5 : Nat) (0 : Nat) (DP.m p) fun i =>
                                                    [Value.int IntKind.i64 (DP.qs p i), Value.int IntKind.i64 (DP.qk p i),
                                                      Value.int IntKind.i64 (DP.qi p i),
                                                      Value.float FloatKind.f64 (DP.qf p i),
                                                      Value.bool (DP.ql p i)])])))))
                              (br (IntKind.wrap IntKind.i64 (DP.seq p + (1 : Int)) != DP.seq p)
                                (N AX.ret (mkF (70 : Nat) [])
                                  (mkS
                                    [some (AObj.row false (1 : Nat) (0 : Nat) n fun i => [Value.int IntKind.u8 (g i)])]))
                                (br
                                  (IntKind.wrap IntKind.i64
                                      (DP.due p +
                                        IntKind.wrap IntKind.i64
                                          (IntKind.wrap IntKind.i64
                                              (IntKind.wrap IntKind.u64
                                                (IntKind.wrap IntKind.u64
                                                    (Int.tdiv
                                                      (IntKind.wrap IntKind.u64
                                                        (IntKind.wrap IntKind.u64
                                                            (IntKind.wrap IntKind.i64
                                                              (DP.now p +
                                                                IntKind.wrap IntKind.i64
                                                                  (Int.tmod
                                                                    (g ((0 : Nat) + Int.toNat (Int.ofNat (DP.k p))))
                                                                    (50 : Int)))) -
                                                          IntKind.wrap IntKind.u64 (DP.due p)))
                                                      (IntKind.wrap IntKind.u64 every)) +
                                                  (1 : Int))) *
                                            every)) !=
                                    DP.due2 p)
                                  (N AX.ret (mkF (70 : Nat) [])
                                    (mkS
                                      [some
                                          (AObj.row false (1 : Nat) (0 : Nat) n fun i => [Value.int IntKind.u8 (g i)])]))
                                  (br (Int.ofNat (DP.m p + (1 : Nat) - (1 : Nat)) != DP.seq p)
                                    (N AX.ret (mkF (70 : Nat) [])
                                      (mkS
                                        [some
                                            (AObj.row false (1 : Nat) (0 : Nat) n fun i =>
                                              [Value.int IntKind.u8 (g i)])]))
                                    (N AX.normal
                                      (mkF (70 : Nat)
                                        [((1 : Nat),
                                            Value.slice
                                              (some { block := (0 : Nat), off := (0 : Nat), spot := some (0 : Nat) }) n
                                              c),
                                          ((5 : Nat), Value.int IntKind.i64 every),
                                          ((6 : Nat), Value.pointer (some { block := (1 : Nat), off := (0 : Nat) })),
                                          ((7 : Nat),
                                            Value.int IntKind.i64
                                              (IntKind.wrap IntKind.i64
                                                (DP.now p +
                                                  IntKind.wrap IntKind.i64
                                                    (Int.tmod (g ((0 : Nat) + Int.toNat (Int.ofNat (DP.k p))))
                                                      (50 : Int))))),
                                          ((8 : Nat), Value.int IntKind.i64 (DP.seq p)),
                                          ((9 : Nat), Value.int IntKind.i64 (DP.due2 p)),
                                          ((10 : Nat),
                                            Value.int IntKind.i64
                                              (IntKind.wrap IntKind.i64 (Int.ofNat (DP.k p) + (1 : Int))))])
                                      (mkS
                                        [some
                                            (AObj.row false (1 : Nat) (0 : Nat) n fun i => [Value.int IntKind.u8 (g i)]),
                                          some
                                            (AObj.cells
                                              [Value.int IntKind.i64 (1 : Int), Value.int IntKind.i64 (0 : Int),
                                                Value.int IntKind.i64 every,
                                                Value.int IntKind.i64
                                                  (IntKind.wrap IntKind.i64
                                                    (DP.due p +
                                                      IntKind.wrap IntKind.i64
                                                        (IntKind.wrap IntKind.i64
                                                            (IntKind.wrap IntKind.u64
                                                              (IntKind.wrap IntKind.u64
                                                                  (Int.tdiv
                                                                    (IntKind.wrap IntKind.u64
                                                                      (IntKind.wrap IntKind.u64
                                                                          (IntKind.wrap IntKind.i64
                                                                            (DP.now p +
                                                                              IntKind.wrap IntKind.i64
                                                                                (Int.tmod
                                                                                  (g
                                                                                    ((0 : Nat) +
                                                                                      Int.toNat (Int.ofNat (DP.k p))))
                                                                                  (50 : Int)))) -
                                                                        IntKind.wrap IntKind.u64 (DP.due p)))
                                                                    (IntKind.wrap IntKind.u64 every)) +
                                                                (1 : Int))) *
                                                          every))),
                                                Value.int IntKind.i64 (0 : Int), Value.int IntKind.i64 (0 : Int),
                                                Value.float FloatKind.f64 (0 : Nat), Value.int IntKind.i64 (99 : Int),
                                                Value.bool true, Value.bool true, Value.int IntKind.i64 (3 : Int),
                                                Value.int IntKind.i64 (Int.ofNat (DP.k p)),
                                                Value.float FloatKind.f64 (0 : Nat),
                                                Value.int IntKind.i64 (IntKind.wrap IntKind.i64 (DP.seq p + (1 : Int))),
                                                Value.slice
                                                  (some { block := (2 : Nat), off := (0 : Nat), spot := some (1 : Nat) })
                                                  (DP.m p + (1 : Nat) - (1 : Nat)) (0 : Nat)]
                                              true (0 : Nat)),
                                          some
                                            (AObj.row true (5 : Nat) (0 : Nat) (DP.m p + (1 : Nat)) fun i =>
                                              [Value.int IntKind.i64
                                                  (bif Nat.blt i (DP.m p) then DP.qs p ((0 : Nat) + ((0 : Nat) + i))
                                                  else IntKind.wrap IntKind.i64 (DP.seq p + (1 : Int))),
                                                Value.int IntKind.i64
                                                  (bif Nat.blt i (DP.m p) then DP.qk p ((0 : Nat) + ((0 : Nat) + i))
                                                  else (3 : Int)),
                                                Value.int IntKind.i64
                                                  (bif Nat.blt i (DP.m p) then DP.qi p ((0 : Nat) + ((0 : Nat) + i))
                                                  else Int.ofNat (DP.k p)),
                                                Value.float FloatKind.f64
                                                  (bif Nat.blt i (DP.m p) then DP.qf p ((0 : Nat) + ((0 : Nat) + i))
                                                  else (0 : Nat)),
                                                Value.bool
                                                  (bif Nat.blt i (DP.m p) then DP.ql p ((0 : Nat) + ((0 : Nat) + i))
                                                  else false)])]))))))
                            (need (Nat.blt (0 : Nat) (DP.m p + (1 : Nat) - (1 : Nat)))
                              (need (Nat.blt (1 : Nat) (DP.m p + (1 : Nat)))
                                (br
                                  (decide
                                    (IntKind.wrap IntKind.i64
                                        (DP.now p +
                                          IntKind.wrap IntKind.i64
                                            (Int.tmod (g ((0 : Nat) + Int.toNat (Int.ofNat (DP.k p)))) (50 : Int))) ≥
                                      DP.due2 p))
                                  (LoopJ Try.prog β (exIn n c g every Post) (2 : Nat)
                                      (loopOf Try.prog (4 : FuncId) (2 : Nat))
                                      (mkF (70 : Nat)
                                        [((1 : Nat),
                                            Value.slice
                                              (some { block := (0 : Nat), off := (0 : Nat), spot := some (0 : Nat) }) n
                                              c),
                                          ((5 : Nat), Value.int IntKind.i64 every),
                                          ((6 : Nat), Value.pointer (some { block := (1 : Nat), off := (0 : Nat) })),
                                          ((7 : Nat),
                                            Value.int IntKind.i64
                                              (IntKind.wrap IntKind.i64
                                                (DP.now p +
                                                  IntKind.wrap IntKind.i64
                                                    (Int.tmod (g ((0 : Nat) + Int.toNat (Int.ofNat (DP.k p))))
                                                      (50 : Int))))),
                                          ((8 : Nat),
                                            Value.int IntKind.i64 (IntKind.wrap IntKind.i64 (DP.seq p + (1 : Int)))),
                                          ((9 : Nat), Value.int IntKind.i64 (DP.due2 p)),
                                          ((10 : Nat), Value.int IntKind.i64 (Int.ofNat (DP.k p)))])
                                      (mkS
                                        [some
                                            (AObj.row false (1 : Nat) (0 : Nat) n fun i => [Value.int IntKind.u8 (g i)]),
                                          some
                                            (AObj.cells
                                              [Value.int IntKind.i64 (1 : Int), Value.int IntKind.i64 (0 : Int),
                                                Value.int IntKind.i64 every,
                                                Value.int IntKind.i64
                                                  (IntKind.wrap IntKind.i64
                                                    (DP.due p +
                                                      IntKind.wrap IntKind.i64
                                                        (IntKind.wrap IntKind.i64
                                                            (IntKind.wrap IntKind.u64
                                                              (IntKind.wrap IntKind.u64
                                                                  (Int.tdiv
                                                                    (IntKind.wrap IntKind.u64
                                                                      (IntKind.wrap IntKind.u64
                                                                          (IntKind.wrap IntKind.i64
                                                                            (DP.now p +
                                                                              IntKind.wrap IntKind.i64
                                                                                (Int.tmod
                                                                                  (g
                                                                                    ((0 : Nat) +
                                                                                      Int.toNat (Int.ofNat (DP.k p))))
                                                                                  (50 : Int)))) -
                                                                        IntKind.wrap IntKind.u64 (DP.due p)))
                                                                    (IntKind.wrap IntKind.u64 every)) +
                                                                (1 : Int))) *
                                                          every))),
                                                Value.int IntKind.i64 (0 : Int), Value.int IntKind.i64 (0 : Int),
                                                Value.float FloatKind.f64 (0 : Nat), Value.int IntKind.i64 (99 : Int),
                                                Value.bool true, Value.bool false, Value.int IntKind.i64 (3 : Int),
                                                Value.int IntKind.i64 (Int.ofNat (DP.k p)),
                                                Value.float FloatKind.f64 (0 : Nat),
                                                Value.int IntKind.i64 (IntKind.wrap IntKind.i64 (DP.seq p + (1 : Int))),
                                                Value.slice
                                                  (some { block := (2 : Nat), off := (0 : Nat), spot := some (1 : Nat) })
                                                  (DP.m p + (1 : Nat) - (1 : Nat)) (0 : Nat)]
                                              true (0 : Nat)),
                                          some
                                            (AObj.row true (5 : Nat) (0 : Nat) (DP.m p + (1 : Nat)) fun i =>
                                              [Value.int IntKind.i64
                                                  (bif Nat.beq i (1 : Nat) then
                                                    bif Nat.blt (1 : Nat) (DP.m p) then DP.qs p (1 : Nat)
                                                    else IntKind.wrap IntKind.i64 (DP.seq p + (1 : Int))
                                                  else
                                                    bif Nat.blt i (DP.m p) then DP.qs p ((0 : Nat) + ((0 : Nat) + i))
                                                    else IntKind.wrap IntKind.i64 (DP.seq p + (1 : Int))),
                                                Value.int IntKind.i64
                                                  (bif Nat.beq i (1 : Nat) then
                                                    bif Nat.blt (1 : Nat) (DP.m p) then DP.qk p (1 : Nat) else (3 : Int)
                                                  else
                                                    bif Nat.blt i (DP.m p) then DP.qk p ((0 : Nat) + ((0 : Nat) + i))
                                                    else (3 : Int)),
                                                Value.int IntKind.i64
                                                  (bif Nat.beq i (1 : Nat) then
                                                    bif Nat.blt (1 : Nat) (DP.m p) then DP.qi p (1 : Nat)
                                                    else Int.ofNat (DP.k p)
                                                  else
                                                    bif Nat.blt i (DP.m p) then DP.qi p ((0 : Nat) + ((0 : Nat) + i))
                                                    else Int.ofNat (DP.k p)),
                                                Value.float FloatKind.f64
                                                  (bif Nat.beq i (1 : Nat) then
                                                    bif Nat.blt (1 : Nat) (DP.m p) then DP.qf p (1 : Nat) else (0 : Nat)
                                                  else
                                                    bif Nat.blt i (DP.m p) then DP.qf p ((0 : Nat) + ((0 : Nat) + i))
                                                    else (0 : Nat)),
                                                Value.bool
                                                  (bif Nat.beq i (1 : Nat) then true
                                                  else
                                                    bif Nat.blt i (DP.m p) then DP.ql p ((0 : Nat) + ((0 : Nat) + i))
                                                    else false)])]) ∧
                                    ∀ (p : DP),
                                      Post p →
                                        br (DP.seq p != DP.seq p)
                                          (N AX.ret (mkF (70 : Nat) [])
                                            (mkS
                                              [some
                                                  (AObj.row false (1 : Nat) (0 : Nat) n fun i =>
                                                    [Value.int IntKind.u8 (g i)])]))
                                          (br (DP.due p != DP.due2 p)
                                            (N AX.ret (mkF (70 : Nat) [])
                                              (mkS
                                                [some
                                                    (AObj.row false (1 : Nat) (0 : Nat) n fun i =>
                                                      [Value.int IntKind.u8 (g i)])]))
                                            (br (Int.ofNat (DP.m p) != DP.seq p)
                                              (N AX.ret (mkF (70 : Nat) [])
                                                (mkS
                                                  [some
                                                      (AObj.row false (1 : Nat) (0 : Nat) n fun i =>
                                                        [Value.int IntKind.u8 (g i)])]))
                                              (N AX.normal
                                                (mkF (70 : Nat)
                                                  [((1 : Nat),
                                                      Value.slice
                                                        (some
                                                          { block := (0 : Nat), off := (0 : Nat),
                                                            spot := some (0 : Nat) })
                                                        n c),
                                                    ((5 : Nat), Value.int IntKind.i64 every),
                                                    ((6 : Nat),
                                                      Value.pointer (some { block := (1 : Nat), off := (0 : Nat) })),
                                                    ((7 : Nat), Value.int IntKind.i64 (DP.now p)),
                                                    ((8 : Nat), Value.int IntKind.i64 (DP.seq p)),
                                                    ((9 : Nat), Value.int IntKind.i64 (DP.due2 p)),
                                                    ((10 : Nat),
                                                      Value.int IntKind.i64
                                                        (IntKind.wrap IntKind.i64 (Int.ofNat (DP.k p) + (1 : Int))))])
                                                (mkS
                                                  [some
                                                      (AObj.row false (1 : Nat) (0 : Nat) n fun i =>
                                                        [Value.int IntKind.u8 (g i)]),
                                                    some
                                                      (AObj.cells
                                                        [Value.int IntKind.i64 (1 : Int), Value.int IntKind.i64 (0 : Int),
                                                          Value.int IntKind.i64 every, Value.int IntKind.i64 (DP.due p),
                                                          Value.int IntKind.i64 (0 : Int),
                                                          Value.int IntKind.i64 (0 : Int),
                                                          Value.float FloatKind.f64 (0 : Nat),
                                                          Value.int IntKind.i64 (99 : Int), Value.bool true,
                                                          Value.bool false, Value.int IntKind.i64 (3 : Int),
                                                          Value.int IntKind.i64 (DP.li p),
                                                          Value.float FloatKind.f64 (0 : Nat),
                                                          Value.int IntKind.i64 (DP.seq p),
                                                          Value.slice
                                                            (some
                                                              { block := (2 : Nat), off := (0 : Nat),
                                                                spot := some (0 : Nat) })
                                                            (DP.m p) (1 : Nat)]
                                                        true (0 : Nat)),
                                                    some
                                                      (AObj.row true (5 : Nat) (0 : Nat) (DP.m p) fun i =>
                                                        [Value.int IntKind.i64 (DP.qs p i),
                                                          Value.int IntKind.i64 (DP.qk p i),
                                                          Value.int IntKind.i64 (DP.qi p i),
                                                          Value.float FloatKind.f64 (DP.qf p i),
                                                          Value.bool (DP.ql p i)])])))))
                                  (br (IntKind.wrap IntKind.i64 (DP.seq p + (1 : Int)) != DP.seq p)
                                    (N AX.ret (mkF (70 : Nat) [])
                                      (mkS
                                        [some
                                            (AObj.row false (1 : Nat) (0 : Nat) n fun i =>
                                              [Value.int IntKind.u8 (g i)])]))
                                    (br
                                      (IntKind.wrap IntKind.i64
                                          (DP.due p +
                                            IntKind.wrap IntKind.i64
                                              (IntKind.wrap IntKind.i64
                                                  (IntKind.wrap IntKind.u64
                                                    (IntKind.wrap IntKind.u64
                                                        (Int.tdiv
                                                          (IntKind.wrap IntKind.u64
                                                            (IntKind.wrap IntKind.u64
                                                                (IntKind.wrap IntKind.i64
                                                                  (DP.now p +
                                                                    IntKind.wrap IntKind.i64
                                                                      (Int.tmod
                                                                        (g ((0 : Nat) + Int.toNat (Int.ofNat (DP.k p))))
                                                                        (50 : Int)))) -
                                                              IntKind.wrap IntKind.u64 (DP.due p)))
                                                          (IntKind.wrap IntKind.u64 every)) +
                                                      (1 : Int))) *
                                                every)) !=
                                        DP.due2 p)
                                      (N AX.ret (mkF (70 : Nat) [])
                                        (mkS
                                          [some
                                              (AObj.row false (1 : Nat) (0 : Nat) n fun i =>
                                                [Value.int IntKind.u8 (g i)])]))
                                      (br (Int.ofNat (DP.m p + (1 : Nat) - (1 : Nat)) != DP.seq p)
                                        (N AX.ret (mkF (70 : Nat) [])
                                          (mkS
                                            [some
                                                (AObj.row false (1 : Nat) (0 : Nat) n fun i =>
                                                  [Value.int IntKind.u8 (g i)])]))
                                        (N AX.normal
                                          (mkF (70 : Nat)
                                            [((1 : Nat),
                                                Value.slice
                                                  (some { block := (0 : Nat), off := (0 : Nat), spot := some (0 : Nat) })
                                                  n c),
                                              ((5 : Nat), Value.int IntKind.i64 every),
                                              ((6 : Nat), Value.pointer (some { block := (1 : Nat), off := (0 : Nat) })),
                                              ((7 : Nat),
                                                Value.int IntKind.i64
                                                  (IntKind.wrap IntKind.i64
                                                    (DP.now p +
                                                      IntKind.wrap IntKind.i64
                                                        (Int.tmod (g ((0 : Nat) + Int.toNat (Int.ofNat (DP.k p))))
                                                          (50 : Int))))),
                                              ((8 : Nat), Value.int IntKind.i64 (DP.seq p)),
                                              ((9 : Nat), Value.int IntKind.i64 (DP.due2 p)),
                                              ((10 : Nat),
                                                Value.int IntKind.i64
                                                  (IntKind.wrap IntKind.i64 (Int.ofNat (DP.k p) + (1 : Int))))])
                                          (mkS
                                            [some
                                                (AObj.row false (1 : Nat) (0 : Nat) n fun i =>
                                                  [Value.int IntKind.u8 (g i)]),
                                              some
                                                (AObj.cells
                                                  [Value.int IntKind.i64 (1 : Int), Value.int IntKind.i64 (0 : Int),
                                                    Value.int IntKind.i64 every,
                                                    Value.int IntKind.i64
                                                      (IntKind.wrap IntKind.i64
                                                        (DP.due p +
                                                          IntKind.wrap IntKind.i64
                                                            (IntKind.wrap IntKind.i64
                                                                (IntKind.wrap IntKind.u64
                                                                  (IntKind.wrap IntKind.u64
                                                                      (Int.tdiv
                                                                        (IntKind.wrap IntKind.u64
                                                                          (IntKind.wrap IntKind.u64
                                                                              (IntKind.wrap IntKind.i64
                                                                                (DP.now p +
                                                                                  IntKind.wrap IntKind.i64
                                                                                    (Int.tmod
                                                                                      (g
                                                                                        ((0 : Nat) +
                                                                                          Int.toNat (Int.ofNat (DP.k p))))
                                                                                      (50 : Int)))) -
                                                                            IntKind.wrap IntKind.u64 (DP.due p)))
                                                                        (IntKind.wrap IntKind.u64 every)) +
                                                                    (1 : Int))) *
                                                              every))),
                                                    Value.int IntKind.i64 (0 : Int), Value.int IntKind.i64 (0 : Int),
                                                    Value.float FloatKind.f64 (0 : Nat), Value.int IntKind.i64 (99 : Int),
                                                    Value.bool true, Value.bool false, Value.int IntKind.i64 (3 : Int),
                                                    Value.int IntKind.i64 (Int.ofNat (DP.k p)),
                                                    Value.float FloatKind.f64 (0 : Nat),
                                                    Value.int IntKind.i64
                                                      (IntKind.wrap IntKind.i64 (DP.seq p + (1 : Int))),
                                                    Value.slice
                                                      (some
                                                        { block := (2 : Nat), off := (0 : Nat), spot := some (1 : Nat) })
                                                      (DP.m p + (1 : Nat) - (1 : Nat)) (0 : Nat)]
                                                  true (0 : Nat)),
                                              some
                                                (AObj.row true (5 : Nat) (0 : Nat) (DP.m p + (1 : Nat)) fun i =>
                                                  [Value.int IntKind.i64
                                                      (bif Nat.beq i (1 : Nat) then
                                                        bif Nat.blt (1 : Nat) (DP.m p) then DP.qs p (1 : Nat)
                                                        else IntKind.wrap IntKind.i64 (DP.seq p + (1 : Int))
                                                      else
                                                        bif Nat.blt i (DP.m p) then DP.qs p ((0 : Nat) + ((0 : Nat) + i))
                                                        else IntKind.wrap IntKind.i64 (DP.seq p + (1 : Int))),
                                                    Value.int IntKind.i64
                                                      (bif Nat.beq i (1 : Nat) then
                                                        bif Nat.blt (1 : Nat) (DP.m p) then DP.qk p (1 : Nat)
                                                        else (3 : Int)
                                                      else
                                                        bif Nat.blt i (DP.m p) then DP.qk p ((0 : Nat) + ((0 : Nat) + i))
                                                        else (3 : Int)),
                                                    Value.int IntKind.i64
                                                      (bif Nat.beq i (1 : Nat) then
                                                        bif Nat.blt (1 : Nat) (DP.m p) then DP.qi p (1 : Nat)
                                                        else Int.ofNat (DP.k p)
                                                      else
                                                        bif Nat.blt i (DP.m p) then DP.qi p ((0 : Nat) + ((0 : Nat) + i))
                                                        else Int.ofNat (DP.k p)),
                                                    Value.float FloatKind.f64
                                                      (bif Nat.beq i (1 : Nat) then
                                                        bif Nat.blt (1 : Nat) (DP.m p) then DP.qf p (1 : Nat)
                                                        else (0 : Nat)
                                                      else
                                                        bif Nat.blt i (DP.m p) then DP.qf p ((0 : Nat) + ((0 : Nat) + i))
                                                        else (0 : Nat)),
                                                    Value.bool
                                                      (bif Nat.beq i (1 : Nat) then true
                                                      else
                                                        bif Nat.blt i (DP.m p) then DP.ql p ((0 : Nat) + ((0 : Nat) + i))
                                                        else false)])]))))))))))))))))))))
    (N (AX.exit (0 : Nat)) (mkF (70 : Nat) [])
      (mkS [some (AObj.row false (1 : Nat) (0 : Nat) n fun i => [Value.int IntKind.u8 (g i)])]))) := by kernel_rfl
theorem vc_due_r1 (n c : Nat) (g : Nat → Int) (every : Int) (p : DP) (Post : DP → Prop) (β : Bs) (N : Kt) : roundJ Try.prog toldB 100 20 β (fun _ => 0) (cnOf 1 fun _ => [1, 5, 6, 7, 8, 9, 10]) (exIn n c g every Post) 4 0 1 (lvOf [1, 5, 6, 7, 8, 9, 10])
    (FD n c every p.seq p) (SD n g every true 3 p) N =
(  br (decide (Int.ofNat (DP.k p) < Int.ofNat n))
    (need (Nat.blt (Int.toNat (Int.ofNat (DP.k p))) n)
      (need
        (Nat.ble (0 : Nat) ((0 : Nat) + Int.toNat (Int.ofNat (DP.k p))) &&
          Nat.blt ((0 : Nat) + Int.toNat (Int.ofNat (DP.k p))) n)
        (need (true && Nat.ble ((0 : Nat) + DP.m p) (DP.m p))
          (need (Nat.ble (DP.m p) (1000000 : Nat))
            (need
              (allS (DP.m p) fun j =>
                (fun i =>
                    [Value.int IntKind.i64 (DP.qs p i), Value.int IntKind.i64 (DP.qk p i),
                      Value.int IntKind.i64 (DP.qi p i), Value.float FloatKind.f64 (DP.qf p i), Value.bool (DP.ql p i)])
                  ((0 : Nat) + j))
              (br
                (decide
                  (IntKind.wrap IntKind.i64
                      (DP.now p +
                        IntKind.wrap IntKind.i64 (Int.tmod (g ((0 : Nat) + Int.toNat (Int.ofNat (DP.k p)))) (50 : Int))) <
                    DP.due p))
                (br
                  (decide
                    (IntKind.wrap IntKind.i64
                        (DP.now p +
                          IntKind.wrap IntKind.i64
                            (Int.tmod (g ((0 : Nat) + Int.toNat (Int.ofNat (DP.k p)))) (50 : Int))) ≥
                      DP.due2 p))
                  (LoopJ Try.prog β (exIn n c g every Post) (2 : Nat) (loopOf Try.prog (4 : FuncId) (2 : Nat))
                      (mkF (70 : Nat)
                        [((1 : Nat),
                            Value.slice (some { block := (0 : Nat), off := (0 : Nat), spot := some (0 : Nat) }) n c),
                          ((5 : Nat), Value.int IntKind.i64 every),
                          ((6 : Nat), Value.pointer (some { block := (1 : Nat), off := (0 : Nat) })),
                          ((7 : Nat),
                            Value.int IntKind.i64
                              (IntKind.wrap IntKind.i64
                                (DP.now p +
                                  IntKind.wrap IntKind.i64
                                    (Int.tmod (g ((0 : Nat) + Int.toNat (Int.ofNat (DP.k p)))) (50 : Int))))),
                          ((8 : Nat), Value.int IntKind.i64 (IntKind.wrap IntKind.i64 (DP.seq p + (1 : Int)))),
                          ((9 : Nat), Value.int IntKind.i64 (DP.due2 p)),
                          ((10 : Nat), Value.int IntKind.i64 (Int.ofNat (DP.k p)))])
                      (mkS
                        [some (AObj.row false (1 : Nat) (0 : Nat) n fun i => [Value.int IntKind.u8 (g i)]),
                          some
                            (AObj.cells
                              [Value.int IntKind.i64 (1 : Int), Value.int IntKind.i64 (0 : Int),
                                Value.int IntKind.i64 every, Value.int IntKind.i64 (DP.due p),
                                Value.int IntKind.i64 (0 : Int), Value.int IntKind.i64 (0 : Int),
                                Value.float FloatKind.f64 (0 : Nat), Value.int IntKind.i64 (99 : Int), Value.bool true,
                                Value.bool false, Value.int IntKind.i64 (3 : Int), Value.int IntKind.i64 (DP.li p),
                                Value.float FloatKind.f64 (0 : Nat), Value.int IntKind.i64 (DP.seq p),
                                Value.slice (some { block := (2 : Nat), off := (0 : Nat), spot := some (0 : Nat) })
                                  (DP.m p) (1 : Nat)]
                              true (0 : Nat)),
                          some
                            (AObj.row true (5 : Nat) (0 : Nat) (DP.m p) fun i =>
                              [Value.int IntKind.i64 (DP.qs p ((0 : Nat) + i)),
                                Value.int IntKind.i64 (DP.qk p ((0 : Nat) + i)),
                                Value.int IntKind.i64 (DP.qi p ((0 : Nat) + i)),
                                Value.float FloatKind.f64 (DP.qf p ((0 : Nat) + i)),
                                Value.bool (DP.ql p ((0 : Nat) + i))])]) ∧
                    ∀ (p : DP),
                      Post p →
                        br (DP.seq p != DP.seq p)
                          (N AX.ret (mkF (70 : Nat) [])
                            (mkS [some (AObj.row false (1 : Nat) (0 : Nat) n fun i => [Value.int IntKind.u8 (g i)])]))
                          (br (DP.due p != DP.due2 p)
                            (N AX.ret (mkF (70 : Nat) [])
                              (mkS [some (AObj.row false (1 : Nat) (0 : Nat) n fun i => [Value.int IntKind.u8 (g i)])]))
                            (br (Int.ofNat (DP.m p) != DP.seq p)
                              (N AX.ret (mkF (70 : Nat) [])
                                (mkS [some (AObj.row false (1 : Nat) (0 : Nat) n fun i => [Value.int IntKind.u8 (g i)])]))
                              (N AX.normal
                                (mkF (70 : Nat)
                                  [((1 : Nat),
                                      Value.slice (some { block := (0 : Nat), off := (0 : Nat), spot := some (0 : Nat) })
                                        n c),
                                    ((5 : Nat), Value.int IntKind.i64 every),
                                    ((6 : Nat), Value.pointer (some { block := (1 : Nat), off := (0 : Nat) })),
                                    ((7 : Nat), Value.int IntKind.i64 (DP.now p)),
                                    ((8 : Nat), Value.int IntKind.i64 (DP.seq p)),
                                    ((9 : Nat), Value.int IntKind.i64 (DP.due2 p)),
                                    ((10 : Nat),
                                      Value.int IntKind.i64 (IntKind.wrap IntKind.i64 (Int.ofNat (DP.k p) + (1 : Int))))])
                                (mkS
                                  [some (AObj.row false (1 : Nat) (0 : Nat) n fun i => [Value.int IntKind.u8 (g i)]),
                                    some
                                      (AObj.cells
                                        [Value.int IntKind.i64 (1 : Int), Value.int IntKind.i64 (0 : Int),
                                          Value.int IntKind.i64 every, Value.int IntKind.i64 (DP.due p),
                                          Value.int IntKind.i64 (0 : Int), Value.int IntKind.i64 (0 : Int),
                                          Value.float FloatKind.f64 (0 : Nat), Value.int IntKind.i64 (99 : Int),
                                          Value.bool true, Value.bool false, Value.int IntKind.i64 (3 : Int),
                                          Value.int IntKind.i64 (DP.li p), Value.float FloatKind.f64 (0 : Nat),
                                          Value.int IntKind.i64 (DP.seq p),
                                          Value.slice
                                            (some { block := (2 : Nat), off := (0 : Nat), spot := some (0 : Nat) })
                                            (DP.m p) (1 : Nat)]
                                        true (0 : Nat)),
                                    some
                                      (AObj.row true (5 : Nat) (0 : Nat) (DP.m p) fun i =>
                                        [Value.int IntKind.i64 (DP.qs p i), Value.int IntKind.i64 (DP.qk p i),
                                          Value.int IntKind.i64 (DP.qi p i), Value.float FloatKind.f64 (DP.qf p i),
                                          Value.bool (DP.ql p i)])])))))
                  (br (DP.seq p != DP.seq p)
                    (N AX.ret (mkF (70 : Nat) [])
                      (mkS [some (AObj.row false (1 : Nat) (0 : Nat) n fun i => [Value.int IntKind.u8 (g i)])]))
                    (br (DP.due p != DP.due2 p)
                      (N AX.ret (mkF (70 : Nat) [])
                        (mkS [some (AObj.row false (1 : Nat) (0 : Nat) n fun i => [Value.int IntKind.u8 (g i)])]))
                      (br (Int.ofNat (DP.m p) != DP.seq p)
                        (N AX.ret (mkF (70 : Nat) [])
                          (mkS [some (AObj.row false (1 : Nat) (0 : Nat) n fun i => [Value.int IntKind.u8 (g i)])]))
                        (N AX.normal
                          (mkF (70 : Nat)
                            [((1 : Nat),
                                Value.slice (some { block := (0 : Nat), off := (0 : Nat), spot := some (0 : Nat) }) n c),
                              ((5 : Nat), Value.int IntKind.i64 every),
                              ((6 : Nat), Value.pointer (some { block := (1 : Nat), off := (0 : Nat) })),
                              ((7 : Nat),
                                Value.int IntKind.i64
                                  (IntKind.wrap IntKind.i64
                                    (DP.now p +
                                      IntKind.wrap IntKind.i64
                                        (Int.tmod (g ((0 : Nat) + Int.toNat (Int.ofNat (DP.k p)))) (50 : Int))))),
                              ((8 : Nat), Value.int IntKind.i64 (DP.seq p)),
                              ((9 : Nat), Value.int IntKind.i64 (DP.due2 p)),
                              ((10 : Nat),
                                Value.int IntKind.i64 (IntKind.wrap IntKind.i64 (Int.ofNat (DP.k p) + (1 : Int))))])
                          (mkS
                            [some (AObj.row false (1 : Nat) (0 : Nat) n fun i => [Value.int IntKind.u8 (g i)]),
                              some
                                (AObj.cells
                                  [Value.int IntKind.i64 (1 : Int), Value.int IntKind.i64 (0 : Int),
                                    Value.int IntKind.i64 every, Value.int IntKind.i64 (DP.due p),
                                    Value.int IntKind.i64 (0 : Int), Value.int IntKind.i64 (0 : Int),
                                    Value.float FloatKind.f64 (0 : Nat), Value.int IntKind.i64 (99 : Int),
                                    Value.bool true, Value.bool false, Value.int IntKind.i64 (3 : Int),
                                    Value.int IntKind.i64 (DP.li p), Value.float FloatKind.f64 (0 : Nat),
                                    Value.int IntKind.i64 (DP.seq p),
                                    Value.slice (some { block := (2 : Nat), off := (0 : Nat), spot := some (0 : Nat) })
                                      (DP.m p) (1 : Nat)]
                                  true (0 : Nat)),
                              some
                                (AObj.row true (5 : Nat) (0 : Nat) (DP.m p) fun i =>
                                  [Value.int IntKind.i64 (DP.qs p ((0 : Nat) + i)),
                                    Value.int IntKind.i64 (DP.qk p ((0 : Nat) + i)),
                                    Value.int IntKind.i64 (DP.qi p ((0 : Nat) + i)),
                                    Value.float FloatKind.f64 (DP.qf p ((0 : Nat) + i)),
                                    Value.bool (DP.ql p ((0 : Nat) + i))])]))))))
                (br (decide (every ≤ (0 : Int)))
                  (br
                    (!decide
                        (IntKind.wrap IntKind.u64
                            (IntKind.wrap IntKind.u64
                                (if DP.li p > Int.ofNat (DP.k p) then DP.li p else Int.ofNat (DP.k p)) -
                              IntKind.wrap IntKind.u64
                                (if DP.li p < Int.ofNat (DP.k p) then DP.li p else Int.ofNat (DP.k p))) >
                          (0 : Int)))
                    (br
                      (decide
                        (IntKind.wrap IntKind.i64
                            (DP.now p +
                              IntKind.wrap IntKind.i64
                                (Int.tmod (g ((0 : Nat) + Int.toNat (Int.ofNat (DP.k p)))) (50 : Int))) ≥
                          DP.due2 p))
                      (LoopJ Try.prog β (exIn n c g every Post) (2 : Nat) (loopOf Try.prog (4 : FuncId) (2 : Nat))
                          (mkF (70 : Nat)
                            [((1 : Nat),
                                Value.slice (some { block := (0 : Nat), off := (0 : Nat), spot := some (0 : Nat) }) n c),
                              ((5 : Nat), Value.int IntKind.i64 every),
                              ((6 : Nat), Value.pointer (some { block := (1 : Nat), off := (0 : Nat) })),
                              ((7 : Nat),
                                Value.int IntKind.i64
                                  (IntKind.wrap IntKind.i64
                                    (DP.now p +
                                      IntKind.wrap IntKind.i64
                                        (Int.tmod (g ((0 : Nat) + Int.toNat (Int.ofNat (DP.k p)))) (50 : Int))))),
                              ((8 : Nat), Value.int IntKind.i64 (IntKind.wrap IntKind.i64 (DP.seq p + (1 : Int)))),
                              ((9 : Nat), Value.int IntKind.i64 (DP.due2 p)),
                              ((10 : Nat), Value.int IntKind.i64 (Int.ofNat (DP.k p)))])
                          (mkS
                            [some (AObj.row false (1 : Nat) (0 : Nat) n fun i => [Value.int IntKind.u8 (g i)]),
                              some
                                (AObj.cells
                                  [Value.int IntKind.i64 (1 : Int), Value.int IntKind.i64 (0 : Int),
                                    Value.int IntKind.i64 every,
                                    Value.int IntKind.i64
                                      (IntKind.wrap IntKind.i64
                                        (DP.now p +
                                          IntKind.wrap IntKind.i64
                                            (Int.tmod (g ((0 : Nat) + Int.toNat (Int.ofNat (DP.k p)))) (50 : Int)))),
                                    Value.int IntKind.i64 (0 : Int), Value.int IntKind.i64 (0 : Int),
                                    Value.float FloatKind.f64 (0 : Nat), Value.int IntKind.i64 (99 : Int),
                                    Value.bool true, Value.bool false, Value.int IntKind.i64 (3 : Int),
                                    Value.int IntKind.i64 (DP.li p), Value.float FloatKind.f64 (0 : Nat),
                                    Value.int IntKind.i64 (DP.seq p),
                                    Value.slice (some { block := (2 : Nat), off := (0 : Nat), spot := some (0 : Nat) })
                                      (DP.m p) (1 : Nat)]
                                  true (0 : Nat)),
                              some
                                (AObj.row true (5 : Nat) (0 : Nat) (DP.m p) fun i =>
                                  [Value.int IntKind.i64 (DP.qs p ((0 : Nat) + i)),
                                    Value.int IntKind.i64 (DP.qk p ((0 : Nat) + i)),
                                    Value.int IntKind.i64 (DP.qi p ((0 : Nat) + i)),
                                    Value.float FloatKind.f64 (DP.qf p ((0 : Nat) + i)),
                                    Value.bool (DP.ql p ((0 : Nat) + i))])]) ∧
                        ∀ (p : DP),
                          Post p →
                            br (DP.seq p != DP.seq p)
                              (N AX.ret (mkF (70 : Nat) [])
                                (mkS [some (AObj.row false (1 : Nat) (0 : Nat) n fun i => [Value.int IntKind.u8 (g i)])]))
                              (br (DP.due p != DP.due2 p)
                                (N AX.ret (mkF (70 : Nat) [])
                                  (mkS
                                    [some (AObj.row false (1 : Nat) (0 : Nat) n fun i => [Value.int IntKind.u8 (g i)])]))
                                (br (Int.ofNat (DP.m p) != DP.seq p)
                                  (N AX.ret (mkF (70 : Nat) [])
                                    (mkS
                                      [some
                                          (AObj.row false (1 : Nat) (0 : Nat) n fun i => [Value.int IntKind.u8 (g i)])]))
                                  (N AX.normal
                                    (mkF (70 : Nat)
                                      [((1 : Nat),
                                          Value.slice
                                            (some { block := (0 : Nat), off := (0 : Nat), spot := some (0 : Nat) }) n c),
                                        ((5 : Nat), Value.int IntKind.i64 every),
                                        ((6 : Nat), Value.pointer (some { block := (1 : Nat), off := (0 : Nat) })),
                                        ((7 : Nat), Value.int IntKind.i64 (DP.now p)),
                                        ((8 : Nat), Value.int IntKind.i64 (DP.seq p)),
                                        ((9 : Nat), Value.int IntKind.i64 (DP.due2 p)),
                                        ((10 : Nat),
                                          Value.int IntKind.i64
                                            (IntKind.wrap IntKind.i64 (Int.ofNat (DP.k p) + (1 : Int))))])
                                    (mkS
                                      [some (AObj.row false (1 : Nat) (0 : Nat) n fun i => [Value.int IntKind.u8 (g i)]),
                                        some
                                          (AObj.cells
                                            [Value.int IntKind.i64 (1 : Int), Value.int IntKind.i64 (0 : Int),
                                              Value.int IntKind.i64 every, Value.int IntKind.i64 (DP.due p),
                                              Value.int IntKind.i64 (0 : Int), Value.int IntKind.i64 (0 : Int),
                                              Value.float FloatKind.f64 (0 : Nat), Value.int IntKind.i64 (99 : Int),
                                              Value.bool true, Value.bool false, Value.int IntKind.i64 (3 : Int),
                                              Value.int IntKind.i64 (DP.li p), Value.float FloatKind.f64 (0 : Nat),
                                              Value.int IntKind.i64 (DP.seq p),
                                              Value.slice
                                                (some { block := (2 : Nat), off := (0 : Nat), spot := some (0 : Nat) })
                                                (DP.m p) (1 : Nat)]
                                            true (0 : Nat)),
                                        some
                                          (AObj.row true (5 : Nat) (0 : Nat) (DP.m p) fun i =>
                                            [Value.int IntKind.i64 (DP.qs p i), Value.int IntKind.i64 (DP.qk p i),
                                              Value.int IntKind.i64 (DP.qi p i), Value.float FloatKind.f64 (DP.qf p i),
                                              Value.bool (DP.ql p i)])])))))
                      (br (DP.seq p != DP.seq p)
                        (N AX.ret (mkF (70 : Nat) [])
                          (mkS [some (AObj.row false (1 : Nat) (0 : Nat) n fun i => [Value.int IntKind.u8 (g i)])]))
                        (br
                          (IntKind.wrap IntKind.i64
                              (DP.now p +
                                IntKind.wrap IntKind.i64
                                  (Int.tmod (g ((0 : Nat) + Int.toNat (Int.ofNat (DP.k p)))) (50 : Int))) !=
                            DP.due2 p)
                          (N AX.ret (mkF (70 : Nat) [])
                            (mkS [some (AObj.row false (1 : Nat) (0 : Nat) n fun i => [Value.int IntKind.u8 (g i)])]))
                          (br (Int.ofNat (DP.m p) != DP.seq p)
                            (N AX.ret (mkF (70 : Nat) [])
                              (mkS [some (AObj.row false (1 : Nat) (0 : Nat) n fun i => [Value.int IntKind.u8 (g i)])]))
                            (N AX.normal
                              (mkF (70 : Nat)
                                [((1 : Nat),
                                    Value.slice (some { block := (0 : Nat), off := (0 : Nat), spot := some (0 : Nat) }) n
                                      c),
                                  ((5 : Nat), Value.int IntKind.i64 every),
                                  ((6 : Nat), Value.pointer (some { block := (1 : Nat), off := (0 : Nat) })),
                                  ((7 : Nat),
                                    Value.int IntKind.i64
                                      (IntKind.wrap IntKind.i64
                                        (DP.now p +
                                          IntKind.wrap IntKind.i64
                                            (Int.tmod (g ((0 : Nat) + Int.toNat (Int.ofNat (DP.k p)))) (50 : Int))))),
                                  ((8 : Nat), Value.int IntKind.i64 (DP.seq p)),
                                  ((9 : Nat), Value.int IntKind.i64 (DP.due2 p)),
                                  ((10 : Nat),
                                    Value.int IntKind.i64 (IntKind.wrap IntKind.i64 (Int.ofNat (DP.k p) + (1 : Int))))])
                              (mkS
                                [some (AObj.row false (1 : Nat) (0 : Nat) n fun i => [Value.int IntKind.u8 (g i)]),
                                  some
                                    (AObj.cells
                                      [Value.int IntKind.i64 (1 : Int), Value.int IntKind.i64 (0 : Int),
                                        Value.int IntKind.i64 every,
                                        Value.int IntKind.i64
                                          (IntKind.wrap IntKind.i64
                                            (DP.now p +
                                              IntKind.wrap IntKind.i64
                                                (Int.tmod (g ((0 : Nat) + Int.toNat (Int.ofNat (DP.k p)))) (50 : Int)))),
                                        Value.int IntKind.i64 (0 : Int), Value.int IntKind.i64 (0 : Int),
                                        Value.float FloatKind.f64 (0 : Nat), Value.int IntKind.i64 (99 : Int),
                                        Value.bool true, Value.bool false, Value.int IntKind.i64 (3 : Int),
                                        Value.int IntKind.i64 (DP.li p), Value.float FloatKind.f64 (0 : Nat),
                                        Value.int IntKind.i64 (DP.seq p),
                                        Value.slice
                                          (some { block := (2 : Nat), off := (0 : Nat), spot := some (0 : Nat) }) (DP.m p)
                                          (1 : Nat)]
                                      true (0 : Nat)),
                                  some
                                    (AObj.row true (5 : Nat) (0 : Nat) (DP.m p) fun i =>
                                      [Value.int IntKind.i64 (DP.qs p ((0 : Nat) + i)),
                                        Value.int IntKind.i64 (DP.qk p ((0 : Nat) + i)),
                                        Value.int IntKind.i64 (DP.qi p ((0 : Nat) + i)),
                                        Value.float FloatKind.f64 (DP.qf p ((0 : Nat) + i)),
                                        Value.bool (DP.ql p ((0 : Nat) + i))])]))))))
                    (need (Nat.ble (DP.m p + (1 : Nat)) (1000000 : Nat))
                      (need (true && Nat.ble ((0 : Nat) + DP.m p) (DP.m p))
                        (br (decide (Int.ofNat (DP.m p + (1 : Nat)) ≤ (99 : Int)))
                          (br
                            (decide
                              (IntKind.wrap IntKind.i64
                                  (DP.now p +
                                    IntKind.wrap IntKind.i64
                                      (Int.tmod (g ((0 : Nat) + Int.toNat (Int.ofNat (DP.k p)))) (50 : Int))) ≥
                                DP.due2 p))
                            (LoopJ Try.prog β (exIn n c g every Post) (2 : Nat) (loopOf Try.prog (4 : FuncId) (2 : Nat))
                                (mkF (70 : Nat)
                                  [((1 : Nat),
                                      Value.slice (some { block := (0 : Nat), off := (0 : Nat), spot := some (0 : Nat) })
                                        n c),
                                    ((5 : Nat), Value.int IntKind.i64 every),
                                    ((6 : Nat), Value.pointer (some { block := (1 : Nat), off := (0 : Nat) })),
                                    ((7 : Nat),
                                      Value.int IntKind.i64
                                        (IntKind.wrap IntKind.i64
                                          (DP.now p +
                                            IntKind.wrap IntKind.i64
                                              (Int.tmod (g ((0 : Nat) + Int.toNat (Int.ofNat (DP.k p)))) (50 : Int))))),
                                    ((8 : Nat), Value.int IntKind.i64 (IntKind.wrap IntKind.i64 (DP.seq p + (1 : Int)))),
                                    ((9 : Nat), Value.int IntKind.i64 (DP.due2 p)),
                                    ((10 : Nat), Value.int IntKind.i64 (Int.ofNat (DP.k p)))])
                                (mkS
                                  [some (AObj.row false (1 : Nat) (0 : Nat) n fun i => [Value.int IntKind.u8 (g i)]),
                                    some
                                      (AObj.cells
                                        [Value.int IntKind.i64 (1 : Int), Value.int IntKind.i64 (0 : Int),
                                          Value.int IntKind.i64 every,
                                          Value.int IntKind.i64
                                            (IntKind.wrap IntKind.i64
                                              (DP.now p +
                                                IntKind.wrap IntKind.i64
                                                  (Int.tmod (g ((0 : Nat) + Int.toNat (Int.ofNat (DP.k p))))
                                                    (50 : Int)))),
                                          Value.int IntKind.i64 (0 : Int), Value.int IntKind.i64 (0 : Int),
                                          Value.float FloatKind.f64 (0 : Nat), Value.int IntKind.i64 (99 : Int),
                                          Value.bool true, Value.bool false, Value.int IntKind.i64 (3 : Int),
                                          Value.int IntKind.i64 (Int.ofNat (DP.k p)), Value.float FloatKind.f64 (0 : Nat),
                                          Value.int IntKind.i64 (IntKind.wrap IntKind.i64 (DP.seq p + (1 : Int))),
                                          Value.slice
                                            (some { block := (2 : Nat), off := (0 : Nat), spot := some (0 : Nat) })
                                            (DP.m p + (1 : Nat)) (1 : Nat)]
                                        true (0 : Nat)),
                                    some
                                      (AObj.row true (5 : Nat) (0 : Nat) (DP.m p + (1 : Nat)) fun i =>
                                        [Value.int IntKind.i64
                                            (bif Nat.blt i (DP.m p) then DP.qs p ((0 : Nat) + ((0 : Nat) + i))
                                            else IntKind.wrap IntKind.i64 (DP.seq p + (1 : Int))),
                                          Value.int IntKind.i64
                                            (bif Nat.blt i (DP.m p) then DP.qk p ((0 : Nat) + ((0 : Nat) + i))
                                            else (3 : Int)),
                                          Value.int IntKind.i64
                                            (bif Nat.blt i (DP.m p) then DP.qi p ((0 : Nat) + ((0 : Nat) + i))
                                            else Int.ofNat (DP.k p)),
                                          Value.float FloatKind.f64
                                            (bif Nat.blt i (DP.m p) then DP.qf p ((0 : Nat) + ((0 : Nat) + i))
                                            else (0 : Nat)),
                                          Value.bool
                                            (bif Nat.blt i (DP.m p) then DP.ql p ((0 : Nat) + ((0 : Nat) + i))
                                            else false)])]) ∧
                              ∀ (p : DP),
                                Post p →
                                  br (DP.seq p != DP.seq p)
                                    (N AX.ret (mkF (70 : Nat) [])
                                      (mkS
                                        [some
                                            (AObj.row false (1 : Nat) (0 : Nat) n fun i =>
                                              [Value.int IntKind.u8 (g i)])]))
                                    (br (DP.due p != DP.due2 p)
                                      (N AX.ret (mkF (70 : Nat) [])
                                        (mkS
                                          [some
                                              (AObj.row false (1 : Nat) (0 : Nat) n fun i =>
                                                [Value.int IntKind.u8 (g i)])]))
                                      (br (Int.ofNat (DP.m p) != DP.seq p)
                                        (N AX.ret (mkF (70 : Nat) [])
                                          (mkS
                                            [some
                                                (AObj.row false (1 : Nat) (0 : Nat) n fun i =>
                                                  [Value.int IntKind.u8 (g i)])]))
                                        (N AX.normal
                                          (mkF (70 : Nat)
                                            [((1 : Nat),
                                                Value.slice
                                                  (some { block := (0 : Nat), off := (0 : Nat), spot := some (0 : Nat) })
                                                  n c),
                                              ((5 : Nat), Value.int IntKind.i64 every),
                                              ((6 : Nat), Value.pointer (some { block := (1 : Nat), off := (0 : Nat) })),
                                              ((7 : Nat), Value.int IntKind.i64 (DP.now p)),
                                              ((8 : Nat), Value.int IntKind.i64 (DP.seq p)),
                                              ((9 : Nat), Value.int IntKind.i64 (DP.due2 p)),
                                              ((10 : Nat),
                                                Value.int IntKind.i64
                                                  (IntKind.wrap IntKind.i64 (Int.ofNat (DP.k p) + (1 : Int))))])
                                          (mkS
                                            [some
                                                (AObj.row false (1 : Nat) (0 : Nat) n fun i =>
                                                  [Value.int IntKind.u8 (g i)]),
                                              some
                                                (AObj.cells
                                                  [Value.int IntKind.i64 (1 : Int), Value.int IntKind.i64 (0 : Int),
                                                    Value.int IntKind.i64 every, Value.int IntKind.i64 (DP.due p),
                                                    Value.int IntKind.i64 (0 : Int), Value.int IntKind.i64 (0 : Int),
                                                    Value.float FloatKind.f64 (0 : Nat), Value.int IntKind.i64 (99 : Int),
                                                    Value.bool true, Value.bool false, Value.int IntKind.i64 (3 : Int),
                                                    Value.int IntKind.i64 (DP.li p), Value.float FloatKind.f64 (0 : Nat),
                                                    Value.int IntKind.i64 (DP.seq p),
                                                    Value.slice
                                                      (some
                                                        { block := (2 : Nat), off := (0 : Nat), spot := some (0 : Nat) })
                                                      (DP.m p) (1 : Nat)]
                                                  true (0 : Nat)),
                                              some
                                                (AObj.row true (5 : Nat) (0 : Nat) (DP.m p) fun i =>
                                                  [Value.int IntKind.i64 (DP.qs p i), Value.int IntKind.i64 (DP.qk p i),
                                                    Value.int IntKind.i64 (DP.qi p i),
                                                    Value.float FloatKind.f64 (DP.qf p i), Value.bool (DP.ql p i)])])))))
                            (br (IntKind.wrap IntKind.i64 (DP.seq p + (1 : Int)) != DP.seq p)
                              (N AX.ret (mkF (70 : Nat) [])
                                (mkS [some (AObj.row false (1 : Nat) (0 : Nat) n fun i => [Value.int IntKind.u8 (g i)])]))
                              (br
                                (IntKind.wrap IntKind.i64
                                    (DP.now p +
                                      IntKind.wrap IntKind.i64
                                        (Int.tmod (g ((0 : Nat) + Int.toNat (Int.ofNat (DP.k p)))) (50 : Int))) !=
                                  DP.due2 p)
                                (N AX.ret (mkF (70 : Nat) [])
                                  (mkS
                                    [some (AObj.row false (1 : Nat) (0 : Nat) n fun i => [Value.int IntKind.u8 (g i)])]))
                                (br (Int.ofNat (DP.m p + (1 : Nat)) != DP.seq p)
                                  (N AX.ret (mkF (70 : Nat) [])
                                    (mkS
                                      [some
                                          (AObj.row false (1 : Nat) (0 : Nat) n fun i => [Value.int IntKind.u8 (g i)])]))
                                  (N AX.normal
                                    (mkF (70 : Nat)
                                      [((1 : Nat),
                                          Value.slice
                                            (some { block := (0 : Nat), off := (0 : Nat), spot := some (0 : Nat) }) n c),
                                        ((5 : Nat), Value.int IntKind.i64 every),
                                        ((6 : Nat), Value.pointer (some { block := (1 : Nat), off := (0 : Nat) })),
                                        ((7 : Nat),
                                          Value.int IntKind.i64
                                            (IntKind.wrap IntKind.i64
                                              (DP.now p +
                                                IntKind.wrap IntKind.i64
                                                  (Int.tmod (g ((0 : Nat) + Int.toNat (Int.ofNat (DP.k p))))
                                                    (50 : Int))))),
                                        ((8 : Nat), Value.int IntKind.i64 (DP.seq p)),
                                        ((9 : Nat), Value.int IntKind.i64 (DP.due2 p)),
                                        ((10 : Nat),
                                          Value.int IntKind.i64
                                            (IntKind.wrap IntKind.i64 (Int.ofNat (DP.k p) + (1 : Int))))])
                                    (mkS
                                      [some (AObj.row false (1 : Nat) (0 : Nat) n fun i => [Value.int IntKind.u8 (g i)]),
                                        some
                                          (AObj.cells
                                            [Value.int IntKind.i64 (1 : Int), Value.int IntKind.i64 (0 : Int),
                                              Value.int IntKind.i64 every,
                                              Value.int IntKind.i64
                                                (IntKind.wrap IntKind.i64
                                                  (DP.now p +
                                                    IntKind.wrap IntKind.i64
                                                      (Int.tmod (g ((0 : Nat) + Int.toNat (Int.ofNat (DP.k p))))
                                                        (50 : Int)))),
                                              Value.int IntKind.i64 (0 : Int), Value.int IntKind.i64 (0 : Int),
                                              Value.float FloatKind.f64 (0 : Nat), Value.int IntKind.i64 (99 : Int),
                                              Value.bool true, Value.bool false, Value.int IntKind.i64 (3 : Int),
                                              Value.int IntKind.i64 (Int.ofNat (DP.k p)),
                                              Value.float FloatKind.f64 (0 : Nat),
                                              Value.int IntKind.i64 (IntKind.wrap IntKind.i64 (DP.seq p + (1 : Int))),
                                              Value.slice
                                                (some { block := (2 : Nat), off := (0 : Nat), spot := some (0 : Nat) })
                                                (DP.m p + (1 : Nat)) (1 : Nat)]
                                            true (0 : Nat)),
                                        some
                                          (AObj.row true (5 : Nat) (0 : Nat) (DP.m p + (1 : Nat)) fun i =>
                                            [Value.int IntKind.i64
                                                (bif Nat.blt i (DP.m p) then DP.qs p ((0 : Nat) + ((0 : Nat) + i))
                                                else IntKind.wrap IntKind.i64 (DP.seq p + (1 : Int))),
                                              Value.int IntKind.i64
                                                (bif Nat.blt i (DP.m p) then DP.qk p ((0 : Nat) + ((0 : Nat) + i))
                                                else (3 : Int)),
                                              Value.int IntKind.i64
                                                (bif Nat.blt i (DP.m p) then DP.qi p ((0 : Nat) + ((0 : Nat) + i))
                                                else Int.ofNat (DP.k p)),
                                              Value.float FloatKind.f64
                                                (bif Nat.blt i (DP.m p) then DP.qf p ((0 : Nat) + ((0 : Nat) + i))
                                                else (0 : Nat)),
                                              Value.bool
                                                (bif Nat.blt i (DP.m p) then DP.ql p ((0 : Nat) + ((0 : Nat) + i))
                                                else false)])]))))))
                          (br (Int.ofNat (DP.m p + (1 : Nat) - (1 : Nat)) == (0 : Int))
                            (br
                              (decide
                                (IntKind.wrap IntKind.i64
                                    (DP.now p +
                                      IntKind.wrap IntKind.i64
                                        (Int.tmod (g ((0 : Nat) + Int.toNat (Int.ofNat (DP.k p)))) (50 : Int))) ≥
                                  DP.due2 p))
                              (LoopJ Try.prog β (exIn n c g every Post) (2 : Nat) (loopOf Try.prog (4 : FuncId) (2 : Nat))
                                  (mkF (70 : Nat)
                                    [((1 : Nat),
                                        Value.slice
                                          (some { block := (0 : Nat), off := (0 : Nat), spot := some (0 : Nat) }) n c),
                                      ((5 : Nat), Value.int IntKind.i64 every),
                                      ((6 : Nat), Value.pointer (some { block := (1 : Nat), off := (0 : Nat) })),
                                      ((7 : Nat),
                                        Value.int IntKind.i64
                                          (IntKind.wrap IntKind.i64
                                            (DP.now p +
                                              IntKind.wrap IntKind.i64
                                                (Int.tmod (g ((0 : Nat) + Int.toNat (Int.ofNat (DP.k p)))) (50 : Int))))),
                                      ((8 : Nat),
                                        Value.int IntKind.i64 (IntKind.wrap IntKind.i64 (DP.seq p + (1 : Int)))),
                                      ((9 : Nat), Value.int IntKind.i64 (DP.due2 p)),
                                      ((10 : Nat), Value.int IntKind.i64 (Int.ofNat (DP.k p)))])
                                  (mkS
                                    [some (AObj.row false (1 : Nat) (0 : Nat) n fun i => [Value.int IntKind.u8 (g i)]),
                                      some
                                        (AObj.cells
                                          [Value.int IntKind.i64 (1 : Int), Value.int IntKind.i64 (0 : Int),
                                            Value.int IntKind.i64 every,
                                            Value.int IntKind.i64
                                              (IntKind.wrap IntKind.i64
                                                (DP.now p +
                                                  IntKind.wrap IntKind.i64
                                                    (Int.tmod (g ((0 : Nat) + Int.toNat (Int.ofNat (DP.k p))))
                                                      (50 : Int)))),
                                            Value.int IntKind.i64 (0 : Int), Value.int IntKind.i64 (0 : Int),
                                            Value.float FloatKind.f64 (0 : Nat), Value.int IntKind.i64 (99 : Int),
                                            Value.bool true, Value.bool true, Value.int IntKind.i64 (3 : Int),
                                            Value.int IntKind.i64 (Int.ofNat (DP.k p)),
                                            Value.float FloatKind.f64 (0 : Nat),
                                            Value.int IntKind.i64 (IntKind.wrap IntKind.i64 (DP.seq p + (1 : Int))),
                                            Value.slice
                                              (some { block := (2 : Nat), off := (0 : Nat), spot := some (1 : Nat) })
                                              (DP.m p + (1 : Nat) - (1 : Nat)) (0 : Nat)]
                                          true (0 : Nat)),
                                      some
                                        (AObj.row true (5 : Nat) (0 : Nat) (DP.m p + (1 : Nat)) fun i =>
                                          [Value.int IntKind.i64
                                              (bif Nat.blt i (DP.m p) then DP.qs p ((0 : Nat) + ((0 : Nat) + i))
                                              else IntKind.wrap IntKind.i64 (DP.seq p + (1 : Int))),
                                            Value.int IntKind.i64
                                              (bif Nat.blt i (DP.m p) then DP.qk p ((0 : Nat) + ((0 : Nat) + i))
                                              else (3 : Int)),
                                            Value.int IntKind.i64
                                              (bif Nat.blt i (DP.m p) then DP.qi p ((0 : Nat) + ((0 : Nat) + i))
                                              else Int.ofNat (DP.k p)),
                                            Value.float FloatKind.f64
                                              (bif Nat.blt i (DP.m p) then DP.qf p ((0 : Nat) + ((0 : Nat) + i))
                                              else (0 : Nat)),
                                            Value.bool
                                              (bif Nat.blt i (DP.m p) then DP.ql p ((0 : Nat) + ((0 : Nat) + i))
                                              else false)])]) ∧
                                ∀ (p : DP),
                                  Post p →
                                    br (DP.seq p != DP.seq p)
                                      (N AX.ret (mkF (70 : Nat) [])
                                        (mkS
                                          [some
                                              (AObj.row false (1 : Nat) (0 : Nat) n fun i =>
                                                [Value.int IntKind.u8 (g i)])]))
                                      (br (DP.due p != DP.due2 p)
                                        (N AX.ret (mkF (70 : Nat) [])
                                          (mkS
                                            [some
                                                (AObj.row false (1 : Nat) (0 : Nat) n fun i =>
                                                  [Value.int IntKind.u8 (g i)])]))
                                        (br (Int.ofNat (DP.m p) != DP.seq p)
                                          (N AX.ret (mkF (70 : Nat) [])
                                            (mkS
                                              [some
                                                  (AObj.row false (1 : Nat) (0 : Nat) n fun i =>
                                                    [Value.int IntKind.u8 (g i)])]))
                                          (N AX.normal
                                            (mkF (70 : Nat)
                                              [((1 : Nat),
                                                  Value.slice
                                                    (some
                                                      { block := (0 : Nat), off := (0 : Nat), spot := some (0 : Nat) })
                                                    n c),
                                                ((5 : Nat), Value.int IntKind.i64 every),
                                                ((6 : Nat),
                                                  Value.pointer (some { block := (1 : Nat), off := (0 : Nat) })),
                                                ((7 : Nat), Value.int IntKind.i64 (DP.now p)),
                                                ((8 : Nat), Value.int IntKind.i64 (DP.seq p)),
                                                ((9 : Nat), Value.int IntKind.i64 (DP.due2 p)),
                                                ((10 : Nat),
                                                  Value.int IntKind.i64
                                                    (IntKind.wrap IntKind.i64 (Int.ofNat (DP.k p) + (1 : Int))))])
                                            (mkS
                                              [some
                                                  (AObj.row false (1 : Nat) (0 : Nat) n fun i =>
                                                    [Value.int IntKind.u8 (g i)]),
                                                some
                                                  (AObj.cells
                                                    [Value.int IntKind.i64 (1 : Int), Value.int IntKind.i64 (0 : Int),
                                                      Value.int IntKind.i64 every, Value.int IntKind.i64 (DP.due p),
                                                      Value.int IntKind.i64 (0 : Int), Value.int IntKind.i64 (0 : Int),
                                                      Value.float FloatKind.f64 (0 : Nat),
                                                      Value.int IntKind.i64 (99 : Int), Value.bool true, Value.bool false,
                                                      Value.int IntKind.i64 (3 : Int), Value.int IntKind.i64 (DP.li p),
                                                      Value.float FloatKind.f64 (0 : Nat),
                                                      Value.int IntKind.i64 (DP.seq p),
                                                      Value.slice
                                                        (some
                                                          { block := (2 : Nat), off := (0 : Nat),
                                                            spot := some (0 : Nat) })
                                                        (DP.m p) (1 : Nat)]
                                                    true (0 : Nat)),
                                                some
                                                  (AObj.row true (5 : Nat) (0 : Nat) (DP.m p) fun i =>
                                                    [Value.int IntKind.i64 (DP.qs p i), Value.int IntKind.i64 (DP.qk p i),
                                                      Value.int IntKind.i64 (DP.qi p i),
                                                      Value.float FloatKind.f64 (DP.qf p i),
                                                      Value.bool (DP.ql p i)])])))))
                              (br (IntKind.wrap IntKind.i64 (DP.seq p + (1 : Int)) != DP.seq p)
                                (N AX.ret (mkF (70 : Nat) [])
                                  (mkS
                                    [some (AObj.row false (1 : Nat) (0 : Nat) n fun i => [Value.int IntKind.u8 (g i)])]))
                                (br
                                  (IntKind.wrap IntKind.i64
                                      (DP.now p +
                                        IntKind.wrap IntKind.i64
                                          (Int.tmod (g ((0 : Nat) + Int.toNat (Int.ofNat (DP.k p)))) (50 : Int))) !=
                                    DP.due2 p)
                                  (N AX.ret (mkF (70 : Nat) [])
                                    (mkS
                                      [some
                                          (AObj.row false (1 : Nat) (0 : Nat) n fun i => [Value.int IntKind.u8 (g i)])]))
                                  (br (Int.ofNat (DP.m p + (1 : Nat) - (1 : Nat)) != DP.seq p)
                                    (N AX.ret (mkF (70 : Nat) [])
                                      (mkS
                                        [some
                                            (AObj.row false (1 : Nat) (0 : Nat) n fun i =>
                                              [Value.int IntKind.u8 (g i)])]))
                                    (N AX.normal
                                      (mkF (70 : Nat)
                                        [((1 : Nat),
                                            Value.slice
                                              (some { block := (0 : Nat), off := (0 : Nat), spot := some (0 : Nat) }) n
                                              c),
                                          ((5 : Nat), Value.int IntKind.i64 every),
                                          ((6 : Nat), Value.pointer (some { block := (1 : Nat), off := (0 : Nat) })),
                                          ((7 : Nat),
                                            Value.int IntKind.i64
                                              (IntKind.wrap IntKind.i64
                                                (DP.now p +
                                                  IntKind.wrap IntKind.i64
                                                    (Int.tmod (g ((0 : Nat) + Int.toNat (Int.ofNat (DP.k p))))
                                                      (50 : Int))))),
                                          ((8 : Nat), Value.int IntKind.i64 (DP.seq p)),
                                          ((9 : Nat), Value.int IntKind.i64 (DP.due2 p)),
                                          ((10 : Nat),
                                            Value.int IntKind.i64
                                              (IntKind.wrap IntKind.i64 (Int.ofNat (DP.k p) + (1 : Int))))])
                                      (mkS
                                        [some
                                            (AObj.row false (1 : Nat) (0 : Nat) n fun i => [Value.int IntKind.u8 (g i)]),
                                          some
                                            (AObj.cells
                                              [Value.int IntKind.i64 (1 : Int), Value.int IntKind.i64 (0 : Int),
                                                Value.int IntKind.i64 every,
                                                Value.int IntKind.i64
                                                  (IntKind.wrap IntKind.i64
                                                    (DP.now p +
                                                      IntKind.wrap IntKind.i64
                                                        (Int.tmod (g ((0 : Nat) + Int.toNat (Int.ofNat (DP.k p))))
                                                          (50 : Int)))),
                                                Value.int IntKind.i64 (0 : Int), Value.int IntKind.i64 (0 : Int),
                                                Value.float FloatKind.f64 (0 : Nat), Value.int IntKind.i64 (99 : Int),
                                                Value.bool true, Value.bool true, Value.int IntKind.i64 (3 : Int),
                                                Value.int IntKind.i64 (Int.ofNat (DP.k p)),
                                                Value.float FloatKind.f64 (0 : Nat),
                                                Value.int IntKind.i64 (IntKind.wrap IntKind.i64 (DP.seq p + (1 : Int))),
                                                Value.slice
                                                  (some { block := (2 : Nat), off := (0 : Nat), spot := some (1 : Nat) })
                                                  (DP.m p + (1 : Nat) - (1 : Nat)) (0 : Nat)]
                                              true (0 : Nat)),
                                          some
                                            (AObj.row true (5 : Nat) (0 : Nat) (DP.m p + (1 : Nat)) fun i =>
                                              [Value.int IntKind.i64
                                                  (bif Nat.blt i (DP.m p) then DP.qs p ((0 : Nat) + ((0 : Nat) + i))
                                                  else IntKind.wrap IntKind.i64 (DP.seq p + (1 : Int))),
                                                Value.int IntKind.i64
                                                  (bif Nat.blt i (DP.m p) then DP.qk p ((0 : Nat) + ((0 : Nat) + i))
                                                  else (3 : Int)),
                                                Value.int IntKind.i64
                                                  (bif Nat.blt i (DP.m p) then DP.qi p ((0 : Nat) + ((0 : Nat) + i))
                                                  else Int.ofNat (DP.k p)),
                                                Value.float FloatKind.f64
                                                  (bif Nat.blt i (DP.m p) then DP.qf p ((0 : Nat) + ((0 : Nat) + i))
                                                  else (0 : Nat)),
                                                Value.bool
                                                  (bif Nat.blt i (DP.m p) then DP.ql p ((0 : Nat) + ((0 : Nat) + i))
                                                  else false)])]))))))
                            (need (Nat.blt (0 : Nat) (DP.m p + (1 : Nat) - (1 : Nat)))
                              (need (Nat.blt (1 : Nat) (DP.m p + (1 : Nat)))
                                (br
                                  (decide
                                    (IntKind.wrap IntKind.i64
                                        (DP.now p +
                                          IntKind.wrap IntKind.i64
                                            (Int.tmod (g ((0 : Nat) + Int.toNat (Int.ofNat (DP.k p)))) (50 : Int))) ≥
                                      DP.due2 p))
                                  (LoopJ Try.prog β (exIn n c g every Post) (2 : Nat)
                                      (loopOf Try.prog (4 : FuncId) (2 : Nat))
                                      (mkF (70 : Nat)
                                        [((1 : Nat),
                                            Value.slice
                                              (some { block := (0 : Nat), off := (0 : Nat), spot := some (0 : Nat) }) n
                                              c),
                                          ((5 : Nat), Value.int IntKind.i64 every),
                                          ((6 : Nat), Value.pointer (some { block := (1 : Nat), off := (0 : Nat) })),
                                          ((7 : Nat),
                                            Value.int IntKind.i64
                                              (IntKind.wrap IntKind.i64
                                                (DP.now p +
                                                  IntKind.wrap IntKind.i64
                                                    (Int.tmod (g ((0 : Nat) + Int.toNat (Int.ofNat (DP.k p))))
                                                      (50 : Int))))),
                                          ((8 : Nat),
                                            Value.int IntKind.i64 (IntKind.wrap IntKind.i64 (DP.seq p + (1 : Int)))),
                                          ((9 : Nat), Value.int IntKind.i64 (DP.due2 p)),
                                          ((10 : Nat), Value.int IntKind.i64 (Int.ofNat (DP.k p)))])
                                      (mkS
                                        [some
                                            (AObj.row false (1 : Nat) (0 : Nat) n fun i => [Value.int IntKind.u8 (g i)]),
                                          some
                                            (AObj.cells
                                              [Value.int IntKind.i64 (1 : Int), Value.int IntKind.i64 (0 : Int),
                                                Value.int IntKind.i64 every,
                                                Value.int IntKind.i64
                                                  (IntKind.wrap IntKind.i64
                                                    (DP.now p +
                                                      IntKind.wrap IntKind.i64
                                                        (Int.tmod (g ((0 : Nat) + Int.toNat (Int.ofNat (DP.k p))))
                                                          (50 : Int)))),
                                                Value.int IntKind.i64 (0 : Int), Value.int IntKind.i64 (0 : Int),
                                                Value.float FloatKind.f64 (0 : Nat), Value.int IntKind.i64 (99 : Int),
                                                Value.bool true, Value.bool false, Value.int IntKind.i64 (3 : Int),
                                                Value.int IntKind.i64 (Int.ofNat (DP.k p)),
                                                Value.float FloatKind.f64 (0 : Nat),
                                                Value.int IntKind.i64 (IntKind.wrap IntKind.i64 (DP.seq p + (1 : Int))),
                                                Value.slice
                                                  (some { block := (2 : Nat), off := (0 : Nat), spot := some (1 : Nat) })
                                                  (DP.m p + (1 : Nat) - (1 : Nat)) (0 : Nat)]
                                              true (0 : Nat)),
                                          some
                                            (AObj.row true (5 : Nat) (0 : Nat) (DP.m p + (1 : Nat)) fun i =>
                                              [Value.int IntKind.i64
                                                  (bif Nat.beq i (1 : Nat) then
                                                    bif Nat.blt (1 : Nat) (DP.m p) then DP.qs p (1 : Nat)
                                                    else IntKind.wrap IntKind.i64 (DP.seq p + (1 : Int))
                                                  else
                                                    bif Nat.blt i (DP.m p) then DP.qs p ((0 : Nat) + ((0 : Nat) + i))
                                                    else IntKind.wrap IntKind.i64 (DP.seq p + (1 : Int))),
                                                Value.int IntKind.i64
                                                  (bif Nat.beq i (1 : Nat) then
                                                    bif Nat.blt (1 : Nat) (DP.m p) then DP.qk p (1 : Nat) else (3 : Int)
                                                  else
                                                    bif Nat.blt i (DP.m p) then DP.qk p ((0 : Nat) + ((0 : Nat) + i))
                                                    else (3 : Int)),
                                                Value.int IntKind.i64
                                                  (bif Nat.beq i (1 : Nat) then
                                                    bif Nat.blt (1 : Nat) (DP.m p) then DP.qi p (1 : Nat)
                                                    else Int.ofNat (DP.k p)
                                                  else
                                                    bif Nat.blt i (DP.m p) then DP.qi p ((0 : Nat) + ((0 : Nat) + i))
                                                    else Int.ofNat (DP.k p)),
                                                Value.float FloatKind.f64
                                                  (bif Nat.beq i (1 : Nat) then
                                                    bif Nat.blt (1 : Nat) (DP.m p) then DP.qf p (1 : Nat) else (0 : Nat)
                                                  else
                                                    bif Nat.blt i (DP.m p) then DP.qf p ((0 : Nat) + ((0 : Nat) + i))
                                                    else (0 : Nat)),
                                                Value.bool
                                                  (bif Nat.beq i (1 : Nat) then true
                                                  else
                                                    bif Nat.blt i (DP.m p) then DP.ql p ((0 : Nat) + ((0 : Nat) + i))
                                                    else false)])]) ∧
                                    ∀ (p : DP),
                                      Post p →
                                        br (DP.seq p != DP.seq p)
                                          (N AX.ret (mkF (70 : Nat) [])
                                            (mkS
                                              [some
                                                  (AObj.row false (1 : Nat) (0 : Nat) n fun i =>
                                                    [Value.int IntKind.u8 (g i)])]))
                                          (br (DP.due p != DP.due2 p)
                                            (N AX.ret (mkF (70 : Nat) [])
                                              (mkS
                                                [some
                                                    (AObj.row false (1 : Nat) (0 : Nat) n fun i =>
                                                      [Value.int IntKind.u8 (g i)])]))
                                            (br (Int.ofNat (DP.m p) != DP.seq p)
                                              (N AX.ret (mkF (70 : Nat) [])
                                                (mkS
                                                  [some
                                                      (AObj.row false (1 : Nat) (0 : Nat) n fun i =>
                                                        [Value.int IntKind.u8 (g i)])]))
                                              (N AX.normal
                                                (mkF (70 : Nat)
                                                  [((1 : Nat),
                                                      Value.slice
                                                        (some
                                                          { block := (0 : Nat), off := (0 : Nat),
                                                            spot := some (0 : Nat) })
                                                        n c),
                                                    ((5 : Nat), Value.int IntKind.i64 every),
                                                    ((6 : Nat),
                                                      Value.pointer (some { block := (1 : Nat), off := (0 : Nat) })),
                                                    ((7 : Nat), Value.int IntKind.i64 (DP.now p)),
                                                    ((8 : Nat), Value.int IntKind.i64 (DP.seq p)),
                                                    ((9 : Nat), Value.int IntKind.i64 (DP.due2 p)),
                                                    ((10 : Nat),
                                                      Value.int IntKind.i64
                                                        (IntKind.wrap IntKind.i64 (Int.ofNat (DP.k p) + (1 : Int))))])
                                                (mkS
                                                  [some
                                                      (AObj.row false (1 : Nat) (0 : Nat) n fun i =>
                                                        [Value.int IntKind.u8 (g i)]),
                                                    some
                                                      (AObj.cells
                                                        [Value.int IntKind.i64 (1 : Int), Value.int IntKind.i64 (0 : Int),
                                                          Value.int IntKind.i64 every, Value.int IntKind.i64 (DP.due p),
                                                          Value.int IntKind.i64 (0 : Int),
                                                          Value.int IntKind.i64 (0 : Int),
                                                          Value.float FloatKind.f64 (0 : Nat),
                                                          Value.int IntKind.i64 (99 : Int), Value.bool true,
                                                          Value.bool false, Value.int IntKind.i64 (3 : Int),
                                                          Value.int IntKind.i64 (DP.li p),
                                                          Value.float FloatKind.f64 (0 : Nat),
                                                          Value.int IntKind.i64 (DP.seq p),
                                                          Value.slice
                                                            (some
                                                              { block := (2 : Nat), off := (0 : Nat),
                                                                spot := some (0 : Nat) })
                                                            (DP.m p) (1 : Nat)]
                                                        true (0 : Nat)),
                                                    some
                                                      (AObj.row true (5 : Nat) (0 : Nat) (DP.m p) fun i =>
                                                        [Value.int IntKind.i64 (DP.qs p i),
                                                          Value.int IntKind.i64 (DP.qk p i),
                                                          Value.int IntKind.i64 (DP.qi p i),
                                                          Value.float FloatKind.f64 (DP.qf p i),
                                                          Value.bool (DP.ql p i)])])))))
                                  (br (IntKind.wrap IntKind.i64 (DP.seq p + (1 : Int)) != DP.seq p)
                                    (N AX.ret (mkF (70 : Nat) [])
                                      (mkS
                                        [some
                                            (AObj.row false (1 : Nat) (0 : Nat) n fun i =>
                                              [Value.int IntKind.u8 (g i)])]))
                                    (br
                                      (IntKind.wrap IntKind.i64
                                          (DP.now p +
                                            IntKind.wrap IntKind.i64
                                              (Int.tmod (g ((0 : Nat) + Int.toNat (Int.ofNat (DP.k p)))) (50 : Int))) !=
                                        DP.due2 p)
                                      (N AX.ret (mkF (70 : Nat) [])
                                        (mkS
                                          [some
                                              (AObj.row false (1 : Nat) (0 : Nat) n fun i =>
                                                [Value.int IntKind.u8 (g i)])]))
                                      (br (Int.ofNat (DP.m p + (1 : Nat) - (1 : Nat)) != DP.seq p)
                                        (N AX.ret (mkF (70 : Nat) [])
                                          (mkS
                                            [some
                                                (AObj.row false (1 : Nat) (0 : Nat) n fun i =>
                                                  [Value.int IntKind.u8 (g i)])]))
                                        (N AX.normal
                                          (mkF (70 : Nat)
                                            [((1 : Nat),
                                                Value.slice
                                                  (some { block := (0 : Nat), off := (0 : Nat), spot := some (0 : Nat) })
                                                  n c),
                                              ((5 : Nat), Value.int IntKind.i64 every),
                                              ((6 : Nat), Value.pointer (some { block := (1 : Nat), off := (0 : Nat) })),
                                              ((7 : Nat),
                                                Value.int IntKind.i64
                                                  (IntKind.wrap IntKind.i64
                                                    (DP.now p +
                                                      IntKind.wrap IntKind.i64
                                                        (Int.tmod (g ((0 : Nat) + Int.toNat (Int.ofNat (DP.k p))))
                                                          (50 : Int))))),
                                              ((8 : Nat), Value.int IntKind.i64 (DP.seq p)),
                                              ((9 : Nat), Value.int IntKind.i64 (DP.due2 p)),
                                              ((10 : Nat),
                                                Value.int IntKind.i64
                                                  (IntKind.wrap IntKind.i64 (Int.ofNat (DP.k p) + (1 : Int))))])
                                          (mkS
                                            [some
                                                (AObj.row false (1 : Nat) (0 : Nat) n fun i =>
                                                  [Value.int IntKind.u8 (g i)]),
                                              some
                                                (AObj.cells
                                                  [Value.int IntKind.i64 (1 : Int), Value.int IntKind.i64 (0 : Int),
                                                    Value.int IntKind.i64 every,
                                                    Value.int IntKind.i64
                                                      (IntKind.wrap IntKind.i64
                                                        (DP.now p +
                                                          IntKind.wrap IntKind.i64
                                                            (Int.tmod (g ((0 : Nat) + Int.toNat (Int.ofNat (DP.k p))))
                                                              (50 : Int)))),
                                                    Value.int IntKind.i64 (0 : Int), Value.int IntKind.i64 (0 : Int),
                                                    Value.float FloatKind.f64 (0 : Nat), Value.int IntKind.i64 (99 : Int),
                                                    Value.bool true, Value.bool false, Value.int IntKind.i64 (3 : Int),
                                                    Value.int IntKind.i64 (Int.ofNat (DP.k p)),
                                                    Value.float FloatKind.f64 (0 : Nat),
                                                    Value.int IntKind.i64
                                                      (IntKind.wrap IntKind.i64 (DP.seq p + (1 : Int))),
                                                    Value.slice
                                                      (some
                                                        { block := (2 : Nat), off := (0 : Nat), spot := some (1 : Nat) })
                                                      (DP.m p + (1 : Nat) - (1 : Nat)) (0 : Nat)]
                                                  true (0 : Nat)),
                                              some
                                                (AObj.row true (5 : Nat) (0 : Nat) (DP.m p + (1 : Nat)) fun i =>
                                                  [Value.int IntKind.i64
                                                      (bif Nat.beq i (1 : Nat) then
                                                        bif Nat.blt (1 : Nat) (DP.m p) then DP.qs p (1 : Nat)
                                                        else IntKind.wrap IntKind.i64 (DP.seq p + (1 : Int))
                                                      else
                                                        bif Nat.blt i (DP.m p) then DP.qs p ((0 : Nat) + ((0 : Nat) + i))
                                                        else IntKind.wrap IntKind.i64 (DP.seq p + (1 : Int))),
                                                    Value.int IntKind.i64
                                                      (bif Nat.beq i (1 : Nat) then
                                                        bif Nat.blt (1 : Nat) (DP.m p) then DP.qk p (1 : Nat)
                                                        else (3 : Int)
                                                      else
                                                        bif Nat.blt i (DP.m p) then DP.qk p ((0 : Nat) + ((0 : Nat) + i))
                                                        else (3 : Int)),
                                                    Value.int IntKind.i64
                                                      (bif Nat.beq i (1 : Nat) then
                                                        bif Nat.blt (1 : Nat) (DP.m p) then DP.qi p (1 : Nat)
                                                        else Int.ofNat (DP.k p)
                                                      else
                                                        bif Nat.blt i (DP.m p) then DP.qi p ((0 : Nat) + ((0 : Nat) + i))
                                                        else Int.ofNat (DP.k p)),
                                                    Value.float FloatKind.f64
                                                      (bif Nat.beq i (1 : Nat) then
                                                        bif Nat.blt (1 : Nat) (DP.m p) then DP.qf p (1 : Nat)
                                                        else (0 : Nat)
                                                      else
                                                        bif Nat.blt i (DP.m p) then DP.qf p ((0 : Nat) + ((0 : Nat) + i))
                                                        else (0 : Nat)),
                                                    Value.bool
                                                      (bif Nat.beq i (1 : Nat) then true
                                                      else
                                                        bif Nat.blt i (DP.m p) then DP.ql p ((0 : Nat) + ((0 : Nat) + i))
                                                        else false)])])))))))))))))
                  (need (true && !decide (IntKind.wrap IntKind.u64 every = (0 : Int)))
                    (br
                      (!decide
                          (IntKind.wrap IntKind.u64
                              (IntKind.wrap IntKind.u64
                                  (if DP.li p > Int.ofNat (DP.k p) then DP.li p else Int.ofNat (DP.k p)) -
                                IntKind.wrap IntKind.u64
                                  (if DP.li p < Int.ofNat (DP.k p) then DP.li p else Int.ofNat (DP.k p))) >
                            (0 : Int)))
                      (br
                        (decide
                          (IntKind.wrap IntKind.i64
                              (DP.now p +
                                IntKind.wrap IntKind.i64
                                  (Int.tmod (g ((0 : Nat) + Int.toNat (Int.ofNat (DP.k p)))) (50 : Int))) ≥
                            DP.due2 p))
                        (LoopJ Try.prog β (exIn n c g every Post) (2 : Nat) (loopOf Try.prog (4 : FuncId) (2 : Nat))
                            (mkF (70 : Nat)
                              [((1 : Nat),
                                  Value.slice (some { block := (0 : Nat), off := (0 : Nat), spot := some (0 : Nat) }) n
                                    c),
                                ((5 : Nat), Value.int IntKind.i64 every),
                                ((6 : Nat), Value.pointer (some { block := (1 : Nat), off := (0 : Nat) })),
                                ((7 : Nat),
                                  Value.int IntKind.i64
                                    (IntKind.wrap IntKind.i64
                                      (DP.now p +
                                        IntKind.wrap IntKind.i64
                                          (Int.tmod (g ((0 : Nat) + Int.toNat (Int.ofNat (DP.k p)))) (50 : Int))))),
                                ((8 : Nat), Value.int IntKind.i64 (IntKind.wrap IntKind.i64 (DP.seq p + (1 : Int)))),
                                ((9 : Nat), Value.int IntKind.i64 (DP.due2 p)),
                                ((10 : Nat), Value.int IntKind.i64 (Int.ofNat (DP.k p)))])
                            (mkS
                              [some (AObj.row false (1 : Nat) (0 : Nat) n fun i => [Value.int IntKind.u8 (g i)]),
                                some
                                  (AObj.cells
                                    [Value.int IntKind.i64 (1 : Int), Value.int IntKind.i64 (0 : Int),
                                      Value.int IntKind.i64 every,
                                      Value.int IntKind.i64
                                        (IntKind.wrap IntKind.i64
                                          (DP.due p +
                                            IntKind.wrap IntKind.i64
                                              (IntKind.wrap IntKind.i64
                                                  (IntKind.wrap IntKind.u64
                                                    (IntKind.wrap IntKind.u64
                                                        (Int.tdiv
                                                          (IntKind.wrap IntKind.u64
                                                            (IntKind.wrap IntKind.u64
                                                                (IntKind.wrap IntKind.i64
                                                                  (DP.now p +
                                                                    IntKind.wrap IntKind.i64
                                                                      (Int.tmod
                                                                        (g ((0 : Nat) + Int.toNat (Int.ofNat (DP.k p))))
                                                                        (50 : Int)))) -
                                                              IntKind.wrap IntKind.u64 (DP.due p)))
                                                          (IntKind.wrap IntKind.u64 every)) +
                                                      (1 : Int))) *
                                                every))),
                                      Value.int IntKind.i64 (0 : Int), Value.int IntKind.i64 (0 : Int),
                                      Value.float FloatKind.f64 (0 : Nat), Value.int IntKind.i64 (99 : Int),
                                      Value.bool true, Value.bool false, Value.int IntKind.i64 (3 : Int),
                                      Value.int IntKind.i64 (DP.li p), Value.float FloatKind.f64 (0 : Nat),
                                      Value.int IntKind.i64 (DP.seq p),
                                      Value.slice (some { block := (2 : Nat), off := (0 : Nat), spot := some (0 : Nat) })
                                        (DP.m p) (1 : Nat)]
                                    true (0 : Nat)),
                                some
                                  (AObj.row true (5 : Nat) (0 : Nat) (DP.m p) fun i =>
                                    [Value.int IntKind.i64 (DP.qs p ((0 : Nat) + i)),
                                      Value.int IntKind.i64 (DP.qk p ((0 : Nat) + i)),
                                      Value.int IntKind.i64 (DP.qi p ((0 : Nat) + i)),
                                      Value.float FloatKind.f64 (DP.qf p ((0 : Nat) + i)),
                                      Value.bool (DP.ql p ((0 : Nat) + i))])]) ∧
                          ∀ (p : DP),
                            Post p →
                              br (DP.seq p != DP.seq p)
                                (N AX.ret (mkF (70 : Nat) [])
                                  (mkS
                                    [some (AObj.row false (1 : Nat) (0 : Nat) n fun i => [Value.int IntKind.u8 (g i)])]))
                                (br (DP.due p != DP.due2 p)
                                  (N AX.ret (mkF (70 : Nat) [])
                                    (mkS
                                      [some
                                          (AObj.row false (1 : Nat) (0 : Nat) n fun i => [Value.int IntKind.u8 (g i)])]))
                                  (br (Int.ofNat (DP.m p) != DP.seq p)
                                    (N AX.ret (mkF (70 : Nat) [])
                                      (mkS
                                        [some
                                            (AObj.row false (1 : Nat) (0 : Nat) n fun i =>
                                              [Value.int IntKind.u8 (g i)])]))
                                    (N AX.normal
                                      (mkF (70 : Nat)
                                        [((1 : Nat),
                                            Value.slice
                                              (some { block := (0 : Nat), off := (0 : Nat), spot := some (0 : Nat) }) n
                                              c),
                                          ((5 : Nat), Value.int IntKind.i64 every),
                                          ((6 : Nat), Value.pointer (some { block := (1 : Nat), off := (0 : Nat) })),
                                          ((7 : Nat), Value.int IntKind.i64 (DP.now p)),
                                          ((8 : Nat), Value.int IntKind.i64 (DP.seq p)),
                                          ((9 : Nat), Value.int IntKind.i64 (DP.due2 p)),
                                          ((10 : Nat),
                                            Value.int IntKind.i64
                                              (IntKind.wrap IntKind.i64 (Int.ofNat (DP.k p) + (1 : Int))))])
                                      (mkS
                                        [some
                                            (AObj.row false (1 : Nat) (0 : Nat) n fun i => [Value.int IntKind.u8 (g i)]),
                                          some
                                            (AObj.cells
                                              [Value.int IntKind.i64 (1 : Int), Value.int IntKind.i64 (0 : Int),
                                                Value.int IntKind.i64 every, Value.int IntKind.i64 (DP.due p),
                                                Value.int IntKind.i64 (0 : Int), Value.int IntKind.i64 (0 : Int),
                                                Value.float FloatKind.f64 (0 : Nat), Value.int IntKind.i64 (99 : Int),
                                                Value.bool true, Value.bool false, Value.int IntKind.i64 (3 : Int),
                                                Value.int IntKind.i64 (DP.li p), Value.float FloatKind.f64 (0 : Nat),
                                                Value.int IntKind.i64 (DP.seq p),
                                                Value.slice
                                                  (some { block := (2 : Nat), off := (0 : Nat), spot := some (0 : Nat) })
                                                  (DP.m p) (1 : Nat)]
                                              true (0 : Nat)),
                                          some
                                            (AObj.row true (5 : Nat) (0 : Nat) (DP.m p) fun i =>
                                              [Value.int IntKind.i64 (DP.qs p i), Value.int IntKind.i64 (DP.qk p i),
                                                Value.int IntKind.i64 (DP.qi p i), Value.float FloatKind.f64 (DP.qf p i),
                                                Value.bool (DP.ql p i)])])))))
                        (br (DP.seq p != DP.seq p)
                          (N AX.ret (mkF (70 : Nat) [])
                            (mkS [some (AObj.row false (1 : Nat) (0 : Nat) n fun i => [Value.int IntKind.u8 (g i)])]))
                          (br
                            (IntKind.wrap IntKind.i64
                                (DP.due p +
                                  IntKind.wrap IntKind.i64
                                    (IntKind.wrap IntKind.i64
                                        (IntKind.wrap IntKind.u64
                                          (IntKind.wrap IntKind.u64
                                              (Int.tdiv
                                                (IntKind.wrap IntKind.u64
                                                  (IntKind.wrap IntKind.u64
                                                      (IntKind.wrap IntKind.i64
                                                        (DP.now p +
                                                          IntKind.wrap IntKind.i64
                                                            (Int.tmod (g ((0 : Nat) + Int.toNat (Int.ofNat (DP.k p))))
                                                              (50 : Int)))) -
                                                    IntKind.wrap IntKind.u64 (DP.due p)))
                                                (IntKind.wrap IntKind.u64 every)) +
                                            (1 : Int))) *
                                      every)) !=
                              DP.due2 p)
                            (N AX.ret (mkF (70 : Nat) [])
                              (mkS [some (AObj.row false (1 : Nat) (0 : Nat) n fun i => [Value.int IntKind.u8 (g i)])]))
                            (br (Int.ofNat (DP.m p) != DP.seq p)
                              (N AX.ret (mkF (70 : Nat) [])
                                (mkS [some (AObj.row false (1 : Nat) (0 : Nat) n fun i => [Value.int IntKind.u8 (g i)])]))
                              (N AX.normal
                                (mkF (70 : Nat)
                                  [((1 : Nat),
                                      Value.slice (some { block := (0 : Nat), off := (0 : Nat), spot := some (0 : Nat) })
                                        n c),
                                    ((5 : Nat), Value.int IntKind.i64 every),
                                    ((6 : Nat), Value.pointer (some { block := (1 : Nat), off := (0 : Nat) })),
                                    ((7 : Nat),
                                      Value.int IntKind.i64
                                        (IntKind.wrap IntKind.i64
                                          (DP.now p +
                                            IntKind.wrap IntKind.i64
                                              (Int.tmod (g ((0 : Nat) + Int.toNat (Int.ofNat (DP.k p)))) (50 : Int))))),
                                    ((8 : Nat), Value.int IntKind.i64 (DP.seq p)),
                                    ((9 : Nat), Value.int IntKind.i64 (DP.due2 p)),
                                    ((10 : Nat),
                                      Value.int IntKind.i64 (IntKind.wrap IntKind.i64 (Int.ofNat (DP.k p) + (1 : Int))))])
                                (mkS
                                  [some (AObj.row false (1 : Nat) (0 : Nat) n fun i => [Value.int IntKind.u8 (g i)]),
                                    some
                                      (AObj.cells
                                        [Value.int IntKind.i64 (1 : Int), Value.int IntKind.i64 (0 : Int),
                                          Value.int IntKind.i64 every,
                                          Value.int IntKind.i64
                                            (IntKind.wrap IntKind.i64
                                              (DP.due p +
                                                IntKind.wrap IntKind.i64
                                                  (IntKind.wrap IntKind.i64
                                                      (IntKind.wrap IntKind.u64
                                                        (IntKind.wrap IntKind.u64
                                                            (Int.tdiv
                                                              (IntKind.wrap IntKind.u64
                                                                (IntKind.wrap IntKind.u64
                                                                    (IntKind.wrap IntKind.i64
                                                                      (DP.now p +
                                                                        IntKind.wrap IntKind.i64
                                                                          (Int.tmod
                                                                            (g
                                                                              ((0 : Nat) +
                                                                                Int.toNat (Int.ofNat (DP.k p))))
                                                                            (50 : Int)))) -
                                                                  IntKind.wrap IntKind.u64 (DP.due p)))
                                                              (IntKind.wrap IntKind.u64 every)) +
                                                          (1 : Int))) *
                                                    every))),
                                          Value.int IntKind.i64 (0 : Int), Value.int IntKind.i64 (0 : Int),
                                          Value.float FloatKind.f64 (0 : Nat), Value.int IntKind.i64 (99 : Int),
                                          Value.bool true, Value.bool false, Value.int IntKind.i64 (3 : Int),
                                          Value.int IntKind.i64 (DP.li p), Value.float FloatKind.f64 (0 : Nat),
                                          Value.int IntKind.i64 (DP.seq p),
                                          Value.slice
                                            (some { block := (2 : Nat), off := (0 : Nat), spot := some (0 : Nat) })
                                            (DP.m p) (1 : Nat)]
                                        true (0 : Nat)),
                                    some
                                      (AObj.row true (5 : Nat) (0 : Nat) (DP.m p) fun i =>
                                        [Value.int IntKind.i64 (DP.qs p ((0 : Nat) + i)),
                                          Value.int IntKind.i64 (DP.qk p ((0 : Nat) + i)),
                                          Value.int IntKind.i64 (DP.qi p ((0 : Nat) + i)),
                                          Value.float FloatKind.f64 (DP.qf p ((0 : Nat) + i)),
                                          Value.bool (DP.ql p ((0 : Nat) + i))])]))))))
                      (need (Nat.ble (DP.m p + (1 : Nat)) (1000000 : Nat))
                        (need (true && Nat.ble ((0 : Nat) + DP.m p) (DP.m p))
                          (br (decide (Int.ofNat (DP.m p + (1 : Nat)) ≤ (99 : Int)))
                            (br
                              (decide
                                (IntKind.wrap IntKind.i64
                                    (DP.now p +
                                      IntKind.wrap IntKind.i64
                                        (Int.tmod (g ((0 : Nat) + Int.toNat (Int.ofNat (DP.k p)))) (50 : Int))) ≥
                                  DP.due2 p))
                              (LoopJ Try.prog β (exIn n c g every Post) (2 : Nat) (loopOf Try.prog (4 : FuncId) (2 : Nat))
                                  (mkF (70 : Nat)
                                    [((1 : Nat),
                                        Value.slice
                                          (some { block := (0 : Nat), off := (0 : Nat), spot := some (0 : Nat) }) n c),
                                      ((5 : Nat), Value.int IntKind.i64 every),
                                      ((6 : Nat), Value.pointer (some { block := (1 : Nat), off := (0 : Nat) })),
                                      ((7 : Nat),
                                        Value.int IntKind.i64
                                          (IntKind.wrap IntKind.i64
                                            (DP.now p +
                                              IntKind.wrap IntKind.i64
                                                (Int.tmod (g ((0 : Nat) + Int.toNat (Int.ofNat (DP.k p)))) (50 : Int))))),
                                      ((8 : Nat),
                                        Value.int IntKind.i64 (IntKind.wrap IntKind.i64 (DP.seq p + (1 : Int)))),
                                      ((9 : Nat), Value.int IntKind.i64 (DP.due2 p)),
                                      ((10 : Nat), Value.int IntKind.i64 (Int.ofNat (DP.k p)))])
                                  (mkS
                                    [some (AObj.row false (1 : Nat) (0 : Nat) n fun i => [Value.int IntKind.u8 (g i)]),
                                      some
                                        (AObj.cells
                                          [Value.int IntKind.i64 (1 : Int), Value.int IntKind.i64 (0 : Int),
                                            Value.int IntKind.i64 every,
                                            Value.int IntKind.i64
                                              (IntKind.wrap IntKind.i64
                                                (DP.due p +
                                                  IntKind.wrap IntKind.i64
                                                    (IntKind.wrap IntKind.i64
                                                        (IntKind.wrap IntKind.u64
                                                          (IntKind.wrap IntKind.u64
                                                              (Int.tdiv
                                                                (IntKind.wrap IntKind.u64
                                                                  (IntKind.wrap IntKind.u64
                                                                      (IntKind.wrap IntKind.i64
                                                                        (DP.now p +
                                                                          IntKind.wrap IntKind.i64
                                                                            (Int.tmod
                                                                              (g
                                                                                ((0 : Nat) +
                                                                                  Int.toNat (Int.ofNat (DP.k p))))
                                                                              (50 : Int)))) -
                                                                    IntKind.wrap IntKind.u64 (DP.due p)))
                                                                (IntKind.wrap IntKind.u64 every)) +
                                                            (1 : Int))) *
                                                      every))),
                                            Value.int IntKind.i64 (0 : Int), Value.int IntKind.i64 (0 : Int),
                                            Value.float FloatKind.f64 (0 : Nat), Value.int IntKind.i64 (99 : Int),
                                            Value.bool true, Value.bool false, Value.int IntKind.i64 (3 : Int),
                                            Value.int IntKind.i64 (Int.ofNat (DP.k p)),
                                            Value.float FloatKind.f64 (0 : Nat),
                                            Value.int IntKind.i64 (IntKind.wrap IntKind.i64 (DP.seq p + (1 : Int))),
                                            Value.slice
                                              (some { block := (2 : Nat), off := (0 : Nat), spot := some (0 : Nat) })
                                              (DP.m p + (1 : Nat)) (1 : Nat)]
                                          true (0 : Nat)),
                                      some
                                        (AObj.row true (5 : Nat) (0 : Nat) (DP.m p + (1 : Nat)) fun i =>
                                          [Value.int IntKind.i64
                                              (bif Nat.blt i (DP.m p) then DP.qs p ((0 : Nat) + ((0 : Nat) + i))
                                              else IntKind.wrap IntKind.i64 (DP.seq p + (1 : Int))),
                                            Value.int IntKind.i64
                                              (bif Nat.blt i (DP.m p) then DP.qk p ((0 : Nat) + ((0 : Nat) + i))
                                              else (3 : Int)),
                                            Value.int IntKind.i64
                                              (bif Nat.blt i (DP.m p) then DP.qi p ((0 : Nat) + ((0 : Nat) + i))
                                              else Int.ofNat (DP.k p)),
                                            Value.float FloatKind.f64
                                              (bif Nat.blt i (DP.m p) then DP.qf p ((0 : Nat) + ((0 : Nat) + i))
                                              else (0 : Nat)),
                                            Value.bool
                                              (bif Nat.blt i (DP.m p) then DP.ql p ((0 : Nat) + ((0 : Nat) + i))
                                              else false)])]) ∧
                                ∀ (p : DP),
                                  Post p →
                                    br (DP.seq p != DP.seq p)
                                      (N AX.ret (mkF (70 : Nat) [])
                                        (mkS
                                          [some
                                              (AObj.row false (1 : Nat) (0 : Nat) n fun i =>
                                                [Value.int IntKind.u8 (g i)])]))
                                      (br (DP.due p != DP.due2 p)
                                        (N AX.ret (mkF (70 : Nat) [])
                                          (mkS
                                            [some
                                                (AObj.row false (1 : Nat) (0 : Nat) n fun i =>
                                                  [Value.int IntKind.u8 (g i)])]))
                                        (br (Int.ofNat (DP.m p) != DP.seq p)
                                          (N AX.ret (mkF (70 : Nat) [])
                                            (mkS
                                              [some
                                                  (AObj.row false (1 : Nat) (0 : Nat) n fun i =>
                                                    [Value.int IntKind.u8 (g i)])]))
                                          (N AX.normal
                                            (mkF (70 : Nat)
                                              [((1 : Nat),
                                                  Value.slice
                                                    (some
                                                      { block := (0 : Nat), off := (0 : Nat), spot := some (0 : Nat) })
                                                    n c),
                                                ((5 : Nat), Value.int IntKind.i64 every),
                                                ((6 : Nat),
                                                  Value.pointer (some { block := (1 : Nat), off := (0 : Nat) })),
                                                ((7 : Nat), Value.int IntKind.i64 (DP.now p)),
                                                ((8 : Nat), Value.int IntKind.i64 (DP.seq p)),
                                                ((9 : Nat), Value.int IntKind.i64 (DP.due2 p)),
                                                ((10 : Nat),
                                                  Value.int IntKind.i64
                                                    (IntKind.wrap IntKind.i64 (Int.ofNat (DP.k p) + (1 : Int))))])
                                            (mkS
                                              [some
                                                  (AObj.row false (1 : Nat) (0 : Nat) n fun i =>
                                                    [Value.int IntKind.u8 (g i)]),
                                                some
                                                  (AObj.cells
                                                    [Value.int IntKind.i64 (1 : Int), Value.int IntKind.i64 (0 : Int),
                                                      Value.int IntKind.i64 every, Value.int IntKind.i64 (DP.due p),
                                                      Value.int IntKind.i64 (0 : Int), Value.int IntKind.i64 (0 : Int),
                                                      Value.float FloatKind.f64 (0 : Nat),
                                                      Value.int IntKind.i64 (99 : Int), Value.bool true, Value.bool false,
                                                      Value.int IntKind.i64 (3 : Int), Value.int IntKind.i64 (DP.li p),
                                                      Value.float FloatKind.f64 (0 : Nat),
                                                      Value.int IntKind.i64 (DP.seq p),
                                                      Value.slice
                                                        (some
                                                          { block := (2 : Nat), off := (0 : Nat),
                                                            spot := some (0 : Nat) })
                                                        (DP.m p) (1 : Nat)]
                                                    true (0 : Nat)),
                                                some
                                                  (AObj.row true (5 : Nat) (0 : Nat) (DP.m p) fun i =>
                                                    [Value.int IntKind.i64 (DP.qs p i), Value.int IntKind.i64 (DP.qk p i),
                                                      Value.int IntKind.i64 (DP.qi p i),
                                                      Value.float FloatKind.f64 (DP.qf p i),
                                                      Value.bool (DP.ql p i)])])))))
                              (br (IntKind.wrap IntKind.i64 (DP.seq p + (1 : Int)) != DP.seq p)
                                (N AX.ret (mkF (70 : Nat) [])
                                  (mkS
                                    [some (AObj.row false (1 : Nat) (0 : Nat) n fun i => [Value.int IntKind.u8 (g i)])]))
                                (br
                                  (IntKind.wrap IntKind.i64
                                      (DP.due p +
                                        IntKind.wrap IntKind.i64
                                          (IntKind.wrap IntKind.i64
                                              (IntKind.wrap IntKind.u64
                                                (IntKind.wrap IntKind.u64
                                                    (Int.tdiv
                                                      (IntKind.wrap IntKind.u64
                                                        (IntKind.wrap IntKind.u64
                                                            (IntKind.wrap IntKind.i64
                                                              (DP.now p +
                                                                IntKind.wrap IntKind.i64
                                                                  (Int.tmod
                                                                    (g ((0 : Nat) + Int.toNat (Int.ofNat (DP.k p))))
                                                                    (50 : Int)))) -
                                                          IntKind.wrap IntKind.u64 (DP.due p)))
                                                      (IntKind.wrap IntKind.u64 every)) +
                                                  (1 : Int))) *
                                            every)) !=
                                    DP.due2 p)
                                  (N AX.ret (mkF (70 : Nat) [])
                                    (mkS
                                      [some
                                          (AObj.row false (1 : Nat) (0 : Nat) n fun i => [Value.int IntKind.u8 (g i)])]))
                                  (br (Int.ofNat (DP.m p + (1 : Nat)) != DP.seq p)
                                    (N AX.ret (mkF (70 : Nat) [])
                                      (mkS
                                        [some
                                            (AObj.row false (1 : Nat) (0 : Nat) n fun i =>
                                              [Value.int IntKind.u8 (g i)])]))
                                    (N AX.normal
                                      (mkF (70 : Nat)
                                        [((1 : Nat),
                                            Value.slice
                                              (some { block := (0 : Nat), off := (0 : Nat), spot := some (0 : Nat) }) n
                                              c),
                                          ((5 : Nat), Value.int IntKind.i64 every),
                                          ((6 : Nat), Value.pointer (some { block := (1 : Nat), off := (0 : Nat) })),
                                          ((7 : Nat),
                                            Value.int IntKind.i64
                                              (IntKind.wrap IntKind.i64
                                                (DP.now p +
                                                  IntKind.wrap IntKind.i64
                                                    (Int.tmod (g ((0 : Nat) + Int.toNat (Int.ofNat (DP.k p))))
                                                      (50 : Int))))),
                                          ((8 : Nat), Value.int IntKind.i64 (DP.seq p)),
                                          ((9 : Nat), Value.int IntKind.i64 (DP.due2 p)),
                                          ((10 : Nat),
                                            Value.int IntKind.i64
                                              (IntKind.wrap IntKind.i64 (Int.ofNat (DP.k p) + (1 : Int))))])
                                      (mkS
                                        [some
                                            (AObj.row false (1 : Nat) (0 : Nat) n fun i => [Value.int IntKind.u8 (g i)]),
                                          some
                                            (AObj.cells
                                              [Value.int IntKind.i64 (1 : Int), Value.int IntKind.i64 (0 : Int),
                                                Value.int IntKind.i64 every,
                                                Value.int IntKind.i64
                                                  (IntKind.wrap IntKind.i64
                                                    (DP.due p +
                                                      IntKind.wrap IntKind.i64
                                                        (IntKind.wrap IntKind.i64
                                                            (IntKind.wrap IntKind.u64
                                                              (IntKind.wrap IntKind.u64
                                                                  (Int.tdiv
                                                                    (IntKind.wrap IntKind.u64
                                                                      (IntKind.wrap IntKind.u64
                                                                          (IntKind.wrap IntKind.i64
                                                                            (DP.now p +
                                                                              IntKind.wrap IntKind.i64
                                                                                (Int.tmod
                                                                                  (g
                                                                                    ((0 : Nat) +
                                                                                      Int.toNat (Int.ofNat (DP.k p))))
                                                                                  (50 : Int)))) -
                                                                        IntKind.wrap IntKind.u64 (DP.due p)))
                                                                    (IntKind.wrap IntKind.u64 every)) +
                                                                (1 : Int))) *
                                                          every))),
                                                Value.int IntKind.i64 (0 : Int), Value.int IntKind.i64 (0 : Int),
                                                Value.float FloatKind.f64 (0 : Nat), Value.int IntKind.i64 (99 : Int),
                                                Value.bool true, Value.bool false, Value.int IntKind.i64 (3 : Int),
                                                Value.int IntKind.i64 (Int.ofNat (DP.k p)),
                                                Value.float FloatKind.f64 (0 : Nat),
                                                Value.int IntKind.i64 (IntKind.wrap IntKind.i64 (DP.seq p + (1 : Int))),
                                                Value.slice
                                                  (some { block := (2 : Nat), off := (0 : Nat), spot := some (0 : Nat) })
                                                  (DP.m p + (1 : Nat)) (1 : Nat)]
                                              true (0 : Nat)),
                                          some
                                            (AObj.row true (5 : Nat) (0 : Nat) (DP.m p + (1 : Nat)) fun i =>
                                              [Value.int IntKind.i64
                                                  (bif Nat.blt i (DP.m p) then DP.qs p ((0 : Nat) + ((0 : Nat) + i))
                                                  else IntKind.wrap IntKind.i64 (DP.seq p + (1 : Int))),
                                                Value.int IntKind.i64
                                                  (bif Nat.blt i (DP.m p) then DP.qk p ((0 : Nat) + ((0 : Nat) + i))
                                                  else (3 : Int)),
                                                Value.int IntKind.i64
                                                  (bif Nat.blt i (DP.m p) then DP.qi p ((0 : Nat) + ((0 : Nat) + i))
                                                  else Int.ofNat (DP.k p)),
                                                Value.float FloatKind.f64
                                                  (bif Nat.blt i (DP.m p) then DP.qf p ((0 : Nat) + ((0 : Nat) + i))
                                                  else (0 : Nat)),
                                                Value.bool
                                                  (bif Nat.blt i (DP.m p) then DP.ql p ((0 : Nat) + ((0 : Nat) + i))
                                                  else false)])]))))))
                            (br (Int.ofNat (DP.m p + (1 : Nat) - (1 : Nat)) == (0 : Int))
                              (br
                                (decide
                                  (IntKind.wrap IntKind.i64
                                      (DP.now p +
                                        IntKind.wrap IntKind.i64
                                          (Int.tmod (g ((0 : Nat) + Int.toNat (Int.ofNat (DP.k p)))) (50 : Int))) ≥
                                    DP.due2 p))
                                (LoopJ Try.prog β (exIn n c g every Post) (2 : Nat)
                                    (loopOf Try.prog (4 : FuncId) (2 : Nat))
                                    (mkF (70 : Nat)
                                      [((1 : Nat),
                                          Value.slice
                                            (some { block := (0 : Nat), off := (0 : Nat), spot := some (0 : Nat) }) n c),
                                        ((5 : Nat), Value.int IntKind.i64 every),
                                        ((6 : Nat), Value.pointer (some { block := (1 : Nat), off := (0 : Nat) })),
                                        ((7 : Nat),
                                          Value.int IntKind.i64
                                            (IntKind.wrap IntKind.i64
                                              (DP.now p +
                                                IntKind.wrap IntKind.i64
                                                  (Int.tmod (g ((0 : Nat) + Int.toNat (Int.ofNat (DP.k p))))
                                                    (50 : Int))))),
                                        ((8 : Nat),
                                          Value.int IntKind.i64 (IntKind.wrap IntKind.i64 (DP.seq p + (1 : Int)))),
                                        ((9 : Nat), Value.int IntKind.i64 (DP.due2 p)),
                                        ((10 : Nat), Value.int IntKind.i64 (Int.ofNat (DP.k p)))])
                                    (mkS
                                      [some (AObj.row false (1 : Nat) (0 : Nat) n fun i => [Value.int IntKind.u8 (g i)]),
                                        some
                                          (AObj.cells
                                            [Value.int IntKind.i64 (1 : Int), Value.int IntKind.i64 (0 : Int),
                                              Value.int IntKind.i64 every,
                                              Value.int IntKind.i64
                                                (IntKind.wrap IntKind.i64
                                                  (DP.due p +
                                                    IntKind.wrap IntKind.i64
                                                      (IntKind.wrap IntKind.i64
                                                          (IntKind.wrap IntKind.u64
                                                            (IntKind.wrap IntKind.u64
                                                                (Int.tdiv
                                                                  (IntKind.wrap IntKind.u64
                                                                    (IntKind.wrap IntKind.u64
                                                                        (IntKind.wrap IntKind.i64
                                                                          (DP.now p +
                                                                            IntKind.wrap IntKind.i64
                                                                              (Int.tmod
                                                                                (g
                                                                                  ((0 : Nat) +
                                                                                    Int.toNat (Int.ofNat (DP.k p))))
                                                                                (50 : Int)))) -
                                                                      IntKind.wrap IntKind.u64 (DP.due p)))
                                                                  (IntKind.wrap IntKind.u64 every)) +
                                                              (1 : Int))) *
                                                        every))),
                                              Value.int IntKind.i64 (0 : Int), Value.int IntKind.i64 (0 : Int),
                                              Value.float FloatKind.f64 (0 : Nat), Value.int IntKind.i64 (99 : Int),
                                              Value.bool true, Value.bool true, Value.int IntKind.i64 (3 : Int),
                                              Value.int IntKind.i64 (Int.ofNat (DP.k p)),
                                              Value.float FloatKind.f64 (0 : Nat),
                                              Value.int IntKind.i64 (IntKind.wrap IntKind.i64 (DP.seq p + (1 : Int))),
                                              Value.slice
                                                (some { block := (2 : Nat), off := (0 : Nat), spot := some (1 : Nat) })
                                                (DP.m p + (1 : Nat) - (1 : Nat)) (0 : Nat)]
                                            true (0 : Nat)),
                                        some
                                          (AObj.row true (5 : Nat) (0 : Nat) (DP.m p + (1 : Nat)) fun i =>
                                            [Value.int IntKind.i64
                                                (bif Nat.blt i (DP.m p) then DP.qs p ((0 : Nat) + ((0 : Nat) + i))
                                                else IntKind.wrap IntKind.i64 (DP.seq p + (1 : Int))),
                                              Value.int IntKind.i64
                                                (bif Nat.blt i (DP.m p) then DP.qk p ((0 : Nat) + ((0 : Nat) + i))
                                                else (3 : Int)),
                                              Value.int IntKind.i64
                                                (bif Nat.blt i (DP.m p) then DP.qi p ((0 : Nat) + ((0 : Nat) + i))
                                                else Int.ofNat (DP.k p)),
                                              Value.float FloatKind.f64
                                                (bif Nat.blt i (DP.m p) then DP.qf p ((0 : Nat) + ((0 : Nat) + i))
                                                else (0 : Nat)),
                                              Value.bool
                                                (bif Nat.blt i (DP.m p) then DP.ql p ((0 : Nat) + ((0 : Nat) + i))
                                                else false)])]) ∧
                                  ∀ (p : DP),
                                    Post p →
                                      br (DP.seq p != DP.seq p)
                                        (N AX.ret (mkF (70 : Nat) [])
                                          (mkS
                                            [some
                                                (AObj.row false (1 : Nat) (0 : Nat) n fun i =>
                                                  [Value.int IntKind.u8 (g i)])]))
                                        (br (DP.due p != DP.due2 p)
                                          (N AX.ret (mkF (70 : Nat) [])
                                            (mkS
                                              [some
                                                  (AObj.row false (1 : Nat) (0 : Nat) n fun i =>
                                                    [Value.int IntKind.u8 (g i)])]))
                                          (br (Int.ofNat (DP.m p) != DP.seq p)
                                            (N AX.ret (mkF (70 : Nat) [])
                                              (mkS
                                                [some
                                                    (AObj.row false (1 : Nat) (0 : Nat) n fun i =>
                                                      [Value.int IntKind.u8 (g i)])]))
                                            (N AX.normal
                                              (mkF (70 : Nat)
                                                [((1 : Nat),
                                                    Value.slice
                                                      (some
                                                        { block := (0 : Nat), off := (0 : Nat), spot := some (0 : Nat) })
                                                      n c),
                                                  ((5 : Nat), Value.int IntKind.i64 every),
                                                  ((6 : Nat),
                                                    Value.pointer (some { block := (1 : Nat), off := (0 : Nat) })),
                                                  ((7 : Nat), Value.int IntKind.i64 (DP.now p)),
                                                  ((8 : Nat), Value.int IntKind.i64 (DP.seq p)),
                                                  ((9 : Nat), Value.int IntKind.i64 (DP.due2 p)),
                                                  ((10 : Nat),
                                                    Value.int IntKind.i64
                                                      (IntKind.wrap IntKind.i64 (Int.ofNat (DP.k p) + (1 : Int))))])
                                              (mkS
                                                [some
                                                    (AObj.row false (1 : Nat) (0 : Nat) n fun i =>
                                                      [Value.int IntKind.u8 (g i)]),
                                                  some
                                                    (AObj.cells
                                                      [Value.int IntKind.i64 (1 : Int), Value.int IntKind.i64 (0 : Int),
                                                        Value.int IntKind.i64 every, Value.int IntKind.i64 (DP.due p),
                                                        Value.int IntKind.i64 (0 : Int), Value.int IntKind.i64 (0 : Int),
                                                        Value.float FloatKind.f64 (0 : Nat),
                                                        Value.int IntKind.i64 (99 : Int), Value.bool true,
                                                        Value.bool false, Value.int IntKind.i64 (3 : Int),
                                                        Value.int IntKind.i64 (DP.li p),
                                                        Value.float FloatKind.f64 (0 : Nat),
                                                        Value.int IntKind.i64 (DP.seq p),
                                                        Value.slice
                                                          (some
                                                            { block := (2 : Nat), off := (0 : Nat),
                                                              spot := some (0 : Nat) })
                                                          (DP.m p) (1 : Nat)]
                                                      true (0 : Nat)),
                                                  some
                                                    (AObj.row true (5 : Nat) (0 : Nat) (DP.m p) fun i =>
                                                      [Value.int IntKind.i64 (DP.qs p i),
                                                        Value.int IntKind.i64 (DP.qk p i),
                                                        Value.int IntKind.i64 (DP.qi p i),
                                                        Value.float FloatKind.f64 (DP.qf p i),
                                                        Value.bool (DP.ql p i)])])))))
                                (br (IntKind.wrap IntKind.i64 (DP.seq p + (1 : Int)) != DP.seq p)
                                  (N AX.ret (mkF (70 : Nat) [])
                                    (mkS
                                      [some
                                          (AObj.row false (1 : Nat) (0 : Nat) n fun i => [Value.int IntKind.u8 (g i)])]))
                                  (br
                                    (IntKind.wrap IntKind.i64
                                        (DP.due p +
                                          IntKind.wrap IntKind.i64
                                            (IntKind.wrap IntKind.i64
                                                (IntKind.wrap IntKind.u64
                                                  (IntKind.wrap IntKind.u64
                                                      (Int.tdiv
                                                        (IntKind.wrap IntKind.u64
                                                          (IntKind.wrap IntKind.u64
                                                              (IntKind.wrap IntKind.i64
                                                                (DP.now p +
                                                                  IntKind.wrap IntKind.i64
                                                                    (Int.tmod
                                                                      (g ((0 : Nat) + Int.toNat (Int.ofNat (DP.k p))))
                                                                      (50 : Int)))) -
                                                            IntKind.wrap IntKind.u64 (DP.due p)))
                                                        (IntKind.wrap IntKind.u64 every)) +
                                                    (1 : Int))) *
                                              every)) !=
                                      DP.due2 p)
                                    (N AX.ret (mkF (70 : Nat) [])
                                      (mkS
                                        [some
                                            (AObj.row false (1 : Nat) (0 : Nat) n fun i =>
                                              [Value.int IntKind.u8 (g i)])]))
                                    (br (Int.ofNat (DP.m p + (1 : Nat) - (1 : Nat)) != DP.seq p)
                                      (N AX.ret (mkF (70 : Nat) [])
                                        (mkS
                                          [some
                                              (AObj.row false (1 : Nat) (0 : Nat) n fun i =>
                                                [Value.int IntKind.u8 (g i)])]))
                                      (N AX.normal
                                        (mkF (70 : Nat)
                                          [((1 : Nat),
                                              Value.slice
                                                (some { block := (0 : Nat), off := (0 : Nat), spot := some (0 : Nat) }) n
                                                c),
                                            ((5 : Nat), Value.int IntKind.i64 every),
                                            ((6 : Nat), Value.pointer (some { block := (1 : Nat), off := (0 : Nat) })),
                                            ((7 : Nat),
                                              Value.int IntKind.i64
                                                (IntKind.wrap IntKind.i64
                                                  (DP.now p +
                                                    IntKind.wrap IntKind.i64
                                                      (Int.tmod (g ((0 : Nat) + Int.toNat (Int.ofNat (DP.k p))))
                                                        (50 : Int))))),
                                            ((8 : Nat), Value.int IntKind.i64 (DP.seq p)),
                                            ((9 : Nat), Value.int IntKind.i64 (DP.due2 p)),
                                            ((10 : Nat),
                                              Value.int IntKind.i64
                                                (IntKind.wrap IntKind.i64 (Int.ofNat (DP.k p) + (1 : Int))))])
                                        (mkS
                                          [some
                                              (AObj.row false (1 : Nat) (0 : Nat) n fun i =>
                                                [Value.int IntKind.u8 (g i)]),
                                            some
                                              (AObj.cells
                                                [Value.int IntKind.i64 (1 : Int), Value.int IntKind.i64 (0 : Int),
                                                  Value.int IntKind.i64 every,
                                                  Value.int IntKind.i64
                                                    (IntKind.wrap IntKind.i64
                                                      (DP.due p +
                                                        IntKind.wrap IntKind.i64
                                                          (IntKind.wrap IntKind.i64
                                                              (IntKind.wrap IntKind.u64
                                                                (IntKind.wrap IntKind.u64
                                                                    (Int.tdiv
                                                                      (IntKind.wrap IntKind.u64
                                                                        (IntKind.wrap IntKind.u64
                                                                            (IntKind.wrap IntKind.i64
                                                                              (DP.now p +
                                                                                IntKind.wrap IntKind.i64
                                                                                  (Int.tmod
                                                                                    (g
                                                                                      ((0 : Nat) +
                                                                                        Int.toNat (Int.ofNat (DP.k p))))
                                                                                    (50 : Int)))) -
                                                                          IntKind.wrap IntKind.u64 (DP.due p)))
                                                                      (IntKind.wrap IntKind.u64 every)) +
                                                                  (1 : Int))) *
                                                            every))),
                                                  Value.int IntKind.i64 (0 : Int), Value.int IntKind.i64 (0 : Int),
                                                  Value.float FloatKind.f64 (0 : Nat), Value.int IntKind.i64 (99 : Int),
                                                  Value.bool true, Value.bool true, Value.int IntKind.i64 (3 : Int),
                                                  Value.int IntKind.i64 (Int.ofNat (DP.k p)),
                                                  Value.float FloatKind.f64 (0 : Nat),
                                                  Value.int IntKind.i64 (IntKind.wrap IntKind.i64 (DP.seq p + (1 : Int))),
                                                  Value.slice
                                                    (some
                                                      { block := (2 : Nat), off := (0 : Nat), spot := some (1 : Nat) })
                                                    (DP.m p + (1 : Nat) - (1 : Nat)) (0 : Nat)]
                                                true (0 : Nat)),
                                            some
                                              (AObj.row true (5 : Nat) (0 : Nat) (DP.m p + (1 : Nat)) fun i =>
                                                [Value.int IntKind.i64
                                                    (bif Nat.blt i (DP.m p) then DP.qs p ((0 : Nat) + ((0 : Nat) + i))
                                                    else IntKind.wrap IntKind.i64 (DP.seq p + (1 : Int))),
                                                  Value.int IntKind.i64
                                                    (bif Nat.blt i (DP.m p) then DP.qk p ((0 : Nat) + ((0 : Nat) + i))
                                                    else (3 : Int)),
                                                  Value.int IntKind.i64
                                                    (bif Nat.blt i (DP.m p) then DP.qi p ((0 : Nat) + ((0 : Nat) + i))
                                                    else Int.ofNat (DP.k p)),
                                                  Value.float FloatKind.f64
                                                    (bif Nat.blt i (DP.m p) then DP.qf p ((0 : Nat) + ((0 : Nat) + i))
                                                    else (0 : Nat)),
                                                  Value.bool
                                                    (bif Nat.blt i (DP.m p) then DP.ql p ((0 : Nat) + ((0 : Nat) + i))
                                                    else false)])]))))))
                              (need (Nat.blt (0 : Nat) (DP.m p + (1 : Nat) - (1 : Nat)))
                                (need (Nat.blt (1 : Nat) (DP.m p + (1 : Nat)))
                                  (br
                                    (decide
                                      (IntKind.wrap IntKind.i64
                                          (DP.now p +
                                            IntKind.wrap IntKind.i64
                                              (Int.tmod (g ((0 : Nat) + Int.toNat (Int.ofNat (DP.k p)))) (50 : Int))) ≥
                                        DP.due2 p))
                                    (LoopJ Try.prog β (exIn n c g every Post) (2 : Nat)
                                        (loopOf Try.prog (4 : FuncId) (2 : Nat))
                                        (mkF (70 : Nat)
                                          [((1 : Nat),
                                              Value.slice
                                                (some { block := (0 : Nat), off := (0 : Nat), spot := some (0 : Nat) }) n
                                                c),
                                            ((5 : Nat), Value.int IntKind.i64 every),
                                            ((6 : Nat), Value.pointer (some { block := (1 : Nat), off := (0 : Nat) })),
                                            ((7 : Nat),
                                              Value.int IntKind.i64
                                                (IntKind.wrap IntKind.i64
                                                  (DP.now p +
                                                    IntKind.wrap IntKind.i64
                                                      (Int.tmod (g ((0 : Nat) + Int.toNat (Int.ofNat (DP.k p))))
                                                        (50 : Int))))),
                                            ((8 : Nat),
                                              Value.int IntKind.i64 (IntKind.wrap IntKind.i64 (DP.seq p + (1 : Int)))),
                                            ((9 : Nat), Value.int IntKind.i64 (DP.due2 p)),
                                            ((10 : Nat), Value.int IntKind.i64 (Int.ofNat (DP.k p)))])
                                        (mkS
                                          [some
                                              (AObj.row false (1 : Nat) (0 : Nat) n fun i =>
                                                [Value.int IntKind.u8 (g i)]),
                                            some
                                              (AObj.cells
                                                [Value.int IntKind.i64 (1 : Int), Value.int IntKind.i64 (0 : Int),
                                                  Value.int IntKind.i64 every,
                                                  Value.int IntKind.i64
                                                    (IntKind.wrap IntKind.i64
                                                      (DP.due p +
                                                        IntKind.wrap IntKind.i64
                                                          (IntKind.wrap IntKind.i64
                                                              (IntKind.wrap IntKind.u64
                                                                (IntKind.wrap IntKind.u64
                                                                    (Int.tdiv
                                                                      (IntKind.wrap IntKind.u64
                                                                        (IntKind.wrap IntKind.u64
                                                                            (IntKind.wrap IntKind.i64
                                                                              (DP.now p +
                                                                                IntKind.wrap IntKind.i64
                                                                                  (Int.tmod
                                                                                    (g
                                                                                      ((0 : Nat) +
                                                                                        Int.toNat (Int.ofNat (DP.k p))))
                                                                                    (50 : Int)))) -
                                                                          IntKind.wrap IntKind.u64 (DP.due p)))
                                                                      (IntKind.wrap IntKind.u64 every)) +
                                                                  (1 : Int))) *
                                                            every))),
                                                  Value.int IntKind.i64 (0 : Int), Value.int IntKind.i64 (0 : Int),
                                                  Value.float FloatKind.f64 (0 : Nat), Value.int IntKind.i64 (99 : Int),
                                                  Value.bool true, Value.bool false, Value.int IntKind.i64 (3 : Int),
                                                  Value.int IntKind.i64 (Int.ofNat (DP.k p)),
                                                  Value.float FloatKind.f64 (0 : Nat),
                                                  Value.int IntKind.i64 (IntKind.wrap IntKind.i64 (DP.seq p + (1 : Int))),
                                                  Value.slice
                                                    (some
                                                      { block := (2 : Nat), off := (0 : Nat), spot := some (1 : Nat) })
                                                    (DP.m p + (1 : Nat) - (1 : Nat)) (0 : Nat)]
                                                true (0 : Nat)),
                                            some
                                              (AObj.row true (5 : Nat) (0 : Nat) (DP.m p + (1 : Nat)) fun i =>
                                                [Value.int IntKind.i64
                                                    (bif Nat.beq i (1 : Nat) then
                                                      bif Nat.blt (1 : Nat) (DP.m p) then DP.qs p (1 : Nat)
                                                      else IntKind.wrap IntKind.i64 (DP.seq p + (1 : Int))
                                                    else
                                                      bif Nat.blt i (DP.m p) then DP.qs p ((0 : Nat) + ((0 : Nat) + i))
                                                      else IntKind.wrap IntKind.i64 (DP.seq p + (1 : Int))),
                                                  Value.int IntKind.i64
                                                    (bif Nat.beq i (1 : Nat) then
                                                      bif Nat.blt (1 : Nat) (DP.m p) then DP.qk p (1 : Nat) else (3 : Int)
                                                    else
                                                      bif Nat.blt i (DP.m p) then DP.qk p ((0 : Nat) + ((0 : Nat) + i))
                                                      else (3 : Int)),
                                                  Value.int IntKind.i64
                                                    (bif Nat.beq i (1 : Nat) then
                                                      bif Nat.blt (1 : Nat) (DP.m p) then DP.qi p (1 : Nat)
                                                      else Int.ofNat (DP.k p)
                                                    else
                                                      bif Nat.blt i (DP.m p) then DP.qi p ((0 : Nat) + ((0 : Nat) + i))
                                                      else Int.ofNat (DP.k p)),
                                                  Value.float FloatKind.f64
                                                    (bif Nat.beq i (1 : Nat) then
                                                      bif Nat.blt (1 : Nat) (DP.m p) then DP.qf p (1 : Nat) else (0 : Nat)
                                                    else
                                                      bif Nat.blt i (DP.m p) then DP.qf p ((0 : Nat) + ((0 : Nat) + i))
                                                      else (0 : Nat)),
                                                  Value.bool
                                                    (bif Nat.beq i (1 : Nat) then true
                                                    else
                                                      bif Nat.blt i (DP.m p) then DP.ql p ((0 : Nat) + ((0 : Nat) + i))
                                                      else false)])]) ∧
                                      ∀ (p : DP),
                                        Post p →
                                          br (DP.seq p != DP.seq p)
                                            (N AX.ret (mkF (70 : Nat) [])
                                              (mkS
                                                [some
                                                    (AObj.row false (1 : Nat) (0 : Nat) n fun i =>
                                                      [Value.int IntKind.u8 (g i)])]))
                                            (br (DP.due p != DP.due2 p)
                                              (N AX.ret (mkF (70 : Nat) [])
                                                (mkS
                                                  [some
                                                      (AObj.row false (1 : Nat) (0 : Nat) n fun i =>
                                                        [Value.int IntKind.u8 (g i)])]))
                                              (br (Int.ofNat (DP.m p) != DP.seq p)
                                                (N AX.ret (mkF (70 : Nat) [])
                                                  (mkS
                                                    [some
                                                        (AObj.row false (1 : Nat) (0 : Nat) n fun i =>
                                                          [Value.int IntKind.u8 (g i)])]))
                                                (N AX.normal
                                                  (mkF (70 : Nat)
                                                    [((1 : Nat),
                                                        Value.slice
                                                          (some
                                                            { block := (0 : Nat), off := (0 : Nat),
                                                              spot := some (0 : Nat) })
                                                          n c),
                                                      ((5 : Nat), Value.int IntKind.i64 every),
                                                      ((6 : Nat),
                                                        Value.pointer (some { block := (1 : Nat), off := (0 : Nat) })),
                                                      ((7 : Nat), Value.int IntKind.i64 (DP.now p)),
                                                      ((8 : Nat), Value.int IntKind.i64 (DP.seq p)),
                                                      ((9 : Nat), Value.int IntKind.i64 (DP.due2 p)),
                                                      ((10 : Nat),
                                                        Value.int IntKind.i64
                                                          (IntKind.wrap IntKind.i64 (Int.ofNat (DP.k p) + (1 : Int))))])
                                                  (mkS
                                                    [some
                                                        (AObj.row false (1 : Nat) (0 : Nat) n fun i =>
                                                          [Value.int IntKind.u8 (g i)]),
                                                      some
                                                        (AObj.cells
                                                          [Value.int IntKind.i64 (1 : Int),
                                                            Value.int IntKind.i64 (0 : Int), Value.int IntKind.i64 every,
                                                            Value.int IntKind.i64 (DP.due p),
                                                            Value.int IntKind.i64 (0 : Int),
                                                            Value.int IntKind.i64 (0 : Int),
                                                            Value.float FloatKind.f64 (0 : Nat),
                                                            Value.int IntKind.i64 (99 : Int), Value.bool true,
                                                            Value.bool false, Value.int IntKind.i64 (3 : Int),
                                                            Value.int IntKind.i64 (DP.li p),
                                                            Value.float FloatKind.f64 (0 : Nat),
                                                            Value.int IntKind.i64 (DP.seq p),
                                                            Value.slice
                                                              (some
                                                                { block := (2 : Nat), off := (0 : Nat),
                                                                  spot := some (0 : Nat) })
                                                              (DP.m p) (1 : Nat)]
                                                          true (0 : Nat)),
                                                      some
                                                        (AObj.row true (5 : Nat) (0 : Nat) (DP.m p) fun i =>
                                                          [Value.int IntKind.i64 (DP.qs p i),
                                                            Value.int IntKind.i64 (DP.qk p i),
                                                            Value.int IntKind.i64 (DP.qi p i),
                                                            Value.float FloatKind.f64 (DP.qf p i),
                                                            Value.bool (DP.ql p i)])])))))
                                    (br (IntKind.wrap IntKind.i64 (DP.seq p + (1 : Int)) != DP.seq p)
                                      (N AX.ret (mkF (70 : Nat) [])
                                        (mkS
                                          [some
                                              (AObj.row false (1 : Nat) (0 : Nat) n fun i =>
                                                [Value.int IntKind.u8 (g i)])]))
                                      (br
                                        (IntKind.wrap IntKind.i64
                                            (DP.due p +
                                              IntKind.wrap IntKind.i64
                                                (IntKind.wrap IntKind.i64
                                                    (IntKind.wrap IntKind.u64
                                                      (IntKind.wrap IntKind.u64
                                                          (Int.tdiv
                                                            (IntKind.wrap IntKind.u64
                                                              (IntKind.wrap IntKind.u64
                                                                  (IntKind.wrap IntKind.i64
                                                                    (DP.now p +
                                                                      IntKind.wrap IntKind.i64
                                                                        (Int.tmod
                                                                          (g ((0 : Nat) + Int.toNat (Int.ofNat (DP.k p))))
                                                                          (50 : Int)))) -
                                                                IntKind.wrap IntKind.u64 (DP.due p)))
                                                            (IntKind.wrap IntKind.u64 every)) +
                                                        (1 : Int))) *
                                                  every)) !=
                                          DP.due2 p)
                                        (N AX.ret (mkF (70 : Nat) [])
                                          (mkS
                                            [some
                                                (AObj.row false (1 : Nat) (0 : Nat) n fun i =>
                                                  [Value.int IntKind.u8 (g i)])]))
                                        (br (Int.ofNat (DP.m p + (1 : Nat) - (1 : Nat)) != DP.seq p)
                                          (N AX.ret (mkF (70 : Nat) [])
                                            (mkS
                                              [some
                                                  (AObj.row false (1 : Nat) (0 : Nat) n fun i =>
                                                    [Value.int IntKind.u8 (g i)])]))
                                          (N AX.normal
                                            (mkF (70 : Nat)
                                              [((1 : Nat),
                                                  Value.slice
                                                    (some
                                                      { block := (0 : Nat), off := (0 : Nat), spot := some (0 : Nat) })
                                                    n c),
                                                ((5 : Nat), Value.int IntKind.i64 every),
                                                ((6 : Nat),
                                                  Value.pointer (some { block := (1 : Nat), off := (0 : Nat) })),
                                                ((7 : Nat),
                                                  Value.int IntKind.i64
                                                    (IntKind.wrap IntKind.i64
                                                      (DP.now p +
                                                        IntKind.wrap IntKind.i64
                                                          (Int.tmod (g ((0 : Nat) + Int.toNat (Int.ofNat (DP.k p))))
                                                            (50 : Int))))),
                                                ((8 : Nat), Value.int IntKind.i64 (DP.seq p)),
                                                ((9 : Nat), Value.int IntKind.i64 (DP.due2 p)),
                                                ((10 : Nat),
                                                  Value.int IntKind.i64
                                                    (IntKind.wrap IntKind.i64 (Int.ofNat (DP.k p) + (1 : Int))))])
                                            (mkS
                                              [some
                                                  (AObj.row false (1 : Nat) (0 : Nat) n fun i =>
                                                    [Value.int IntKind.u8 (g i)]),
                                                some
                                                  (AObj.cells
                                                    [Value.int IntKind.i64 (1 : Int), Value.int IntKind.i64 (0 : Int),
                                                      Value.int IntKind.i64 every,
                                                      Value.int IntKind.i64
                                                        (IntKind.wrap IntKind.i64
                                                          (DP.due p +
                                                            IntKind.wrap IntKind.i64
                                                              (IntKind.wrap IntKind.i64
                                                                  (IntKind.wrap IntKind.u64
                                                                    (IntKind.wrap IntKind.u64
                                                                        (Int.tdiv
                                                                          (IntKind.wrap IntKind.u64
                                                                            (IntKind.wrap IntKind.u64
                                                                                (IntKind.wrap IntKind.i64
                                                                                  (DP.now p +
                                                                                    IntKind.wrap IntKind.i64
                                                                                      (Int.tmod
                                                                                        (g
                                                                                          ((0 : Nat) +
                                                                                            Int.toNat
                                                                                              (Int.ofNat (DP.k p))))
                                                                                        (50 : Int)))) -
                                                                              IntKind.wrap IntKind.u64 (DP.due p)))
                                                                          (IntKind.wrap IntKind.u64 every)) +
                                                                      (1 : Int))) *
                                                                every))),
                                                      Value.int IntKind.i64 (0 : Int), Value.int IntKind.i64 (0 : Int),
                                                      Value.float FloatKind.f64 (0 : Nat),
                                                      Value.int IntKind.i64 (99 : Int), Value.bool true, Value.bool false,
                                                      Value.int IntKind.i64 (3 : Int),
                                                      Value.int IntKind.i64 (Int.ofNat (DP.k p)),
                                                      Value.float FloatKind.f64 (0 : Nat),
                                                      Value.int IntKind.i64
                                                        (IntKind.wrap IntKind.i64 (DP.seq p + (1 : Int))),
                                                      Value.slice
                                                        (some
                                                          { block := (2 : Nat), off := (0 : Nat),
                                                            spot := some (1 : Nat) })
                                                        (DP.m p + (1 : Nat) - (1 : Nat)) (0 : Nat)]
                                                    true (0 : Nat)),
                                                some
                                                  (AObj.row true (5 : Nat) (0 : Nat) (DP.m p + (1 : Nat)) fun i =>
                                                    [Value.int IntKind.i64
                                                        (bif Nat.beq i (1 : Nat) then
                                                          bif Nat.blt (1 : Nat) (DP.m p) then DP.qs p (1 : Nat)
                                                          else IntKind.wrap IntKind.i64 (DP.seq p + (1 : Int))
                                                        else
                                                          bif Nat.blt i (DP.m p) then
                                                            DP.qs p ((0 : Nat) + ((0 : Nat) + i))
                                                          else IntKind.wrap IntKind.i64 (DP.seq p + (1 : Int))),
                                                      Value.int IntKind.i64
                                                        (bif Nat.beq i (1 : Nat) then
                                                          bif Nat.blt (1 : Nat) (DP.m p) then DP.qk p (1 : Nat)
                                                          else (3 : Int)
                                                        else
                                                          bif Nat.blt i (DP.m p) then
                                                            DP.qk p ((0 : Nat) + ((0 : Nat) + i))
                                                          else (3 : Int)),
                                                      Value.int IntKind.i64
                                                        (bif Nat.beq i (1 : Nat) then
                                                          bif Nat.blt (1 : Nat) (DP.m p) then DP.qi p (1 : Nat)
                                                          else Int.ofNat (DP.k p)
                                                        else
                                                          bif Nat.blt i (DP.m p) then
                                                            DP.qi p ((0 : Nat) + ((0 : Nat) + i))
                                                          else Int.ofNat (DP.k p)),
                                                      Value.float FloatKind.f64
                                                        (bif Nat.beq i (1 : Nat) then
                                                          bif Nat.blt (1 : Nat) (DP.m p) then DP.qf p (1 : Nat)
                                                          else (0 : Nat)
                                                        else
                                                          bif Nat.blt i (DP.m p) then
                                                            DP.qf p ((0 : Nat) + ((0 : Nat) + i))
                                                          else (0 : Nat)),
                                                      Value.bool
                                                        (bif Nat.beq i (1 : Nat) then true
                                                        else
                                                          bif Nat.blt i (DP.m p) then
                                                            DP.ql p ((0 : Nat) + ((0 : Nat) + i))
                                                          else false)])])))))))))))))))))))))
    (N (AX.exit (0 : Nat)) (mkF (70 : Nat) [])
      (mkS [some (AObj.row false (1 : Nat) (0 : Nat) n fun i => [Value.int IntKind.u8 (g i)])]))) := by kernel_rfl
theorem vc_due_in (n c : Nat) (g : Nat → Int) (every : Int) (seq : Int) (p : DP) (β : Bs) (N : Kt) (ex : Nat → Kt → Prop) : roundJ Try.prog toldB 100 20 β (fun _ => 0) (cnOf 1 fun _ => [1, 5, 6, 7, 8, 9, 10]) ex 4 2 1 (fun _ => [1, 5, 6, 7, 8, 9, 10])
    (FD n c every seq p) (SD n g every true 3 p) N =
(  br (decide (DP.due2 p ≤ DP.now p))
    (N AX.normal
      (mkF (70 : Nat)
        [((1 : Nat), Value.slice (some { block := (0 : Nat), off := (0 : Nat), spot := some (0 : Nat) }) n c),
          ((5 : Nat), Value.int IntKind.i64 every),
          ((6 : Nat), Value.pointer (some { block := (1 : Nat), off := (0 : Nat) })),
          ((7 : Nat), Value.int IntKind.i64 (DP.now p)), ((8 : Nat), Value.int IntKind.i64 seq),
          ((9 : Nat), Value.int IntKind.i64 (IntKind.wrap IntKind.i64 (DP.due2 p + every))),
          ((10 : Nat), Value.int IntKind.i64 (Int.ofNat (DP.k p)))])
      (mkS
        [some (AObj.row false (1 : Nat) (0 : Nat) n fun i => [Value.int IntKind.u8 (g i)]),
          some
            (AObj.cells
              [Value.int IntKind.i64 (1 : Int), Value.int IntKind.i64 (0 : Int), Value.int IntKind.i64 every,
                Value.int IntKind.i64 (DP.due p), Value.int IntKind.i64 (0 : Int), Value.int IntKind.i64 (0 : Int),
                Value.float FloatKind.f64 (0 : Nat), Value.int IntKind.i64 (99 : Int), Value.bool true, Value.bool false,
                Value.int IntKind.i64 (3 : Int), Value.int IntKind.i64 (DP.li p), Value.float FloatKind.f64 (0 : Nat),
                Value.int IntKind.i64 (DP.seq p),
                Value.slice (some { block := (2 : Nat), off := (0 : Nat), spot := some (0 : Nat) }) (DP.m p) (1 : Nat)]
              true (0 : Nat)),
          some
            (AObj.row true (5 : Nat) (0 : Nat) (DP.m p) fun i =>
              [Value.int IntKind.i64 (DP.qs p i), Value.int IntKind.i64 (DP.qk p i), Value.int IntKind.i64 (DP.qi p i),
                Value.float FloatKind.f64 (DP.qf p i), Value.bool (DP.ql p i)])]))
    (N (AX.exit (2 : Nat))
      (mkF (70 : Nat)
        [((1 : Nat), Value.slice (some { block := (0 : Nat), off := (0 : Nat), spot := some (0 : Nat) }) n c),
          ((5 : Nat), Value.int IntKind.i64 every),
          ((6 : Nat), Value.pointer (some { block := (1 : Nat), off := (0 : Nat) })),
          ((7 : Nat), Value.int IntKind.i64 (DP.now p)), ((8 : Nat), Value.int IntKind.i64 seq),
          ((9 : Nat), Value.int IntKind.i64 (DP.due2 p)), ((10 : Nat), Value.int IntKind.i64 (Int.ofNat (DP.k p)))])
      (mkS
        [some (AObj.row false (1 : Nat) (0 : Nat) n fun i => [Value.int IntKind.u8 (g i)]),
          some
            (AObj.cells
              [Value.int IntKind.i64 (1 : Int), Value.int IntKind.i64 (0 : Int), Value.int IntKind.i64 every,
                Value.int IntKind.i64 (DP.due p), Value.int IntKind.i64 (0 : Int), Value.int IntKind.i64 (0 : Int),
                Value.float FloatKind.f64 (0 : Nat), Value.int IntKind.i64 (99 : Int), Value.bool true, Value.bool false,
                Value.int IntKind.i64 (3 : Int), Value.int IntKind.i64 (DP.li p), Value.float FloatKind.f64 (0 : Nat),
                Value.int IntKind.i64 (DP.seq p),
                Value.slice (some { block := (2 : Nat), off := (0 : Nat), spot := some (0 : Nat) }) (DP.m p) (1 : Nat)]
              true (0 : Nat)),
          some
            (AObj.row true (5 : Nat) (0 : Nat) (DP.m p) fun i =>
              [Value.int IntKind.i64 (DP.qs p i), Value.int IntKind.i64 (DP.qk p i), Value.int IntKind.i64 (DP.qi p i),
                Value.float FloatKind.f64 (DP.qf p i), Value.bool (DP.ql p i)])]))) := by kernel_rfl
end Go.Proofs.Ytlbccgoheiaheaa.Ev
