/-
  What has to hold: printed by the evaluator.
-/
import Derived.Test.YtaceobjppcmhjaaTimS
set_option linter.unusedVariables false
set_option maxRecDepth 1000000
namespace Go.Proofs.Ytaceobjppcmhjaa.Ev
open Go Go.Proofs
/-- the cells of a timer -/
def cell4 (q et on at_ : Int) : List Value := [.int .i64 1, .int .i64 q, .float .f64 0, .int .i64 4, .int .i64 et, .float .f64 0, .int .i64 1, .int .i64 on, .float .f64 0, .int .i64 4, .int .i64 at_, .float .f64 0]
theorem vc_pu (n : Nat) (g : Nat → Bool) (pt : Int) (β : Bs) : lawJ Try.prog toldB 100 20 β (fun _ => 0) (cnOf 1 fun _ => [0, 5, 6, 7, 8, 9]) (exEnd 78 [some (boolRow n g)]) 5 [.slice (some ⟨0, 0, some 0⟩) n n, .int .u8 pt] (mkS [some (boolRow n g)]) trueV =
  br (decide (Int.ofNat n > (40 : Int))) True
    (LoopJ Try.prog β (exEnd (78 : Nat) [some (boolRow n g)]) (0 : Nat) (loopOf Try.prog (5 : FuncId) (0 : Nat))
        (mkF (78 : Nat)
          [((0 : Nat), Value.slice (some { block := (0 : Nat), off := (0 : Nat), spot := some (0 : Nat) }) n n),
            ((5 : Nat), Value.int IntKind.i64 (IntKind.wrap IntKind.i64 (Int.tmod pt (10 : Int)))),
            ((6 : Nat), Value.slice (some { block := (1 : Nat), off := (0 : Nat) }) (4 : Nat) (4 : Nat)),
            ((7 : Nat), Value.int IntKind.i64 (0 : Int)), ((8 : Nat), Value.bool false),
            ((9 : Nat), Value.int IntKind.i64 (0 : Int))])
        (mkS
          [some (AObj.row (1 : Nat) (0 : Nat) n fun i => [Value.bool (g i)]),
            some
              (AObj.cells
                [Value.int IntKind.i64 (1 : Int), Value.int IntKind.i64 (0 : Int), Value.float FloatKind.f64 (0 : Nat),
                  Value.int IntKind.i64 (4 : Int), Value.int IntKind.i64 (0 : Int), Value.float FloatKind.f64 (0 : Nat),
                  Value.int IntKind.i64 (1 : Int), Value.int IntKind.i64 (0 : Int), Value.float FloatKind.f64 (0 : Nat),
                  Value.int IntKind.i64 (4 : Int), Value.int IntKind.i64 (0 : Int), Value.float FloatKind.f64 (0 : Nat)]
                true (0 : Nat))]) ∧
      True) := by kernel_rfl
theorem vc_pu_tt (n k h : Nat) (d : Int) (q et start : Int) (β : Bs) (N : Kt) (ex : Nat → Kt → Prop) : roundJ Try.prog toldB 100 20 β (fun _ => 20) (cnOf 1 fun _ => []) ex 5 0 1 (lvOf [0, 5, 6, 7, 8, 9])
    (mkF 78 [(0, .slice (some ⟨0, 0, some 0⟩) n n), (5, .int .i64 d), (6, .slice (some ⟨1, 0, none⟩) 4 4), (7, .int .i64 start), (8, .bool true), (9, .int .i64 (Int.ofNat k))])
    (mkS [some (oneB k h true), some (.cells (cell4 q et 1 start) true 0)]) N =
  br (decide (Int.ofNat k < Int.ofNat n))
    (need (Nat.blt (Int.toNat (Int.ofNat k)) n)
      (need (Nat.ble k ((0 : Nat) + Int.toNat (Int.ofNat k)) && Nat.blt ((0 : Nat) + Int.toNat (Int.ofNat k)) h)
        (br (decide (Int.ofNat k > start))
          (br
            (!!IntKind.wrap IntKind.i64
                    (if
                        IntKind.wrap IntKind.u64 (if (0 : Int) > d then (0 : Int) else d) <
                          IntKind.wrap IntKind.u64
                            (IntKind.wrap IntKind.u64 (Int.ofNat k) - IntKind.wrap IntKind.u64 start) then
                      IntKind.wrap IntKind.u64 (if (0 : Int) > d then (0 : Int) else d)
                    else
                      IntKind.wrap IntKind.u64
                        (IntKind.wrap IntKind.u64 (Int.ofNat k) - IntKind.wrap IntKind.u64 start)) ==
                  if (0 : Int) > d then (0 : Int) else d)
            (br
              (!!IntKind.wrap IntKind.i64
                      (if
                          IntKind.wrap IntKind.u64 (if (0 : Int) > d then (0 : Int) else d) <
                            IntKind.wrap IntKind.u64
                              (IntKind.wrap IntKind.u64 (Int.ofNat k) - IntKind.wrap IntKind.u64 start) then
                        IntKind.wrap IntKind.u64 (if (0 : Int) > d then (0 : Int) else d)
                      else
                        IntKind.wrap IntKind.u64
                          (IntKind.wrap IntKind.u64 (Int.ofNat k) - IntKind.wrap IntKind.u64 start)) ==
                    if (0 : Int) > d then (0 : Int) else d)
              (br
                (!!IntKind.wrap IntKind.i64
                        (if
                            IntKind.wrap IntKind.u64 (if (0 : Int) > d then (0 : Int) else d) <
                              IntKind.wrap IntKind.u64
                                (IntKind.wrap IntKind.u64 (Int.ofNat k) - IntKind.wrap IntKind.u64 start) then
                          IntKind.wrap IntKind.u64 (if (0 : Int) > d then (0 : Int) else d)
                        else
                          IntKind.wrap IntKind.u64
                            (IntKind.wrap IntKind.u64 (Int.ofNat k) - IntKind.wrap IntKind.u64 start)) ==
                      if (0 : Int) > d then (0 : Int) else d)
                (br
                  (!IntKind.wrap IntKind.i64
                        (if
                            IntKind.wrap IntKind.u64 (if (0 : Int) > d then (0 : Int) else d) <
                              IntKind.wrap IntKind.u64
                                (IntKind.wrap IntKind.u64 (Int.ofNat k) - IntKind.wrap IntKind.u64 start) then
                          IntKind.wrap IntKind.u64 (if (0 : Int) > d then (0 : Int) else d)
                        else
                          IntKind.wrap IntKind.u64
                            (IntKind.wrap IntKind.u64 (Int.ofNat k) - IntKind.wrap IntKind.u64 start)) ==
                      if (0 : Int) > d then (0 : Int) else d)
                  (br (!true == decide (IntKind.wrap IntKind.i64 (Int.ofNat k - start) < d))
                    (N AX.ret (mkF (78 : Nat) []) (mkS [some (AObj.row (1 : Nat) k h fun i => [Value.bool true])]))
                    (br (decide (IntKind.wrap IntKind.i64 (Int.ofNat k - start) ≥ d))
                      (need (Nat.blt (Int.toNat (Int.ofNat k)) n)
                        (need
                          (Nat.ble k ((0 : Nat) + Int.toNat (Int.ofNat k)) &&
                            Nat.blt ((0 : Nat) + Int.toNat (Int.ofNat k)) h)
                          (N AX.normal
                            (mkF (78 : Nat)
                              [((0 : Nat),
                                  Value.slice (some { block := (0 : Nat), off := (0 : Nat), spot := some (0 : Nat) }) n
                                    n),
                                ((5 : Nat), Value.int IntKind.i64 d),
                                ((6 : Nat),
                                  Value.slice (some { block := (1 : Nat), off := (0 : Nat) }) (4 : Nat) (4 : Nat)),
                                ((7 : Nat), Value.int IntKind.i64 start), ((8 : Nat), Value.bool true),
                                ((9 : Nat), Value.int IntKind.i64 (IntKind.wrap IntKind.i64 (Int.ofNat k + (1 : Int))))])
                            (mkS
                              [some (AObj.row (1 : Nat) k h fun i => [Value.bool true]),
                                some
                                  (AObj.cells
                                    [Value.int IntKind.i64 (1 : Int), Value.int IntKind.i64 (1 : Int),
                                      Value.float FloatKind.f64 (0 : Nat), Value.int IntKind.i64 (4 : Int),
                                      Value.int IntKind.i64
                                        (IntKind.wrap IntKind.i64
                                          (if
                                              IntKind.wrap IntKind.u64 (if (0 : Int) > d then (0 : Int) else d) <
                                                IntKind.wrap IntKind.u64
                                                  (IntKind.wrap IntKind.u64 (Int.ofNat k) -
                                                    IntKind.wrap IntKind.u64 start) then
                                            IntKind.wrap IntKind.u64 (if (0 : Int) > d then (0 : Int) else d)
                                          else
                                            IntKind.wrap IntKind.u64
                                              (IntKind.wrap IntKind.u64 (Int.ofNat k) - IntKind.wrap IntKind.u64 start))),
                                      Value.float FloatKind.f64 (0 : Nat), Value.int IntKind.i64 (1 : Int),
                                      Value.int IntKind.i64 (1 : Int), Value.float FloatKind.f64 (0 : Nat),
                                      Value.int IntKind.i64 (4 : Int), Value.int IntKind.i64 start,
                                      Value.float FloatKind.f64 (0 : Nat)]
                                    true (0 : Nat))]))))
                      (N AX.normal
                        (mkF (78 : Nat)
                          [((0 : Nat),
                              Value.slice (some { block := (0 : Nat), off := (0 : Nat), spot := some (0 : Nat) }) n n),
                            ((5 : Nat), Value.int IntKind.i64 d),
                            ((6 : Nat), Value.slice (some { block := (1 : Nat), off := (0 : Nat) }) (4 : Nat) (4 : Nat)),
                            ((7 : Nat), Value.int IntKind.i64 start), ((8 : Nat), Value.bool true),
                            ((9 : Nat), Value.int IntKind.i64 (IntKind.wrap IntKind.i64 (Int.ofNat k + (1 : Int))))])
                        (mkS
                          [some (AObj.row (1 : Nat) k h fun i => [Value.bool true]),
                            some
                              (AObj.cells
                                [Value.int IntKind.i64 (1 : Int), Value.int IntKind.i64 (1 : Int),
                                  Value.float FloatKind.f64 (0 : Nat), Value.int IntKind.i64 (4 : Int),
                                  Value.int IntKind.i64
                                    (IntKind.wrap IntKind.i64
                                      (if
                                          IntKind.wrap IntKind.u64 (if (0 : Int) > d then (0 : Int) else d) <
                                            IntKind.wrap IntKind.u64
                                              (IntKind.wrap IntKind.u64 (Int.ofNat k) -
                                                IntKind.wrap IntKind.u64 start) then
                                        IntKind.wrap IntKind.u64 (if (0 : Int) > d then (0 : Int) else d)
                                      else
                                        IntKind.wrap IntKind.u64
                                          (IntKind.wrap IntKind.u64 (Int.ofNat k) - IntKind.wrap IntKind.u64 start))),
                                  Value.float FloatKind.f64 (0 : Nat), Value.int IntKind.i64 (1 : Int),
                                  Value.int IntKind.i64 (1 : Int), Value.float FloatKind.f64 (0 : Nat),
                                  Value.int IntKind.i64 (4 : Int), Value.int IntKind.i64 start,
                                  Value.float FloatKind.f64 (0 : Nat)]
                                true (0 : Nat))]))))
                  (br (!false == decide (IntKind.wrap IntKind.i64 (Int.ofNat k - start) < d))
                    (N AX.ret (mkF (78 : Nat) []) (mkS [some (AObj.row (1 : Nat) k h fun i => [Value.bool true])]))
                    (br (decide (IntKind.wrap IntKind.i64 (Int.ofNat k - start) ≥ d))
                      (need (Nat.blt (Int.toNat (Int.ofNat k)) n)
                        (need
                          (Nat.ble k ((0 : Nat) + Int.toNat (Int.ofNat k)) &&
                            Nat.blt ((0 : Nat) + Int.toNat (Int.ofNat k)) h)
                          (N AX.normal
                            (mkF (78 : Nat)
                              [((0 : Nat),
                                  Value.slice (some { block := (0 : Nat), off := (0 : Nat), spot := some (0 : Nat) }) n
                                    n),
                                ((5 : Nat), Value.int IntKind.i64 d),
                                ((6 : Nat),
                                  Value.slice (some { block := (1 : Nat), off := (0 : Nat) }) (4 : Nat) (4 : Nat)),
                                ((7 : Nat), Value.int IntKind.i64 start), ((8 : Nat), Value.bool true),
                                ((9 : Nat), Value.int IntKind.i64 (IntKind.wrap IntKind.i64 (Int.ofNat k + (1 : Int))))])
                            (mkS
                              [some (AObj.row (1 : Nat) k h fun i => [Value.bool true]),
                                some
                                  (AObj.cells
                                    [Value.int IntKind.i64 (1 : Int), Value.int IntKind.i64 (0 : Int),
                                      Value.float FloatKind.f64 (0 : Nat), Value.int IntKind.i64 (4 : Int),
                                      Value.int IntKind.i64
                                        (IntKind.wrap IntKind.i64
                                          (if
                                              IntKind.wrap IntKind.u64 (if (0 : Int) > d then (0 : Int) else d) <
                                                IntKind.wrap IntKind.u64
                                                  (IntKind.wrap IntKind.u64 (Int.ofNat k) -
                                                    IntKind.wrap IntKind.u64 start) then
                                            IntKind.wrap IntKind.u64 (if (0 : Int) > d then (0 : Int) else d)
                                          else
                                            IntKind.wrap IntKind.u64
                                              (IntKind.wrap IntKind.u64 (Int.ofNat k) - IntKind.wrap IntKind.u64 start))),
                                      Value.float FloatKind.f64 (0 : Nat), Value.int IntKind.i64 (1 : Int),
                                      Value.int IntKind.i64 (1 : Int), Value.float FloatKind.f64 (0 : Nat),
                                      Value.int IntKind.i64 (4 : Int), Value.int IntKind.i64 start,
                                      Value.float FloatKind.f64 (0 : Nat)]
                                    true (0 : Nat))]))))
                      (N AX.normal
                        (mkF (78 : Nat)
                          [((0 : Nat),
                              Value.slice (some { block := (0 : Nat), off := (0 : Nat), spot := some (0 : Nat) }) n n),
                            ((5 : Nat), Value.int IntKind.i64 d),
                            ((6 : Nat), Value.slice (some { block := (1 : Nat), off := (0 : Nat) }) (4 : Nat) (4 : Nat)),
                            ((7 : Nat), Value.int IntKind.i64 start), ((8 : Nat), Value.bool true),
                            ((9 : Nat), Value.int IntKind.i64 (IntKind.wrap IntKind.i64 (Int.ofNat k + (1 : Int))))])
                        (mkS
                          [some (AObj.row (1 : Nat) k h fun i => [Value.bool true]),
                            some
                              (AObj.cells
                                [Value.int IntKind.i64 (1 : Int), Value.int IntKind.i64 (0 : Int),
                                  Value.float FloatKind.f64 (0 : Nat), Value.int IntKind.i64 (4 : Int),
                                  Value.int IntKind.i64
                                    (IntKind.wrap IntKind.i64
                                      (if
                                          IntKind.wrap IntKind.u64 (if (0 : Int) > d then (0 : Int) else d) <
                                            IntKind.wrap IntKind.u64
                                              (IntKind.wrap IntKind.u64 (Int.ofNat k) -
                                                IntKind.wrap IntKind.u64 start) then
                                        IntKind.wrap IntKind.u64 (if (0 : Int) > d then (0 : Int) else d)
                                      else
                                        IntKind.wrap IntKind.u64
                                          (IntKind.wrap IntKind.u64 (Int.ofNat k) - IntKind.wrap IntKind.u64 start))),
                                  Value.float FloatKind.f64 (0 : Nat), Value.int IntKind.i64 (1 : Int),
                                  Value.int IntKind.i64 (1 : Int), Value.float FloatKind.f64 (0 : Nat),
                                  Value.int IntKind.i64 (4 : Int), Value.int IntKind.i64 start,
                                  Value.float FloatKind.f64 (0 : Nat)]
                                true (0 : Nat))])))))
                (br
                  (!IntKind.wrap IntKind.i64
                        (if
                            IntKind.wrap IntKind.u64 (if (0 : Int) > d then (0 : Int) else d) <
                              IntKind.wrap IntKind.u64
                                (IntKind.wrap IntKind.u64 (Int.ofNat k) - IntKind.wrap IntKind.u64 start) then
                          IntKind.wrap IntKind.u64 (if (0 : Int) > d then (0 : Int) else d)
                        else
                          IntKind.wrap IntKind.u64
                            (IntKind.wrap IntKind.u64 (Int.ofNat k) - IntKind.wrap IntKind.u64 start)) ==
                      if (0 : Int) > d then (0 : Int) else d)
                  (br (!true == decide (IntKind.wrap IntKind.i64 (Int.ofNat k - start) < d))
                    (N AX.ret (mkF (78 : Nat) []) (mkS [some (AObj.row (1 : Nat) k h fun i => [Value.bool true])]))
                    (br (decide (IntKind.wrap IntKind.i64 (Int.ofNat k - start) ≥ d))
                      (need (Nat.blt (Int.toNat (Int.ofNat k)) n)
                        (need
                          (Nat.ble k ((0 : Nat) + Int.toNat (Int.ofNat k)) &&
                            Nat.blt ((0 : Nat) + Int.toNat (Int.ofNat k)) h)
                          (N AX.normal
                            (mkF (78 : Nat)
                              [((0 : Nat),
                                  Value.slice (some { block := (0 : Nat), off := (0 : Nat), spot := some (0 : Nat) }) n
                                    n),
                                ((5 : Nat), Value.int IntKind.i64 d),
                                ((6 : Nat),
                                  Value.slice (some { block := (1 : Nat), off := (0 : Nat) }) (4 : Nat) (4 : Nat)),
                                ((7 : Nat), Value.int IntKind.i64 start), ((8 : Nat), Value.bool true),
                                ((9 : Nat), Value.int IntKind.i64 (IntKind.wrap IntKind.i64 (Int.ofNat k + (1 : Int))))])
                            (mkS
                              [some (AObj.row (1 : Nat) k h fun i => [Value.bool true]),
                                some
                                  (AObj.cells
                                    [Value.int IntKind.i64 (1 : Int), Value.int IntKind.i64 (1 : Int),
                                      Value.float FloatKind.f64 (0 : Nat), Value.int IntKind.i64 (4 : Int),
                                      Value.int IntKind.i64
                                        (IntKind.wrap IntKind.i64
                                          (if
                                              IntKind.wrap IntKind.u64 (if (0 : Int) > d then (0 : Int) else d) <
                                                IntKind.wrap IntKind.u64
                                                  (IntKind.wrap IntKind.u64 (Int.ofNat k) -
                                                    IntKind.wrap IntKind.u64 start) then
                                            IntKind.wrap IntKind.u64 (if (0 : Int) > d then (0 : Int) else d)
                                          else
                                            IntKind.wrap IntKind.u64
                                              (IntKind.wrap IntKind.u64 (Int.ofNat k) - IntKind.wrap IntKind.u64 start))),
                                      Value.float FloatKind.f64 (0 : Nat), Value.int IntKind.i64 (1 : Int),
                                      Value.int IntKind.i64 (1 : Int), Value.float FloatKind.f64 (0 : Nat),
                                      Value.int IntKind.i64 (4 : Int), Value.int IntKind.i64 start,
                                      Value.float FloatKind.f64 (0 : Nat)]
                                    true (0 : Nat))]))))
                      (N AX.normal
                        (mkF (78 : Nat)
                          [((0 : Nat),
                              Value.slice (some { block := (0 : Nat), off := (0 : Nat), spot := some (0 : Nat) }) n n),
                            ((5 : Nat), Value.int IntKind.i64 d),
                            ((6 : Nat), Value.slice (some { block := (1 : Nat), off := (0 : Nat) }) (4 : Nat) (4 : Nat)),
                            ((7 : Nat), Value.int IntKind.i64 start), ((8 : Nat), Value.bool true),
                            ((9 : Nat), Value.int IntKind.i64 (IntKind.wrap IntKind.i64 (Int.ofNat k + (1 : Int))))])
                        (mkS
                          [some (AObj.row (1 : Nat) k h fun i => [Value.bool true]),
                            some
                              (AObj.cells
                                [Value.int IntKind.i64 (1 : Int), Value.int IntKind.i64 (1 : Int),
                                  Value.float FloatKind.f64 (0 : Nat), Value.int IntKind.i64 (4 : Int),
                                  Value.int IntKind.i64
                                    (IntKind.wrap IntKind.i64
                                      (if
                                          IntKind.wrap IntKind.u64 (if (0 : Int) > d then (0 : Int) else d) <
                                            IntKind.wrap IntKind.u64
                                              (IntKind.wrap IntKind.u64 (Int.ofNat k) -
                                                IntKind.wrap IntKind.u64 start) then
                                        IntKind.wrap IntKind.u64 (if (0 : Int) > d then (0 : Int) else d)
                                      else
                                        IntKind.wrap IntKind.u64
                                          (IntKind.wrap IntKind.u64 (Int.ofNat k) - IntKind.wrap IntKind.u64 start))),
                                  Value.float FloatKind.f64 (0 : Nat), Value.int IntKind.i64 (1 : Int),
                                  Value.int IntKind.i64 (1 : Int), Value.float FloatKind.f64 (0 : Nat),
                                  Value.int IntKind.i64 (4 : Int), Value.int IntKind.i64 start,
                                  Value.float FloatKind.f64 (0 : Nat)]
                                true (0 : Nat))]))))
                  (br (!false == decide (IntKind.wrap IntKind.i64 (Int.ofNat k - start) < d))
                    (N AX.ret (mkF (78 : Nat) []) (mkS [some (AObj.row (1 : Nat) k h fun i => [Value.bool true])]))
                    (br (decide (IntKind.wrap IntKind.i64 (Int.ofNat k - start) ≥ d))
                      (need (Nat.blt (Int.toNat (Int.ofNat k)) n)
                        (need
                          (Nat.ble k ((0 : Nat) + Int.toNat (Int.ofNat k)) &&
                            Nat.blt ((0 : Nat) + Int.toNat (Int.ofNat k)) h)
                          (N AX.normal
                            (mkF (78 : Nat)
                              [((0 : Nat),
                                  Value.slice (some { block := (0 : Nat), off := (0 : Nat), spot := some (0 : Nat) }) n
                                    n),
                                ((5 : Nat), Value.int IntKind.i64 d),
                                ((6 : Nat),
                                  Value.slice (some { block := (1 : Nat), off := (0 : Nat) }) (4 : Nat) (4 : Nat)),
                                ((7 : Nat), Value.int IntKind.i64 start), ((8 : Nat), Value.bool true),
                                ((9 : Nat), Value.int IntKind.i64 (IntKind.wrap IntKind.i64 (Int.ofNat k + (1 : Int))))])
                            (mkS
                              [some (AObj.row (1 : Nat) k h fun i => [Value.bool true]),
                                some
                                  (AObj.cells
                                    [Value.int IntKind.i64 (1 : Int), Value.int IntKind.i64 (0 : Int),
                                      Value.float FloatKind.f64 (0 : Nat), Value.int IntKind.i64 (4 : Int),
                                      Value.int IntKind.i64
                                        (IntKind.wrap IntKind.i64
                                          (if
                                              IntKind.wrap IntKind.u64 (if (0 : Int) > d then (0 : Int) else d) <
                                                IntKind.wrap IntKind.u64
                                                  (IntKind.wrap IntKind.u64 (Int.ofNat k) -
                                                    IntKind.wrap IntKind.u64 start) then
                                            IntKind.wrap IntKind.u64 (if (0 : Int) > d then (0 : Int) else d)
                                          else
                                            IntKind.wrap IntKind.u64
                                              (IntKind.wrap IntKind.u64 (Int.ofNat k) - IntKind.wrap IntKind.u64 start))),
                                      Value.float FloatKind.f64 (0 : Nat), Value.int IntKind.i64 (1 : Int),
                                      Value.int IntKind.i64 (1 : Int), Value.float FloatKind.f64 (0 : Nat),
                                      Value.int IntKind.i64 (4 : Int), Value.int IntKind.i64 start,
                                      Value.float FloatKind.f64 (0 : Nat)]
                                    true (0 : Nat))]))))
                      (N AX.normal
                        (mkF (78 : Nat)
                          [((0 : Nat),
                              Value.slice (some { block := (0 : Nat), off := (0 : Nat), spot := some (0 : Nat) }) n n),
                            ((5 : Nat), Value.int IntKind.i64 d),
                            ((6 : Nat), Value.slice (some { block := (1 : Nat), off := (0 : Nat) }) (4 : Nat) (4 : Nat)),
                            ((7 : Nat), Value.int IntKind.i64 start), ((8 : Nat), Value.bool true),
                            ((9 : Nat), Value.int IntKind.i64 (IntKind.wrap IntKind.i64 (Int.ofNat k + (1 : Int))))])
                        (mkS
                          [some (AObj.row (1 : Nat) k h fun i => [Value.bool true]),
                            some
                              (AObj.cells
                                [Value.int IntKind.i64 (1 : Int), Value.int IntKind.i64 (0 : Int),
                                  Value.float FloatKind.f64 (0 : Nat), Value.int IntKind.i64 (4 : Int),
                                  Value.int IntKind.i64
                                    (IntKind.wrap IntKind.i64
                                      (if
                                          IntKind.wrap IntKind.u64 (if (0 : Int) > d then (0 : Int) else d) <
                                            IntKind.wrap IntKind.u64
                                              (IntKind.wrap IntKind.u64 (Int.ofNat k) -
                                                IntKind.wrap IntKind.u64 start) then
                                        IntKind.wrap IntKind.u64 (if (0 : Int) > d then (0 : Int) else d)
                                      else
                                        IntKind.wrap IntKind.u64
                                          (IntKind.wrap IntKind.u64 (Int.ofNat k) - IntKind.wrap IntKind.u64 start))),
                                  Value.float FloatKind.f64 (0 : Nat), Value.int IntKind.i64 (1 : Int),
                                  Value.int IntKind.i64 (1 : Int), Value.float FloatKind.f64 (0 : Nat),
                                  Value.int IntKind.i64 (4 : Int), Value.int IntKind.i64 start,
                                  Value.float FloatKind.f64 (0 : Nat)]
                                true (0 : Nat))]))))))
              (br
                (!!IntKind.wrap IntKind.i64
                        (if
                            IntKind.wrap IntKind.u64 (if (0 : Int) > d then (0 : Int) else d) <
                              IntKind.wrap IntKind.u64
                                (IntKind.wrap IntKind.u64 (Int.ofNat k) - IntKind.wrap IntKind.u64 start) then
                          IntKind.wrap IntKind.u64 (if (0 : Int) > d then (0 : Int) else d)
                        else
                          IntKind.wrap IntKind.u64
                            (IntKind.wrap IntKind.u64 (Int.ofNat k) - IntKind.wrap IntKind.u64 start)) ==
                      if (0 : Int) > d then (0 : Int) else d)
                False
                (br
                  (!IntKind.wrap IntKind.i64
                        (if
                            IntKind.wrap IntKind.u64 (if (0 : Int) > d then (0 : Int) else d) <
                              IntKind.wrap IntKind.u64
                                (IntKind.wrap IntKind.u64 (Int.ofNat k) - IntKind.wrap IntKind.u64 start) then
                          IntKind.wrap IntKind.u64 (if (0 : Int) > d then (0 : Int) else d)
                        else
                          IntKind.wrap IntKind.u64
                            (IntKind.wrap IntKind.u64 (Int.ofNat k) - IntKind.wrap IntKind.u64 start)) ==
                      if (0 : Int) > d then (0 : Int) else d)
                  (br (!true == decide (IntKind.wrap IntKind.i64 (Int.ofNat k - start) < d))
                    (N AX.ret (mkF (78 : Nat) []) (mkS [some (AObj.row (1 : Nat) k h fun i => [Value.bool true])]))
                    (br (decide (IntKind.wrap IntKind.i64 (Int.ofNat k - start) ≥ d))
                      (need (Nat.blt (Int.toNat (Int.ofNat k)) n)
                        (need
                          (Nat.ble k ((0 : Nat) + Int.toNat (Int.ofNat k)) &&
                            Nat.blt ((0 : Nat) + Int.toNat (Int.ofNat k)) h)
                          (N AX.normal
                            (mkF (78 : Nat)
                              [((0 : Nat),
                                  Value.slice (some { block := (0 : Nat), off := (0 : Nat), spot := some (0 : Nat) }) n
                                    n),
                                ((5 : Nat), Value.int IntKind.i64 d),
                                ((6 : Nat),
                                  Value.slice (some { block := (1 : Nat), off := (0 : Nat) }) (4 : Nat) (4 : Nat)),
                                ((7 : Nat), Value.int IntKind.i64 start), ((8 : Nat), Value.bool true),
                                ((9 : Nat), Value.int IntKind.i64 (IntKind.wrap IntKind.i64 (Int.ofNat k + (1 : Int))))])
                            (mkS
                              [some (AObj.row (1 : Nat) k h fun i => [Value.bool true]),
                                some
                                  (AObj.cells
                                    [Value.int IntKind.i64 (1 : Int), Value.int IntKind.i64 (1 : Int),
                                      Value.float FloatKind.f64 (0 : Nat), Value.int IntKind.i64 (4 : Int),
                                      Value.int IntKind.i64
                                        (IntKind.wrap IntKind.i64
                                          (if
                                              IntKind.wrap IntKind.u64 (if (0 : Int) > d then (0 : Int) else d) <
                                                IntKind.wrap IntKind.u64
                                                  (IntKind.wrap IntKind.u64 (Int.ofNat k) -
                                                    IntKind.wrap IntKind.u64 start) then
                                            IntKind.wrap IntKind.u64 (if (0 : Int) > d then (0 : Int) else d)
                                          else
                                            IntKind.wrap IntKind.u64
                                              (IntKind.wrap IntKind.u64 (Int.ofNat k) - IntKind.wrap IntKind.u64 start))),
                                      Value.float FloatKind.f64 (0 : Nat), Value.int IntKind.i64 (1 : Int),
                                      Value.int IntKind.i64 (1 : Int), Value.float FloatKind.f64 (0 : Nat),
                                      Value.int IntKind.i64 (4 : Int), Value.int IntKind.i64 start,
                                      Value.float FloatKind.f64 (0 : Nat)]
                                    true (0 : Nat))]))))
                      (N AX.normal
                        (mkF (78 : Nat)
                          [((0 : Nat),
                              Value.slice (some { block := (0 : Nat), off := (0 : Nat), spot := some (0 : Nat) }) n n),
                            ((5 : Nat), Value.int IntKind.i64 d),
                            ((6 : Nat), Value.slice (some { block := (1 : Nat), off := (0 : Nat) }) (4 : Nat) (4 : Nat)),
                            ((7 : Nat), Value.int IntKind.i64 start), ((8 : Nat), Value.bool true),
                            ((9 : Nat), Value.int IntKind.i64 (IntKind.wrap IntKind.i64 (Int.ofNat k + (1 : Int))))])
                        (mkS
                          [some (AObj.row (1 : Nat) k h fun i => [Value.bool true]),
                            some
                              (AObj.cells
                                [Value.int IntKind.i64 (1 : Int), Value.int IntKind.i64 (1 : Int),
                                  Value.float FloatKind.f64 (0 : Nat), Value.int IntKind.i64 (4 : Int),
                                  Value.int IntKind.i64
                                    (IntKind.wrap IntKind.i64
                                      (if
                                          IntKind.wrap IntKind.u64 (if (0 : Int) > d then (0 : Int) else d) <
                                            IntKind.wrap IntKind.u64
                                              (IntKind.wrap IntKind.u64 (Int.ofNat k) -
                                                IntKind.wrap IntKind.u64 start) then
                                        IntKind.wrap IntKind.u64 (if (0 : Int) > d then (0 : Int) else d)
                                      else
                                        IntKind.wrap IntKind.u64
                                          (IntKind.wrap IntKind.u64 (Int.ofNat k) - IntKind.wrap IntKind.u64 start))),
                                  Value.float FloatKind.f64 (0 : Nat), Value.int IntKind.i64 (1 : Int),
                                  Value.int IntKind.i64 (1 : Int), Value.float FloatKind.f64 (0 : Nat),
                                  Value.int IntKind.i64 (4 : Int), Value.int IntKind.i64 start,
                                  Value.float FloatKind.f64 (0 : Nat)]
                                true (0 : Nat))]))))
                  (br (!false == decide (IntKind.wrap IntKind.i64 (Int.ofNat k - start) < d))
                    (N AX.ret (mkF (78 : Nat) []) (mkS [some (AObj.row (1 : Nat) k h fun i => [Value.bool true])]))
                    (br (decide (IntKind.wrap IntKind.i64 (Int.ofNat k - start) ≥ d))
                      (need (Nat.blt (Int.toNat (Int.ofNat k)) n)
                        (need
                          (Nat.ble k ((0 : Nat) + Int.toNat (Int.ofNat k)) &&
                            Nat.blt ((0 : Nat) + Int.toNat (Int.ofNat k)) h)
                          (N AX.normal
                            (mkF (78 : Nat)
                              [((0 : Nat),
                                  Value.slice (some { block := (0 : Nat), off := (0 : Nat), spot := some (0 : Nat) }) n
                                    n),
                                ((5 : Nat), Value.int IntKind.i64 d),
                                ((6 : Nat),
                                  Value.slice (some { block := (1 : Nat), off := (0 : Nat) }) (4 : Nat) (4 : Nat)),
                                ((7 : Nat), Value.int IntKind.i64 start), ((8 : Nat), Value.bool true),
                                ((9 : Nat), Value.int IntKind.i64 (IntKind.wrap IntKind.i64 (Int.ofNat k + (1 : Int))))])
                            (mkS
                              [some (AObj.row (1 : Nat) k h fun i => [Value.bool true]),
                                some
                                  (AObj.cells
                                    [Value.int IntKind.i64 (1 : Int), Value.int IntKind.i64 (0 : Int),
                                      Value.float FloatKind.f64 (0 : Nat), Value.int IntKind.i64 (4 : Int),
                                      Value.int IntKind.i64
                                        (IntKind.wrap IntKind.i64
                                          (if
                                              IntKind.wrap IntKind.u64 (if (0 : Int) > d then (0 : Int) else d) <
                                                IntKind.wrap IntKind.u64
                                                  (IntKind.wrap IntKind.u64 (Int.ofNat k) -
                                                    IntKind.wrap IntKind.u64 start) then
                                            IntKind.wrap IntKind.u64 (if (0 : Int) > d then (0 : Int) else d)
                                          else
                                            IntKind.wrap IntKind.u64
                                              (IntKind.wrap IntKind.u64 (Int.ofNat k) - IntKind.wrap IntKind.u64 start))),
                                      Value.float FloatKind.f64 (0 : Nat), Value.int IntKind.i64 (1 : Int),
                                      Value.int IntKind.i64 (1 : Int), Value.float FloatKind.f64 (0 : Nat),
                                      Value.int IntKind.i64 (4 : Int), Value.int IntKind.i64 start,
                                      Value.float FloatKind.f64 (0 : Nat)]
                                    true (0 : Nat))]))))
                      (N AX.normal
                        (mkF (78 : Nat)
                          [((0 : Nat),
                              Value.slice (some { block := (0 : Nat), off := (0 : Nat), spot := some (0 : Nat) }) n n),
                            ((5 : Nat), Value.int IntKind.i64 d),
                            ((6 : Nat), Value.slice (some { block := (1 : Nat), off := (0 : Nat) }) (4 : Nat) (4 : Nat)),
                            ((7 : Nat), Value.int IntKind.i64 start), ((8 : Nat), Value.bool true),
                            ((9 : Nat), Value.int IntKind.i64 (IntKind.wrap IntKind.i64 (Int.ofNat k + (1 : Int))))])
                        (mkS
                          [some (AObj.row (1 : Nat) k h fun i => [Value.bool true]),
                            some
                              (AObj.cells
                                [Value.int IntKind.i64 (1 : Int), Value.int IntKind.i64 (0 : Int),
                                  Value.float FloatKind.f64 (0 : Nat), Value.int IntKind.i64 (4 : Int),
                                  Value.int IntKind.i64
                                    (IntKind.wrap IntKind.i64
                                      (if
                                          IntKind.wrap IntKind.u64 (if (0 : Int) > d then (0 : Int) else d) <
                                            IntKind.wrap IntKind.u64
                                              (IntKind.wrap IntKind.u64 (Int.ofNat k) -
                                                IntKind.wrap IntKind.u64 start) then
                                        IntKind.wrap IntKind.u64 (if (0 : Int) > d then (0 : Int) else d)
                                      else
                                        IntKind.wrap IntKind.u64
                                          (IntKind.wrap IntKind.u64 (Int.ofNat k) - IntKind.wrap IntKind.u64 start))),
                                  Value.float FloatKind.f64 (0 : Nat), Value.int IntKind.i64 (1 : Int),
                                  Value.int IntKind.i64 (1 : Int), Value.float FloatKind.f64 (0 : Nat),
                                  Value.int IntKind.i64 (4 : Int), Value.int IntKind.i64 start,
                                  Value.float FloatKind.f64 (0 : Nat)]
                                true (0 : Nat))])))))))
            (br
              (!!IntKind.wrap IntKind.i64
                      (if
                          IntKind.wrap IntKind.u64 (if (0 : Int) > d then (0 : Int) else d) <
                            IntKind.wrap IntKind.u64
                              (IntKind.wrap IntKind.u64 (Int.ofNat k) - IntKind.wrap IntKind.u64 start) then
                        IntKind.wrap IntKind.u64 (if (0 : Int) > d then (0 : Int) else d)
                      else
                        IntKind.wrap IntKind.u64
                          (IntKind.wrap IntKind.u64 (Int.ofNat k) - IntKind.wrap IntKind.u64 start)) ==
                    if (0 : Int) > d then (0 : Int) else d)
              False
              (br
                (!!IntKind.wrap IntKind.i64
                        (if
                            IntKind.wrap IntKind.u64 (if (0 : Int) > d then (0 : Int) else d) <
                              IntKind.wrap IntKind.u64
                                (IntKind.wrap IntKind.u64 (Int.ofNat k) - IntKind.wrap IntKind.u64 start) then
                          IntKind.wrap IntKind.u64 (if (0 : Int) > d then (0 : Int) else d)
                        else
                          IntKind.wrap IntKind.u64
                            (IntKind.wrap IntKind.u64 (Int.ofNat k) - IntKind.wrap IntKind.u64 start)) ==
                      if (0 : Int) > d then (0 : Int) else d)
                False
                (br
                  (!IntKind.wrap IntKind.i64
                        (if
                            IntKind.wrap IntKind.u64 (if (0 : Int) > d then (0 : Int) else d) <
                              IntKind.wrap IntKind.u64
                                (IntKind.wrap IntKind.u64 (Int.ofNat k) - IntKind.wrap IntKind.u64 start) then
                          IntKind.wrap IntKind.u64 (if (0 : Int) > d then (0 : Int) else d)
                        else
                          IntKind.wrap IntKind.u64
                            (IntKind.wrap IntKind.u64 (Int.ofNat k) - IntKind.wrap IntKind.u64 start)) ==
                      if (0 : Int) > d then (0 : Int) else d)
                  (br (!true == decide (IntKind.wrap IntKind.i64 (Int.ofNat k - start) < d))
                    (N AX.ret (mkF (78 : Nat) []) (mkS [some (AObj.row (1 : Nat) k h fun i => [Value.bool true])]))
                    (br (decide (IntKind.wrap IntKind.i64 (Int.ofNat k - start) ≥ d))
                      (need (Nat.blt (Int.toNat (Int.ofNat k)) n)
                        (need
                          (Nat.ble k ((0 : Nat) + Int.toNat (Int.ofNat k)) &&
                            Nat.blt ((0 : Nat) + Int.toNat (Int.ofNat k)) h)
                          (N AX.normal
                            (mkF (78 : Nat)
                              [((0 : Nat),
                                  Value.slice (some { block := (0 : Nat), off := (0 : Nat), spot := some (0 : Nat) }) n
                                    n),
                                ((5 : Nat), Value.int IntKind.i64 d),
                                ((6 : Nat),
                                  Value.slice (some { block := (1 : Nat), off := (0 : Nat) }) (4 : Nat) (4 : Nat)),
                                ((7 : Nat), Value.int IntKind.i64 start), ((8 : Nat), Value.bool true),
                                ((9 : Nat), Value.int IntKind.i64 (IntKind.wrap IntKind.i64 (Int.ofNat k + (1 : Int))))])
                            (mkS
                              [some (AObj.row (1 : Nat) k h fun i => [Value.bool true]),
                                some
                                  (AObj.cells
                                    [Value.int IntKind.i64 (1 : Int), Value.int IntKind.i64 (1 : Int),
                                      Value.float FloatKind.f64 (0 : Nat), Value.int IntKind.i64 (4 : Int),
                                      Value.int IntKind.i64
                                        (IntKind.wrap IntKind.i64
                                          (if
                                              IntKind.wrap IntKind.u64 (if (0 : Int) > d then (0 : Int) else d) <
                                                IntKind.wrap IntKind.u64
                                                  (IntKind.wrap IntKind.u64 (Int.ofNat k) -
                                                    IntKind.wrap IntKind.u64 start) then
                                            IntKind.wrap IntKind.u64 (if (0 : Int) > d then (0 : Int) else d)
                                          else
                                            IntKind.wrap IntKind.u64
                                              (IntKind.wrap IntKind.u64 (Int.ofNat k) - IntKind.wrap IntKind.u64 start))),
                                      Value.float FloatKind.f64 (0 : Nat), Value.int IntKind.i64 (1 : Int),
                                      Value.int IntKind.i64 (1 : Int), Value.float FloatKind.f64 (0 : Nat),
                                      Value.int IntKind.i64 (4 : Int), Value.int IntKind.i64 start,
                                      Value.float FloatKind.f64 (0 : Nat)]
                                    true (0 : Nat))]))))
                      (N AX.normal
                        (mkF (78 : Nat)
                          [((0 : Nat),
                              Value.slice (some { block := (0 : Nat), off := (0 : Nat), spot := some (0 : Nat) }) n n),
                            ((5 : Nat), Value.int IntKind.i64 d),
                            ((6 : Nat), Value.slice (some { block := (1 : Nat), off := (0 : Nat) }) (4 : Nat) (4 : Nat)),
                            ((7 : Nat), Value.int IntKind.i64 start), ((8 : Nat), Value.bool true),
                            ((9 : Nat), Value.int IntKind.i64 (IntKind.wrap IntKind.i64 (Int.ofNat k + (1 : Int))))])
                        (mkS
                          [some (AObj.row (1 : Nat) k h fun i => [Value.bool true]),
                            some
                              (AObj.cells
                                [Value.int IntKind.i64 (1 : Int), Value.int IntKind.i64 (1 : Int),
                                  Value.float FloatKind.f64 (0 : Nat), Value.int IntKind.i64 (4 : Int),
                                  Value.int IntKind.i64
                                    (IntKind.wrap IntKind.i64
                                      (if
                                          IntKind.wrap IntKind.u64 (if (0 : Int) > d then (0 : Int) else d) <
                                            IntKind.wrap IntKind.u64
                                              (IntKind.wrap IntKind.u64 (Int.ofNat k) -
                                                IntKind.wrap IntKind.u64 start) then
                                        IntKind.wrap IntKind.u64 (if (0 : Int) > d then (0 : Int) else d)
                                      else
                                        IntKind.wrap IntKind.u64
                                          (IntKind.wrap IntKind.u64 (Int.ofNat k) - IntKind.wrap IntKind.u64 start))),
                                  Value.float FloatKind.f64 (0 : Nat), Value.int IntKind.i64 (1 : Int),
                                  Value.int IntKind.i64 (1 : Int), Value.float FloatKind.f64 (0 : Nat),
                                  Value.int IntKind.i64 (4 : Int), Value.int IntKind.i64 start,
                                  Value.float FloatKind.f64 (0 : Nat)]
                                true (0 : Nat))]))))
                  (br (!false == decide (IntKind.wrap IntKind.i64 (Int.ofNat k - start) < d))
                    (N AX.ret (mkF (78 : Nat) []) (mkS [some (AObj.row (1 : Nat) k h fun i => [Value.bool true])]))
                    (br (decide (IntKind.wrap IntKind.i64 (Int.ofNat k - start) ≥ d))
                      (need (Nat.blt (Int.toNat (Int.ofNat k)) n)
                        (need
                          (Nat.ble k ((0 : Nat) + Int.toNat (Int.ofNat k)) &&
                            Nat.blt ((0 : Nat) + Int.toNat (Int.ofNat k)) h)
                          (N AX.normal
                            (mkF (78 : Nat)
                              [((0 : Nat),
                                  Value.slice (some { block := (0 : Nat), off := (0 : Nat), spot := some (0 : Nat) }) n
                                    n),
                                ((5 : Nat), Value.int IntKind.i64 d),
                                ((6 : Nat),
                                  Value.slice (some { block := (1 : Nat), off := (0 : Nat) }) (4 : Nat) (4 : Nat)),
                                ((7 : Nat), Value.int IntKind.i64 start), ((8 : Nat), Value.bool true),
                                ((9 : Nat), Value.int IntKind.i64 (IntKind.wrap IntKind.i64 (Int.ofNat k + (1 : Int))))])
                            (mkS
                              [some (AObj.row (1 : Nat) k h fun i => [Value.bool true]),
                                some
                                  (AObj.cells
                                    [Value.int IntKind.i64 (1 : Int), Value.int IntKind.i64 (0 : Int),
                                      Value.float FloatKind.f64 (0 : Nat), Value.int IntKind.i64 (4 : Int),
                                      Value.int IntKind.i64
                                        (IntKind.wrap IntKind.i64
                                          (if
                                              IntKind.wrap IntKind.u64 (if (0 : Int) > d then (0 : Int) else d) <
                                                IntKind.wrap IntKind.u64
                                                  (IntKind.wrap IntKind.u64 (Int.ofNat k) -
                                                    IntKind.wrap IntKind.u64 start) then
                                            IntKind.wrap IntKind.u64 (if (0 : Int) > d then (0 : Int) else d)
                                          else
                                            IntKind.wrap IntKind.u64
                                              (IntKind.wrap IntKind.u64 (Int.ofNat k) - IntKind.wrap IntKind.u64 start))),
                                      Value.float FloatKind.f64 (0 : Nat), Value.int IntKind.i64 (1 : Int),
                                      Value.int IntKind.i64 (1 : Int), Value.float FloatKind.f64 (0 : Nat),
                                      Value.int IntKind.i64 (4 : Int), Value.int IntKind.i64 start,
                                      Value.float FloatKind.f64 (0 : Nat)]
                                    true (0 : Nat))]))))
                      (N AX.normal
                        (mkF (78 : Nat)
                          [((0 : Nat),
                              Value.slice (some { block := (0 : Nat), off := (0 : Nat), spot := some (0 : Nat) }) n n),
                            ((5 : Nat), Value.int IntKind.i64 d),
                            ((6 : Nat), Value.slice (some { block := (1 : Nat), off := (0 : Nat) }) (4 : Nat) (4 : Nat)),
                            ((7 : Nat), Value.int IntKind.i64 start), ((8 : Nat), Value.bool true),
                            ((9 : Nat), Value.int IntKind.i64 (IntKind.wrap IntKind.i64 (Int.ofNat k + (1 : Int))))])
                        (mkS
                          [some (AObj.row (1 : Nat) k h fun i => [Value.bool true]),
                            some
                              (AObj.cells
                                [Value.int IntKind.i64 (1 : Int), Value.int IntKind.i64 (0 : Int),
                                  Value.float FloatKind.f64 (0 : Nat), Value.int IntKind.i64 (4 : Int),
                                  Value.int IntKind.i64
                                    (IntKind.wrap IntKind.i64
                                      (if
                                          IntKind.wrap IntKind.u64 (if (0 : Int) > d then (0 : Int) else d) <
                                            IntKind.wrap IntKind.u64
                                              (IntKind.wrap IntKind.u64 (Int.ofNat k) -
                                                IntKind.wrap IntKind.u64 start) then
                                        IntKind.wrap IntKind.u64 (if (0 : Int) > d then (0 : Int) else d)
                                      else
                                        IntKind.wrap IntKind.u64
                                          (IntKind.wrap IntKind.u64 (Int.ofNat k) - IntKind.wrap IntKind.u64 start))),
                                  Value.float FloatKind.f64 (0 : Nat), Value.int IntKind.i64 (1 : Int),
                                  Value.int IntKind.i64 (1 : Int), Value.float FloatKind.f64 (0 : Nat),
                                  Value.int IntKind.i64 (4 : Int), Value.int IntKind.i64 start,
                                  Value.float FloatKind.f64 (0 : Nat)]
                                true (0 : Nat))]))))))))
          (br (!!(0 : Int) == if (0 : Int) > d then (0 : Int) else d)
            (br (!!(0 : Int) == if (0 : Int) > d then (0 : Int) else d)
              (br (!!(0 : Int) == if (0 : Int) > d then (0 : Int) else d)
                (br (!(0 : Int) == if (0 : Int) > d then (0 : Int) else d)
                  (br (!true == decide (IntKind.wrap IntKind.i64 (Int.ofNat k - start) < d))
                    (N AX.ret (mkF (78 : Nat) []) (mkS [some (AObj.row (1 : Nat) k h fun i => [Value.bool true])]))
                    (br (decide (IntKind.wrap IntKind.i64 (Int.ofNat k - start) ≥ d))
                      (need (Nat.blt (Int.toNat (Int.ofNat k)) n)
                        (need
                          (Nat.ble k ((0 : Nat) + Int.toNat (Int.ofNat k)) &&
                            Nat.blt ((0 : Nat) + Int.toNat (Int.ofNat k)) h)
                          (N AX.normal
                            (mkF (78 : Nat)
                              [((0 : Nat),
                                  Value.slice (some { block := (0 : Nat), off := (0 : Nat), spot := some (0 : Nat) }) n
                                    n),
                                ((5 : Nat), Value.int IntKind.i64 d),
                                ((6 : Nat),
                                  Value.slice (some { block := (1 : Nat), off := (0 : Nat) }) (4 : Nat) (4 : Nat)),
                                ((7 : Nat), Value.int IntKind.i64 start), ((8 : Nat), Value.bool true),
                                ((9 : Nat), Value.int IntKind.i64 (IntKind.wrap IntKind.i64 (Int.ofNat k + (1 : Int))))])
                            (mkS
                              [some (AObj.row (1 : Nat) k h fun i => [Value.bool true]),
                                some
                                  (AObj.cells
                                    [Value.int IntKind.i64 (1 : Int), Value.int IntKind.i64 (1 : Int),
                                      Value.float FloatKind.f64 (0 : Nat), Value.int IntKind.i64 (4 : Int),
                                      Value.int IntKind.i64 (0 : Int), Value.float FloatKind.f64 (0 : Nat),
                                      Value.int IntKind.i64 (1 : Int), Value.int IntKind.i64 (1 : Int),
                                      Value.float FloatKind.f64 (0 : Nat), Value.int IntKind.i64 (4 : Int),
                                      Value.int IntKind.i64 start, Value.float FloatKind.f64 (0 : Nat)]
                                    true (0 : Nat))]))))
                      (N AX.normal
                        (mkF (78 : Nat)
                          [((0 : Nat),
                              Value.slice (some { block := (0 : Nat), off := (0 : Nat), spot := some (0 : Nat) }) n n),
                            ((5 : Nat), Value.int IntKind.i64 d),
                            ((6 : Nat), Value.slice (some { block := (1 : Nat), off := (0 : Nat) }) (4 : Nat) (4 : Nat)),
                            ((7 : Nat), Value.int IntKind.i64 start), ((8 : Nat), Value.bool true),
                            ((9 : Nat), Value.int IntKind.i64 (IntKind.wrap IntKind.i64 (Int.ofNat k + (1 : Int))))])
                        (mkS
                          [some (AObj.row (1 : Nat) k h fun i => [Value.bool true]),
                            some
                              (AObj.cells
                                [Value.int IntKind.i64 (1 : Int), Value.int IntKind.i64 (1 : Int),
                                  Value.float FloatKind.f64 (0 : Nat), Value.int IntKind.i64 (4 : Int),
                                  Value.int IntKind.i64 (0 : Int), Value.float FloatKind.f64 (0 : Nat),
                                  Value.int IntKind.i64 (1 : Int), Value.int IntKind.i64 (1 : Int),
                                  Value.float FloatKind.f64 (0 : Nat), Value.int IntKind.i64 (4 : Int),
                                  Value.int IntKind.i64 start, Value.float FloatKind.f64 (0 : Nat)]
                                true (0 : Nat))]))))
                  (br (!false == decide (IntKind.wrap IntKind.i64 (Int.ofNat k - start) < d))
                    (N AX.ret (mkF (78 : Nat) []) (mkS [some (AObj.row (1 : Nat) k h fun i => [Value.bool true])]))
                    (br (decide (IntKind.wrap IntKind.i64 (Int.ofNat k - start) ≥ d))
                      (need (Nat.blt (Int.toNat (Int.ofNat k)) n)
                        (need
                          (Nat.ble k ((0 : Nat) + Int.toNat (Int.ofNat k)) &&
                            Nat.blt ((0 : Nat) + Int.toNat (Int.ofNat k)) h)
                          (N AX.normal
                            (mkF (78 : Nat)
                              [((0 : Nat),
                                  Value.slice (some { block := (0 : Nat), off := (0 : Nat), spot := some (0 : Nat) }) n
                                    n),
                                ((5 : Nat), Value.int IntKind.i64 d),
                                ((6 : Nat),
                                  Value.slice (some { block := (1 : Nat), off := (0 : Nat) }) (4 : Nat) (4 : Nat)),
                                ((7 : Nat), Value.int IntKind.i64 start), ((8 : Nat), Value.bool true),
                                ((9 : Nat), Value.int IntKind.i64 (IntKind.wrap IntKind.i64 (Int.ofNat k + (1 : Int))))])
                            (mkS
                              [some (AObj.row (1 : Nat) k h fun i => [Value.bool true]),
                                some
                                  (AObj.cells
                                    [Value.int IntKind.i64 (1 : Int), Value.int IntKind.i64 (0 : Int),
                                      Value.float FloatKind.f64 (0 : Nat), Value.int IntKind.i64 (4 : Int),
                                      Value.int IntKind.i64 (0 : Int), Value.float FloatKind.f64 (0 : Nat),
                                      Value.int IntKind.i64 (1 : Int), Value.int IntKind.i64 (1 : Int),
                                      Value.float FloatKind.f64 (0 : Nat), Value.int IntKind.i64 (4 : Int),
                                      Value.int IntKind.i64 start, Value.float FloatKind.f64 (0 : Nat)]
                                    true (0 : Nat))]))))
                      (N AX.normal
                        (mkF (78 : Nat)
                          [((0 : Nat),
                              Value.slice (some { block := (0 : Nat), off := (0 : Nat), spot := some (0 : Nat) }) n n),
                            ((5 : Nat), Value.int IntKind.i64 d),
                            ((6 : Nat), Value.slice (some { block := (1 : Nat), off := (0 : Nat) }) (4 : Nat) (4 : Nat)),
                            ((7 : Nat), Value.int IntKind.i64 start), ((8 : Nat), Value.bool true),
                            ((9 : Nat), Value.int IntKind.i64 (IntKind.wrap IntKind.i64 (Int.ofNat k + (1 : Int))))])
                        (mkS
                          [some (AObj.row (1 : Nat) k h fun i => [Value.bool true]),
                            some
                              (AObj.cells
                                [Value.int IntKind.i64 (1 : Int), Value.int IntKind.i64 (0 : Int),
                                  Value.float FloatKind.f64 (0 : Nat), Value.int IntKind.i64 (4 : Int),
                                  Value.int IntKind.i64 (0 : Int), Value.float FloatKind.f64 (0 : Nat),
                                  Value.int IntKind.i64 (1 : Int), Value.int IntKind.i64 (1 : Int),
                                  Value.float FloatKind.f64 (0 : Nat), Value.int IntKind.i64 (4 : Int),
                                  Value.int IntKind.i64 start, Value.float FloatKind.f64 (0 : Nat)]
                                true (0 : Nat))])))))
                (br (!(0 : Int) == if (0 : Int) > d then (0 : Int) else d)
                  (br (!true == decide (IntKind.wrap IntKind.i64 (Int.ofNat k - start) < d))
                    (N AX.ret (mkF (78 : Nat) []) (mkS [some (AObj.row (1 : Nat) k h fun i => [Value.bool true])]))
                    (br (decide (IntKind.wrap IntKind.i64 (Int.ofNat k - start) ≥ d))
                      (need (Nat.blt (Int.toNat (Int.ofNat k)) n)
                        (need
                          (Nat.ble k ((0 : Nat) + Int.toNat (Int.ofNat k)) &&
                            Nat.blt ((0 : Nat) + Int.toNat (Int.ofNat k)) h)
                          (N AX.normal
                            (mkF (78 : Nat)
                              [((0 : Nat),
                                  Value.slice (some { block := (0 : Nat), off := (0 : Nat), spot := some (0 : Nat) }) n
                                    n),
                                ((5 : Nat), Value.int IntKind.i64 d),
                                ((6 : Nat),
                                  Value.slice (some { block := (1 : Nat), off := (0 : Nat) }) (4 : Nat) (4 : Nat)),
                                ((7 : Nat), Value.int IntKind.i64 start), ((8 : Nat), Value.bool true),
                                ((9 : Nat), Value.int IntKind.i64 (IntKind.wrap IntKind.i64 (Int.ofNat k + (1 : Int))))])
                            (mkS
                              [some (AObj.row (1 : Nat) k h fun i => [Value.bool true]),
                                some
                                  (AObj.cells
                                    [Value.int IntKind.i64 (1 : Int), Value.int IntKind.i64 (1 : Int),
                                      Value.float FloatKind.f64 (0 : Nat), Value.int IntKind.i64 (4 : Int),
                                      Value.int IntKind.i64 (0 : Int), Value.float FloatKind.f64 (0 : Nat),
                                      Value.int IntKind.i64 (1 : Int), Value.int IntKind.i64 (1 : Int),
                                      Value.float FloatKind.f64 (0 : Nat), Value.int IntKind.i64 (4 : Int),
                                      Value.int IntKind.i64 start, Value.float FloatKind.f64 (0 : Nat)]
                                    true (0 : Nat))]))))
                      (N AX.normal
                        (mkF (78 : Nat)
                          [((0 : Nat),
                              Value.slice (some { block := (0 : Nat), off := (0 : Nat), spot := some (0 : Nat) }) n n),
                            ((5 : Nat), Value.int IntKind.i64 d),
                            ((6 : Nat), Value.slice (some { block := (1 : Nat), off := (0 : Nat) }) (4 : Nat) (4 : Nat)),
                            ((7 : Nat), Value.int IntKind.i64 start), ((8 : Nat), Value.bool true),
                            ((9 : Nat), Value.int IntKind.i64 (IntKind.wrap IntKind.i64 (Int.ofNat k + (1 : Int))))])
                        (mkS
                          [some (AObj.row (1 : Nat) k h fun i => [Value.bool true]),
                            some
                              (AObj.cells
                                [Value.int IntKind.i64 (1 : Int), Value.int IntKind.i64 (1 : Int),
                                  Value.float FloatKind.f64 (0 : Nat), Value.int IntKind.i64 (4 : Int),
                                  Value.int IntKind.i64 (0 : Int), Value.float FloatKind.f64 (0 : Nat),
                                  Value.int IntKind.i64 (1 : Int), Value.int IntKind.i64 (1 : Int),
                                  Value.float FloatKind.f64 (0 : Nat), Value.int IntKind.i64 (4 : Int),
                                  Value.int IntKind.i64 start, Value.float FloatKind.f64 (0 : Nat)]
                                true (0 : Nat))]))))
                  (br (!false == decide (IntKind.wrap IntKind.i64 (Int.ofNat k - start) < d))
                    (N AX.ret (mkF (78 : Nat) []) (mkS [some (AObj.row (1 : Nat) k h fun i => [Value.bool true])]))
                    (br (decide (IntKind.wrap IntKind.i64 (Int.ofNat k - start) ≥ d))
                      (need (Nat.blt (Int.toNat (Int.ofNat k)) n)
                        (need
                          (Nat.ble k ((0 : Nat) + Int.toNat (Int.ofNat k)) &&
                            Nat.blt ((0 : Nat) + Int.toNat (Int.ofNat k)) h)
                          (N AX.normal
                            (mkF (78 : Nat)
                              [((0 : Nat),
                                  Value.slice (some { block := (0 : Nat), off := (0 : Nat), spot := some (0 : Nat) }) n
                                    n),
                                ((5 : Nat), Value.int IntKind.i64 d),
                                ((6 : Nat),
                                  Value.slice (some { block := (1 : Nat), off := (0 : Nat) }) (4 : Nat) (4 : Nat)),
                                ((7 : Nat), Value.int IntKind.i64 start), ((8 : Nat), Value.bool true),
                                ((9 : Nat), Value.int IntKind.i64 (IntKind.wrap IntKind.i64 (Int.ofNat k + (1 : Int))))])
                            (mkS
                              [some (AObj.row (1 : Nat) k h fun i => [Value.bool true]),
                                some
                                  (AObj.cells
                                    [Value.int IntKind.i64 (1 : Int), Value.int IntKind.i64 (0 : Int),
                                      Value.float FloatKind.f64 (0 : Nat), Value.int IntKind.i64 (4 : Int),
                                      Value.int IntKind.i64 (0 : Int), Value.float FloatKind.f64 (0 : Nat),
                                      Value.int IntKind.i64 (1 : Int), Value.int IntKind.i64 (1 : Int),
                                      Value.float FloatKind.f64 (0 : Nat), Value.int IntKind.i64 (4 : Int),
                                      Value.int IntKind.i64 start, Value.float FloatKind.f64 (0 : Nat)]
                                    true (0 : Nat))]))))
                      (N AX.normal
                        (mkF (78 : Nat)
                          [((0 : Nat),
                              Value.slice (some { block := (0 : Nat), off := (0 : Nat), spot := some (0 : Nat) }) n n),
                            ((5 : Nat), Value.int IntKind.i64 d),
                            ((6 : Nat), Value.slice (some { block := (1 : Nat), off := (0 : Nat) }) (4 : Nat) (4 : Nat)),
                            ((7 : Nat), Value.int IntKind.i64 start), ((8 : Nat), Value.bool true),
                            ((9 : Nat), Value.int IntKind.i64 (IntKind.wrap IntKind.i64 (Int.ofNat k + (1 : Int))))])
                        (mkS
                          [some (AObj.row (1 : Nat) k h fun i => [Value.bool true]),
                            some
                              (AObj.cells
                                [Value.int IntKind.i64 (1 : Int), Value.int IntKind.i64 (0 : Int),
                                  Value.float FloatKind.f64 (0 : Nat), Value.int IntKind.i64 (4 : Int),
                                  Value.int IntKind.i64 (0 : Int), Value.float FloatKind.f64 (0 : Nat),
                                  Value.int IntKind.i64 (1 : Int), Value.int IntKind.i64 (1 : Int),
                                  Value.float FloatKind.f64 (0 : Nat), Value.int IntKind.i64 (4 : Int),
                                  Value.int IntKind.i64 start, Value.float FloatKind.f64 (0 : Nat)]
                                true (0 : Nat))]))))))
              (br (!!(0 : Int) == if (0 : Int) > d then (0 : Int) else d) False
                (br (!(0 : Int) == if (0 : Int) > d then (0 : Int) else d)
                  (br (!true == decide (IntKind.wrap IntKind.i64 (Int.ofNat k - start) < d))
                    (N AX.ret (mkF (78 : Nat) []) (mkS [some (AObj.row (1 : Nat) k h fun i => [Value.bool true])]))
                    (br (decide (IntKind.wrap IntKind.i64 (Int.ofNat k - start) ≥ d))
                      (need (Nat.blt (Int.toNat (Int.ofNat k)) n)
                        (need
                          (Nat.ble k ((0 : Nat) + Int.toNat (Int.ofNat k)) &&
                            Nat.blt ((0 : Nat) + Int.toNat (Int.ofNat k)) h)
                          (N AX.normal
                            (mkF (78 : Nat)
                              [((0 : Nat),
                                  Value.slice (some { block := (0 : Nat), off := (0 : Nat), spot := some (0 : Nat) }) n
                                    n),
                                ((5 : Nat), Value.int IntKind.i64 d),
                                ((6 : Nat),
                                  Value.slice (some { block := (1 : Nat), off := (0 : Nat) }) (4 : Nat) (4 : Nat)),
                                ((7 : Nat), Value.int IntKind.i64 start), ((8 : Nat), Value.bool true),
                                ((9 : Nat), Value.int IntKind.i64 (IntKind.wrap IntKind.i64 (Int.ofNat k + (1 : Int))))])
                            (mkS
                              [some (AObj.row (1 : Nat) k h fun i => [Value.bool true]),
                                some
                                  (AObj.cells
                                    [Value.int IntKind.i64 (1 : Int), Value.int IntKind.i64 (1 : Int),
                                      Value.float FloatKind.f64 (0 : Nat), Value.int IntKind.i64 (4 : Int),
                                      Value.int IntKind.i64 (0 : Int), Value.float FloatKind.f64 (0 : Nat),
                                      Value.int IntKind.i64 (1 : Int), Value.int IntKind.i64 (1 : Int),
                                      Value.float FloatKind.f64 (0 : Nat), Value.int IntKind.i64 (4 : Int),
                                      Value.int IntKind.i64 start, Value.float FloatKind.f64 (0 : Nat)]
                                    true (0 : Nat))]))))
                      (N AX.normal
                        (mkF (78 : Nat)
                          [((0 : Nat),
                              Value.slice (some { block := (0 : Nat), off := (0 : Nat), spot := some (0 : Nat) }) n n),
                            ((5 : Nat), Value.int IntKind.i64 d),
                            ((6 : Nat), Value.slice (some { block := (1 : Nat), off := (0 : Nat) }) (4 : Nat) (4 : Nat)),
                            ((7 : Nat), Value.int IntKind.i64 start), ((8 : Nat), Value.bool true),
                            ((9 : Nat), Value.int IntKind.i64 (IntKind.wrap IntKind.i64 (Int.ofNat k + (1 : Int))))])
                        (mkS
                          [some (AObj.row (1 : Nat) k h fun i => [Value.bool true]),
                            some
                              (AObj.cells
                                [Value.int IntKind.i64 (1 : Int), Value.int IntKind.i64 (1 : Int),
                                  Value.float FloatKind.f64 (0 : Nat), Value.int IntKind.i64 (4 : Int),
                                  Value.int IntKind.i64 (0 : Int), Value.float FloatKind.f64 (0 : Nat),
                                  Value.int IntKind.i64 (1 : Int), Value.int IntKind.i64 (1 : Int),
                                  Value.float FloatKind.f64 (0 : Nat), Value.int IntKind.i64 (4 : Int),
                                  Value.int IntKind.i64 start, Value.float FloatKind.f64 (0 : Nat)]
                                true (0 : Nat))]))))
                  (br (!false == decide (IntKind.wrap IntKind.i64 (Int.ofNat k - start) < d))
                    (N AX.ret (mkF (78 : Nat) []) (mkS [some (AObj.row (1 : Nat) k h fun i => [Value.bool true])]))
                    (br (decide (IntKind.wrap IntKind.i64 (Int.ofNat k - start) ≥ d))
                      (need (Nat.blt (Int.toNat (Int.ofNat k)) n)
                        (need
                          (Nat.ble k ((0 : Nat) + Int.toNat (Int.ofNat k)) &&
                            Nat.blt ((0 : Nat) + Int.toNat (Int.ofNat k)) h)
                          (N AX.normal
                            (mkF (78 : Nat)
                              [((0 : Nat),
                                  Value.slice (some { block := (0 : Nat), off := (0 : Nat), spot := some (0 : Nat) }) n
                                    n),
                                ((5 : Nat), Value.int IntKind.i64 d),
                                ((6 : Nat),
                                  Value.slice (some { block := (1 : Nat), off := (0 : Nat) }) (4 : Nat) (4 : Nat)),
                                ((7 : Nat), Value.int IntKind.i64 start), ((8 : Nat), Value.bool true),
                                ((9 : Nat), Value.int IntKind.i64 (IntKind.wrap IntKind.i64 (Int.ofNat k + (1 : Int))))])
                            (mkS
                              [some (AObj.row (1 : Nat) k h fun i => [Value.bool true]),
                                some
                                  (AObj.cells
                                    [Value.int IntKind.i64 (1 : Int), Value.int IntKind.i64 (0 : Int),
                                      Value.float FloatKind.f64 (0 : Nat), Value.int IntKind.i64 (4 : Int),
                                      Value.int IntKind.i64 (0 : Int), Value.float FloatKind.f64 (0 : Nat),
                                      Value.int IntKind.i64 (1 : Int), Value.int IntKind.i64 (1 : Int),
                                      Value.float FloatKind.f64 (0 : Nat), Value.int IntKind.i64 (4 : Int),
                                      Value.int IntKind.i64 start, Value.float FloatKind.f64 (0 : Nat)]
                                    true (0 : Nat))]))))
                      (N AX.normal
                        (mkF (78 : Nat)
                          [((0 : Nat),
                              Value.slice (some { block := (0 : Nat), off := (0 : Nat), spot := some (0 : Nat) }) n n),
                            ((5 : Nat), Value.int IntKind.i64 d),
                            ((6 : Nat), Value.slice (some { block := (1 : Nat), off := (0 : Nat) }) (4 : Nat) (4 : Nat)),
                            ((7 : Nat), Value.int IntKind.i64 start), ((8 : Nat), Value.bool true),
                            ((9 : Nat), Value.int IntKind.i64 (IntKind.wrap IntKind.i64 (Int.ofNat k + (1 : Int))))])
                        (mkS
                          [some (AObj.row (1 : Nat) k h fun i => [Value.bool true]),
                            some
                              (AObj.cells
                                [Value.int IntKind.i64 (1 : Int), Value.int IntKind.i64 (0 : Int),
                                  Value.float FloatKind.f64 (0 : Nat), Value.int IntKind.i64 (4 : Int),
                                  Value.int IntKind.i64 (0 : Int), Value.float FloatKind.f64 (0 : Nat),
                                  Value.int IntKind.i64 (1 : Int), Value.int IntKind.i64 (1 : Int),
                                  Value.float FloatKind.f64 (0 : Nat), Value.int IntKind.i64 (4 : Int),
                                  Value.int IntKind.i64 start, Value.float FloatKind.f64 (0 : Nat)]
                                true (0 : Nat))])))))))
            (br (!!(0 : Int) == if (0 : Int) > d then (0 : Int) else d) False
              (br (!!(0 : Int) == if (0 : Int) > d then (0 : Int) else d) False
                (br (!(0 : Int) == if (0 : Int) > d then (0 : Int) else d)
                  (br (!true == decide (IntKind.wrap IntKind.i64 (Int.ofNat k - start) < d))
                    (N AX.ret (mkF (78 : Nat) []) (mkS [some (AObj.row (1 : Nat) k h fun i => [Value.bool true])]))
                    (br (decide (IntKind.wrap IntKind.i64 (Int.ofNat k - start) ≥ d))
                      (need (Nat.blt (Int.toNat (Int.ofNat k)) n)
                        (need
                          (Nat.ble k ((0 : Nat) + Int.toNat (Int.ofNat k)) &&
                            Nat.blt ((0 : Nat) + Int.toNat (Int.ofNat k)) h)
                          (N AX.normal
                            (mkF (78 : Nat)
                              [((0 : Nat),
                                  Value.slice (some { block := (0 : Nat), off := (0 : Nat), spot := some (0 : Nat) }) n
                                    n),
                                ((5 : Nat), Value.int IntKind.i64 d),
                                ((6 : Nat),
                                  Value.slice (some { block := (1 : Nat), off := (0 : Nat) }) (4 : Nat) (4 : Nat)),
                                ((7 : Nat), Value.int IntKind.i64 start), ((8 : Nat), Value.bool true),
                                ((9 : Nat), Value.int IntKind.i64 (IntKind.wrap IntKind.i64 (Int.ofNat k + (1 : Int))))])
                            (mkS
                              [some (AObj.row (1 : Nat) k h fun i => [Value.bool true]),
                                some
                                  (AObj.cells
                                    [Value.int IntKind.i64 (1 : Int), Value.int IntKind.i64 (1 : Int),
                                      Value.float FloatKind.f64 (0 : Nat), Value.int IntKind.i64 (4 : Int),
                                      Value.int IntKind.i64 (0 : Int), Value.float FloatKind.f64 (0 : Nat),
                                      Value.int IntKind.i64 (1 : Int), Value.int IntKind.i64 (1 : Int),
                                      Value.float FloatKind.f64 (0 : Nat), Value.int IntKind.i64 (4 : Int),
                                      Value.int IntKind.i64 start, Value.float FloatKind.f64 (0 : Nat)]
                                    true (0 : Nat))]))))
                      (N AX.normal
                        (mkF (78 : Nat)
                          [((0 : Nat),
                              Value.slice (some { block := (0 : Nat), off := (0 : Nat), spot := some (0 : Nat) }) n n),
                            ((5 : Nat), Value.int IntKind.i64 d),
                            ((6 : Nat), Value.slice (some { block := (1 : Nat), off := (0 : Nat) }) (4 : Nat) (4 : Nat)),
                            ((7 : Nat), Value.int IntKind.i64 start), ((8 : Nat), Value.bool true),
                            ((9 : Nat), Value.int IntKind.i64 (IntKind.wrap IntKind.i64 (Int.ofNat k + (1 : Int))))])
                        (mkS
                          [some (AObj.row (1 : Nat) k h fun i => [Value.bool true]),
                            some
                              (AObj.cells
                                [Value.int IntKind.i64 (1 : Int), Value.int IntKind.i64 (1 : Int),
                                  Value.float FloatKind.f64 (0 : Nat), Value.int IntKind.i64 (4 : Int),
                                  Value.int IntKind.i64 (0 : Int), Value.float FloatKind.f64 (0 : Nat),
                                  Value.int IntKind.i64 (1 : Int), Value.int IntKind.i64 (1 : Int),
                                  Value.float FloatKind.f64 (0 : Nat), Value.int IntKind.i64 (4 : Int),
                                  Value.int IntKind.i64 start, Value.float FloatKind.f64 (0 : Nat)]
                                true (0 : Nat))]))))
                  (br (!false == decide (IntKind.wrap IntKind.i64 (Int.ofNat k - start) < d))
                    (N AX.ret (mkF (78 : Nat) []) (mkS [some (AObj.row (1 : Nat) k h fun i => [Value.bool true])]))
                    (br (decide (IntKind.wrap IntKind.i64 (Int.ofNat k - start) ≥ d))
                      (need (Nat.blt (Int.toNat (Int.ofNat k)) n)
                        (need
                          (Nat.ble k ((0 : Nat) + Int.toNat (Int.ofNat k)) &&
                            Nat.blt ((0 : Nat) + Int.toNat (Int.ofNat k)) h)
                          (N AX.normal
                            (mkF (78 : Nat)
                              [((0 : Nat),
                                  Value.slice (some { block := (0 : Nat), off := (0 : Nat), spot := some (0 : Nat) }) n
                                    n),
                                ((5 : Nat), Value.int IntKind.i64 d),
                                ((6 : Nat),
                                  Value.slice (some { block := (1 : Nat), off := (0 : Nat) }) (4 : Nat) (4 : Nat)),
                                ((7 : Nat), Value.int IntKind.i64 start), ((8 : Nat), Value.bool true),
                                ((9 : Nat), Value.int IntKind.i64 (IntKind.wrap IntKind.i64 (Int.ofNat k + (1 : Int))))])
                            (mkS
                              [some (AObj.row (1 : Nat) k h fun i => [Value.bool true]),
                                some
                                  (AObj.cells
                                    [Value.int IntKind.i64 (1 : Int), Value.int IntKind.i64 (0 : Int),
                                      Value.float FloatKind.f64 (0 : Nat), Value.int IntKind.i64 (4 : Int),
                                      Value.int IntKind.i64 (0 : Int), Value.float FloatKind.f64 (0 : Nat),
                                      Value.int IntKind.i64 (1 : Int), Value.int IntKind.i64 (1 : Int),
                                      Value.float FloatKind.f64 (0 : Nat), Value.int IntKind.i64 (4 : Int),
                                      Value.int IntKind.i64 start, Value.float FloatKind.f64 (0 : Nat)]
                                    true (0 : Nat))]))))
                      (N AX.normal
                        (mkF (78 : Nat)
                          [((0 : Nat),
                              Value.slice (some { block := (0 : Nat), off := (0 : Nat), spot := some (0 : Nat) }) n n),
                            ((5 : Nat), Value.int IntKind.i64 d),
                            ((6 : Nat), Value.slice (some { block := (1 : Nat), off := (0 : Nat) }) (4 : Nat) (4 : Nat)),
                            ((7 : Nat), Value.int IntKind.i64 start), ((8 : Nat), Value.bool true),
                            ((9 : Nat), Value.int IntKind.i64 (IntKind.wrap IntKind.i64 (Int.ofNat k + (1 : Int))))])
                        (mkS
                          [some (AObj.row (1 : Nat) k h fun i => [Value.bool true]),
                            some
                              (AObj.cells
                                [Value.int IntKind.i64 (1 : Int), Value.int IntKind.i64 (0 : Int),
                                  Value.float FloatKind.f64 (0 : Nat), Value.int IntKind.i64 (4 : Int),
                                  Value.int IntKind.i64 (0 : Int), Value.float FloatKind.f64 (0 : Nat),
                                  Value.int IntKind.i64 (1 : Int), Value.int IntKind.i64 (1 : Int),
                                  Value.float FloatKind.f64 (0 : Nat), Value.int IntKind.i64 (4 : Int),
                                  Value.int IntKind.i64 start, Value.float FloatKind.f64 (0 : Nat)]
                                true (0 : Nat))])))))))))))
    (N (AX.exit (0 : Nat)) (mkF (78 : Nat) []) (mkS [some (AObj.row (1 : Nat) k h fun i => [Value.bool true])])) := by kernel_rfl
theorem vc_pu_tf (n k h : Nat) (d : Int) (q et start : Int) (β : Bs) (N : Kt) (ex : Nat → Kt → Prop) : roundJ Try.prog toldB 100 20 β (fun _ => 20) (cnOf 1 fun _ => []) ex 5 0 1 (lvOf [0, 5, 6, 7, 8, 9])
    (mkF 78 [(0, .slice (some ⟨0, 0, some 0⟩) n n), (5, .int .i64 d), (6, .slice (some ⟨1, 0, none⟩) 4 4), (7, .int .i64 start), (8, .bool true), (9, .int .i64 (Int.ofNat k))])
    (mkS [some (oneB k h false), some (.cells (cell4 q et 1 start) true 0)]) N =
  br (decide (Int.ofNat k < Int.ofNat n))
    (need (Nat.blt (Int.toNat (Int.ofNat k)) n)
      (need (Nat.ble k ((0 : Nat) + Int.toNat (Int.ofNat k)) && Nat.blt ((0 : Nat) + Int.toNat (Int.ofNat k)) h)
        (br (decide (Int.ofNat k > start))
          (br
            (!!IntKind.wrap IntKind.i64
                    (if
                        IntKind.wrap IntKind.u64 (if (0 : Int) > d then (0 : Int) else d) <
                          IntKind.wrap IntKind.u64
                            (IntKind.wrap IntKind.u64 (Int.ofNat k) - IntKind.wrap IntKind.u64 start) then
                      IntKind.wrap IntKind.u64 (if (0 : Int) > d then (0 : Int) else d)
                    else
                      IntKind.wrap IntKind.u64
                        (IntKind.wrap IntKind.u64 (Int.ofNat k) - IntKind.wrap IntKind.u64 start)) ==
                  if (0 : Int) > d then (0 : Int) else d)
            (br
              (!!IntKind.wrap IntKind.i64
                      (if
                          IntKind.wrap IntKind.u64 (if (0 : Int) > d then (0 : Int) else d) <
                            IntKind.wrap IntKind.u64
                              (IntKind.wrap IntKind.u64 (Int.ofNat k) - IntKind.wrap IntKind.u64 start) then
                        IntKind.wrap IntKind.u64 (if (0 : Int) > d then (0 : Int) else d)
                      else
                        IntKind.wrap IntKind.u64
                          (IntKind.wrap IntKind.u64 (Int.ofNat k) - IntKind.wrap IntKind.u64 start)) ==
                    if (0 : Int) > d then (0 : Int) else d)
              (br
                (!!IntKind.wrap IntKind.i64
                        (if
                            IntKind.wrap IntKind.u64 (if (0 : Int) > d then (0 : Int) else d) <
                              IntKind.wrap IntKind.u64
                                (IntKind.wrap IntKind.u64 (Int.ofNat k) - IntKind.wrap IntKind.u64 start) then
                          IntKind.wrap IntKind.u64 (if (0 : Int) > d then (0 : Int) else d)
                        else
                          IntKind.wrap IntKind.u64
                            (IntKind.wrap IntKind.u64 (Int.ofNat k) - IntKind.wrap IntKind.u64 start)) ==
                      if (0 : Int) > d then (0 : Int) else d)
                (br (!false == decide (IntKind.wrap IntKind.i64 (Int.ofNat k - start) < d))
                  (N AX.ret (mkF (78 : Nat) []) (mkS [some (AObj.row (1 : Nat) k h fun i => [Value.bool false])]))
                  (br (decide (IntKind.wrap IntKind.i64 (Int.ofNat k - start) ≥ d))
                    (need (Nat.blt (Int.toNat (Int.ofNat k)) n)
                      (need
                        (Nat.ble k ((0 : Nat) + Int.toNat (Int.ofNat k)) &&
                          Nat.blt ((0 : Nat) + Int.toNat (Int.ofNat k)) h)
                        (N AX.normal
                          (mkF (78 : Nat)
                            [((0 : Nat),
                                Value.slice (some { block := (0 : Nat), off := (0 : Nat), spot := some (0 : Nat) }) n n),
                              ((5 : Nat), Value.int IntKind.i64 d),
                              ((6 : Nat),
                                Value.slice (some { block := (1 : Nat), off := (0 : Nat) }) (4 : Nat) (4 : Nat)),
                              ((7 : Nat), Value.int IntKind.i64 start), ((8 : Nat), Value.bool false),
                              ((9 : Nat), Value.int IntKind.i64 (IntKind.wrap IntKind.i64 (Int.ofNat k + (1 : Int))))])
                          (mkS
                            [some (AObj.row (1 : Nat) k h fun i => [Value.bool false]),
                              some
                                (AObj.cells
                                  [Value.int IntKind.i64 (1 : Int), Value.int IntKind.i64 (0 : Int),
                                    Value.float FloatKind.f64 (0 : Nat), Value.int IntKind.i64 (4 : Int),
                                    Value.int IntKind.i64 (0 : Int), Value.float FloatKind.f64 (0 : Nat),
                                    Value.int IntKind.i64 (1 : Int), Value.int IntKind.i64 (0 : Int),
                                    Value.float FloatKind.f64 (0 : Nat), Value.int IntKind.i64 (4 : Int),
                                    Value.int IntKind.i64 (0 : Int), Value.float FloatKind.f64 (0 : Nat)]
                                  true (0 : Nat))]))))
                    (N AX.normal
                      (mkF (78 : Nat)
                        [((0 : Nat),
                            Value.slice (some { block := (0 : Nat), off := (0 : Nat), spot := some (0 : Nat) }) n n),
                          ((5 : Nat), Value.int IntKind.i64 d),
                          ((6 : Nat), Value.slice (some { block := (1 : Nat), off := (0 : Nat) }) (4 : Nat) (4 : Nat)),
                          ((7 : Nat), Value.int IntKind.i64 start), ((8 : Nat), Value.bool true),
                          ((9 : Nat), Value.int IntKind.i64 (IntKind.wrap IntKind.i64 (Int.ofNat k + (1 : Int))))])
                      (mkS
                        [some (AObj.row (1 : Nat) k h fun i => [Value.bool false]),
                          some
                            (AObj.cells
                              [Value.int IntKind.i64 (1 : Int), Value.int IntKind.i64 (0 : Int),
                                Value.float FloatKind.f64 (0 : Nat), Value.int IntKind.i64 (4 : Int),
                                Value.int IntKind.i64 (0 : Int), Value.float FloatKind.f64 (0 : Nat),
                                Value.int IntKind.i64 (1 : Int), Value.int IntKind.i64 (0 : Int),
                                Value.float FloatKind.f64 (0 : Nat), Value.int IntKind.i64 (4 : Int),
                                Value.int IntKind.i64 (0 : Int), Value.float FloatKind.f64 (0 : Nat)]
                              true (0 : Nat))]))))
                (br
                  (!IntKind.wrap IntKind.i64
                        (if
                            IntKind.wrap IntKind.u64 (if (0 : Int) > d then (0 : Int) else d) <
                              IntKind.wrap IntKind.u64
                                (IntKind.wrap IntKind.u64 (Int.ofNat k) - IntKind.wrap IntKind.u64 start) then
                          IntKind.wrap IntKind.u64 (if (0 : Int) > d then (0 : Int) else d)
                        else
                          IntKind.wrap IntKind.u64
                            (IntKind.wrap IntKind.u64 (Int.ofNat k) - IntKind.wrap IntKind.u64 start)) ==
                      if (0 : Int) > d then (0 : Int) else d)
                  (br (!true == decide (IntKind.wrap IntKind.i64 (Int.ofNat k - start) < d))
                    (N AX.ret (mkF (78 : Nat) []) (mkS [some (AObj.row (1 : Nat) k h fun i => [Value.bool false])]))
                    (br (decide (IntKind.wrap IntKind.i64 (Int.ofNat k - start) ≥ d))
                      (need (Nat.blt (Int.toNat (Int.ofNat k)) n)
                        (need
                          (Nat.ble k ((0 : Nat) + Int.toNat (Int.ofNat k)) &&
                            Nat.blt ((0 : Nat) + Int.toNat (Int.ofNat k)) h)
                          (N AX.normal
                            (mkF (78 : Nat)
                              [((0 : Nat),
                                  Value.slice (some { block := (0 : Nat), off := (0 : Nat), spot := some (0 : Nat) }) n
                                    n),
                                ((5 : Nat), Value.int IntKind.i64 d),
                                ((6 : Nat),
                                  Value.slice (some { block := (1 : Nat), off := (0 : Nat) }) (4 : Nat) (4 : Nat)),
                                ((7 : Nat), Value.int IntKind.i64 start), ((8 : Nat), Value.bool false),
                                ((9 : Nat), Value.int IntKind.i64 (IntKind.wrap IntKind.i64 (Int.ofNat k + (1 : Int))))])
                            (mkS
                              [some (AObj.row (1 : Nat) k h fun i => [Value.bool false]),
                                some
                                  (AObj.cells
                                    [Value.int IntKind.i64 (1 : Int), Value.int IntKind.i64 (1 : Int),
                                      Value.float FloatKind.f64 (0 : Nat), Value.int IntKind.i64 (4 : Int),
                                      Value.int IntKind.i64
                                        (IntKind.wrap IntKind.i64
                                          (if
                                              IntKind.wrap IntKind.u64 (if (0 : Int) > d then (0 : Int) else d) <
                                                IntKind.wrap IntKind.u64
                                                  (IntKind.wrap IntKind.u64 (Int.ofNat k) -
                                                    IntKind.wrap IntKind.u64 start) then
                                            IntKind.wrap IntKind.u64 (if (0 : Int) > d then (0 : Int) else d)
                                          else
                                            IntKind.wrap IntKind.u64
                                              (IntKind.wrap IntKind.u64 (Int.ofNat k) - IntKind.wrap IntKind.u64 start))),
                                      Value.float FloatKind.f64 (0 : Nat), Value.int IntKind.i64 (1 : Int),
                                      Value.int IntKind.i64 (1 : Int), Value.float FloatKind.f64 (0 : Nat),
                                      Value.int IntKind.i64 (4 : Int), Value.int IntKind.i64 start,
                                      Value.float FloatKind.f64 (0 : Nat)]
                                    true (0 : Nat))]))))
                      (N AX.normal
                        (mkF (78 : Nat)
                          [((0 : Nat),
                              Value.slice (some { block := (0 : Nat), off := (0 : Nat), spot := some (0 : Nat) }) n n),
                            ((5 : Nat), Value.int IntKind.i64 d),
                            ((6 : Nat), Value.slice (some { block := (1 : Nat), off := (0 : Nat) }) (4 : Nat) (4 : Nat)),
                            ((7 : Nat), Value.int IntKind.i64 start), ((8 : Nat), Value.bool true),
                            ((9 : Nat), Value.int IntKind.i64 (IntKind.wrap IntKind.i64 (Int.ofNat k + (1 : Int))))])
                        (mkS
                          [some (AObj.row (1 : Nat) k h fun i => [Value.bool false]),
                            some
                              (AObj.cells
                                [Value.int IntKind.i64 (1 : Int), Value.int IntKind.i64 (1 : Int),
                                  Value.float FloatKind.f64 (0 : Nat), Value.int IntKind.i64 (4 : Int),
                                  Value.int IntKind.i64
                                    (IntKind.wrap IntKind.i64
                                      (if
                                          IntKind.wrap IntKind.u64 (if (0 : Int) > d then (0 : Int) else d) <
                                            IntKind.wrap IntKind.u64
                                              (IntKind.wrap IntKind.u64 (Int.ofNat k) -
                                                IntKind.wrap IntKind.u64 start) then
                                        IntKind.wrap IntKind.u64 (if (0 : Int) > d then (0 : Int) else d)
                                      else
                                        IntKind.wrap IntKind.u64
                                          (IntKind.wrap IntKind.u64 (Int.ofNat k) - IntKind.wrap IntKind.u64 start))),
                                  Value.float FloatKind.f64 (0 : Nat), Value.int IntKind.i64 (1 : Int),
                                  Value.int IntKind.i64 (1 : Int), Value.float FloatKind.f64 (0 : Nat),
                                  Value.int IntKind.i64 (4 : Int), Value.int IntKind.i64 start,
                                  Value.float FloatKind.f64 (0 : Nat)]
                                true (0 : Nat))]))))
                  (br (!false == decide (IntKind.wrap IntKind.i64 (Int.ofNat k - start) < d))
                    (N AX.ret (mkF (78 : Nat) []) (mkS [some (AObj.row (1 : Nat) k h fun i => [Value.bool false])]))
                    (br (decide (IntKind.wrap IntKind.i64 (Int.ofNat k - start) ≥ d))
                      (need (Nat.blt (Int.toNat (Int.ofNat k)) n)
                        (need
                          (Nat.ble k ((0 : Nat) + Int.toNat (Int.ofNat k)) &&
                            Nat.blt ((0 : Nat) + Int.toNat (Int.ofNat k)) h)
                          (N AX.normal
                            (mkF (78 : Nat)
                              [((0 : Nat),
                                  Value.slice (some { block := (0 : Nat), off := (0 : Nat), spot := some (0 : Nat) }) n
                                    n),
                                ((5 : Nat), Value.int IntKind.i64 d),
                                ((6 : Nat),
                                  Value.slice (some { block := (1 : Nat), off := (0 : Nat) }) (4 : Nat) (4 : Nat)),
                                ((7 : Nat), Value.int IntKind.i64 start), ((8 : Nat), Value.bool false),
                                ((9 : Nat), Value.int IntKind.i64 (IntKind.wrap IntKind.i64 (Int.ofNat k + (1 : Int))))])
                            (mkS
                              [some (AObj.row (1 : Nat) k h fun i => [Value.bool false]),
                                some
                                  (AObj.cells
                                    [Value.int IntKind.i64 (1 : Int), Value.int IntKind.i64 (0 : Int),
                                      Value.float FloatKind.f64 (0 : Nat), Value.int IntKind.i64 (4 : Int),
                                      Value.int IntKind.i64
                                        (IntKind.wrap IntKind.i64
                                          (if
                                              IntKind.wrap IntKind.u64 (if (0 : Int) > d then (0 : Int) else d) <
                                                IntKind.wrap IntKind.u64
                                                  (IntKind.wrap IntKind.u64 (Int.ofNat k) -
                                                    IntKind.wrap IntKind.u64 start) then
                                            IntKind.wrap IntKind.u64 (if (0 : Int) > d then (0 : Int) else d)
                                          else
                                            IntKind.wrap IntKind.u64
                                              (IntKind.wrap IntKind.u64 (Int.ofNat k) - IntKind.wrap IntKind.u64 start))),
                                      Value.float FloatKind.f64 (0 : Nat), Value.int IntKind.i64 (1 : Int),
                                      Value.int IntKind.i64 (1 : Int), Value.float FloatKind.f64 (0 : Nat),
                                      Value.int IntKind.i64 (4 : Int), Value.int IntKind.i64 start,
                                      Value.float FloatKind.f64 (0 : Nat)]
                                    true (0 : Nat))]))))
                      (N AX.normal
                        (mkF (78 : Nat)
                          [((0 : Nat),
                              Value.slice (some { block := (0 : Nat), off := (0 : Nat), spot := some (0 : Nat) }) n n),
                            ((5 : Nat), Value.int IntKind.i64 d),
                            ((6 : Nat), Value.slice (some { block := (1 : Nat), off := (0 : Nat) }) (4 : Nat) (4 : Nat)),
                            ((7 : Nat), Value.int IntKind.i64 start), ((8 : Nat), Value.bool true),
                            ((9 : Nat), Value.int IntKind.i64 (IntKind.wrap IntKind.i64 (Int.ofNat k + (1 : Int))))])
                        (mkS
                          [some (AObj.row (1 : Nat) k h fun i => [Value.bool false]),
                            some
                              (AObj.cells
                                [Value.int IntKind.i64 (1 : Int), Value.int IntKind.i64 (0 : Int),
                                  Value.float FloatKind.f64 (0 : Nat), Value.int IntKind.i64 (4 : Int),
                                  Value.int IntKind.i64
                                    (IntKind.wrap IntKind.i64
                                      (if
                                          IntKind.wrap IntKind.u64 (if (0 : Int) > d then (0 : Int) else d) <
                                            IntKind.wrap IntKind.u64
                                              (IntKind.wrap IntKind.u64 (Int.ofNat k) -
                                                IntKind.wrap IntKind.u64 start) then
                                        IntKind.wrap IntKind.u64 (if (0 : Int) > d then (0 : Int) else d)
                                      else
                                        IntKind.wrap IntKind.u64
                                          (IntKind.wrap IntKind.u64 (Int.ofNat k) - IntKind.wrap IntKind.u64 start))),
                                  Value.float FloatKind.f64 (0 : Nat), Value.int IntKind.i64 (1 : Int),
                                  Value.int IntKind.i64 (1 : Int), Value.float FloatKind.f64 (0 : Nat),
                                  Value.int IntKind.i64 (4 : Int), Value.int IntKind.i64 start,
                                  Value.float FloatKind.f64 (0 : Nat)]
                                true (0 : Nat))]))))))
              (br
                (!!IntKind.wrap IntKind.i64
                        (if
                            IntKind.wrap IntKind.u64 (if (0 : Int) > d then (0 : Int) else d) <
                              IntKind.wrap IntKind.u64
                                (IntKind.wrap IntKind.u64 (Int.ofNat k) - IntKind.wrap IntKind.u64 start) then
                          IntKind.wrap IntKind.u64 (if (0 : Int) > d then (0 : Int) else d)
                        else
                          IntKind.wrap IntKind.u64
                            (IntKind.wrap IntKind.u64 (Int.ofNat k) - IntKind.wrap IntKind.u64 start)) ==
                      if (0 : Int) > d then (0 : Int) else d)
                False
                (br
                  (!IntKind.wrap IntKind.i64
                        (if
                            IntKind.wrap IntKind.u64 (if (0 : Int) > d then (0 : Int) else d) <
                              IntKind.wrap IntKind.u64
                                (IntKind.wrap IntKind.u64 (Int.ofNat k) - IntKind.wrap IntKind.u64 start) then
                          IntKind.wrap IntKind.u64 (if (0 : Int) > d then (0 : Int) else d)
                        else
                          IntKind.wrap IntKind.u64
                            (IntKind.wrap IntKind.u64 (Int.ofNat k) - IntKind.wrap IntKind.u64 start)) ==
                      if (0 : Int) > d then (0 : Int) else d)
                  (br (!true == decide (IntKind.wrap IntKind.i64 (Int.ofNat k - start) < d))
                    (N AX.ret (mkF (78 : Nat) []) (mkS [some (AObj.row (1 : Nat) k h fun i => [Value.bool false])]))
                    (br (decide (IntKind.wrap IntKind.i64 (Int.ofNat k - start) ≥ d))
                      (need (Nat.blt (Int.toNat (Int.ofNat k)) n)
                        (need
                          (Nat.ble k ((0 : Nat) + Int.toNat (Int.ofNat k)) &&
                            Nat.blt ((0 : Nat) + Int.toNat (Int.ofNat k)) h)
                          (N AX.normal
                            (mkF (78 : Nat)
                              [((0 : Nat),
                                  Value.slice (some { block := (0 : Nat), off := (0 : Nat), spot := some (0 : Nat) }) n
                                    n),
                                ((5 : Nat), Value.int IntKind.i64 d),
                                ((6 : Nat),
                                  Value.slice (some { block := (1 : Nat), off := (0 : Nat) }) (4 : Nat) (4 : Nat)),
                                ((7 : Nat), Value.int IntKind.i64 start), ((8 : Nat), Value.bool false),
                                ((9 : Nat), Value.int IntKind.i64 (IntKind.wrap IntKind.i64 (Int.ofNat k + (1 : Int))))])
                            (mkS
                              [some (AObj.row (1 : Nat) k h fun i => [Value.bool false]),
                                some
                                  (AObj.cells
                                    [Value.int IntKind.i64 (1 : Int), Value.int IntKind.i64 (1 : Int),
                                      Value.float FloatKind.f64 (0 : Nat), Value.int IntKind.i64 (4 : Int),
                                      Value.int IntKind.i64
                                        (IntKind.wrap IntKind.i64
                                          (if
                                              IntKind.wrap IntKind.u64 (if (0 : Int) > d then (0 : Int) else d) <
                                                IntKind.wrap IntKind.u64
                                                  (IntKind.wrap IntKind.u64 (Int.ofNat k) -
                                                    IntKind.wrap IntKind.u64 start) then
                                            IntKind.wrap IntKind.u64 (if (0 : Int) > d then (0 : Int) else d)
                                          else
                                            IntKind.wrap IntKind.u64
                                              (IntKind.wrap IntKind.u64 (Int.ofNat k) - IntKind.wrap IntKind.u64 start))),
                                      Value.float FloatKind.f64 (0 : Nat), Value.int IntKind.i64 (1 : Int),
                                      Value.int IntKind.i64 (1 : Int), Value.float FloatKind.f64 (0 : Nat),
                                      Value.int IntKind.i64 (4 : Int), Value.int IntKind.i64 start,
                                      Value.float FloatKind.f64 (0 : Nat)]
                                    true (0 : Nat))]))))
                      (N AX.normal
                        (mkF (78 : Nat)
                          [((0 : Nat),
                              Value.slice (some { block := (0 : Nat), off := (0 : Nat), spot := some (0 : Nat) }) n n),
                            ((5 : Nat), Value.int IntKind.i64 d),
                            ((6 : Nat), Value.slice (some { block := (1 : Nat), off := (0 : Nat) }) (4 : Nat) (4 : Nat)),
                            ((7 : Nat), Value.int IntKind.i64 start), ((8 : Nat), Value.bool true),
                            ((9 : Nat), Value.int IntKind.i64 (IntKind.wrap IntKind.i64 (Int.ofNat k + (1 : Int))))])
                        (mkS
                          [some (AObj.row (1 : Nat) k h fun i => [Value.bool false]),
                            some
                              (AObj.cells
                                [Value.int IntKind.i64 (1 : Int), Value.int IntKind.i64 (1 : Int),
                                  Value.float FloatKind.f64 (0 : Nat), Value.int IntKind.i64 (4 : Int),
                                  Value.int IntKind.i64
                                    (IntKind.wrap IntKind.i64
                                      (if
                                          IntKind.wrap IntKind.u64 (if (0 : Int) > d then (0 : Int) else d) <
                                            IntKind.wrap IntKind.u64
                                              (IntKind.wrap IntKind.u64 (Int.ofNat k) -
                                                IntKind.wrap IntKind.u64 start) then
                                        IntKind.wrap IntKind.u64 (if (0 : Int) > d then (0 : Int) else d)
                                      else
                                        IntKind.wrap IntKind.u64
                                          (IntKind.wrap IntKind.u64 (Int.ofNat k) - IntKind.wrap IntKind.u64 start))),
                                  Value.float FloatKind.f64 (0 : Nat), Value.int IntKind.i64 (1 : Int),
                                  Value.int IntKind.i64 (1 : Int), Value.float FloatKind.f64 (0 : Nat),
                                  Value.int IntKind.i64 (4 : Int), Value.int IntKind.i64 start,
                                  Value.float FloatKind.f64 (0 : Nat)]
                                true (0 : Nat))]))))
                  (br (!false == decide (IntKind.wrap IntKind.i64 (Int.ofNat k - start) < d))
                    (N AX.ret (mkF (78 : Nat) []) (mkS [some (AObj.row (1 : Nat) k h fun i => [Value.bool false])]))
                    (br (decide (IntKind.wrap IntKind.i64 (Int.ofNat k - start) ≥ d))
                      (need (Nat.blt (Int.toNat (Int.ofNat k)) n)
                        (need
                          (Nat.ble k ((0 : Nat) + Int.toNat (Int.ofNat k)) &&
                            Nat.blt ((0 : Nat) + Int.toNat (Int.ofNat k)) h)
                          (N AX.normal
                            (mkF (78 : Nat)
                              [((0 : Nat),
                                  Value.slice (some { block := (0 : Nat), off := (0 : Nat), spot := some (0 : Nat) }) n
                                    n),
                                ((5 : Nat), Value.int IntKind.i64 d),
                                ((6 : Nat),
                                  Value.slice (some { block := (1 : Nat), off := (0 : Nat) }) (4 : Nat) (4 : Nat)),
                                ((7 : Nat), Value.int IntKind.i64 start), ((8 : Nat), Value.bool false),
                                ((9 : Nat), Value.int IntKind.i64 (IntKind.wrap IntKind.i64 (Int.ofNat k + (1 : Int))))])
                            (mkS
                              [some (AObj.row (1 : Nat) k h fun i => [Value.bool false]),
                                some
                                  (AObj.cells
                                    [Value.int IntKind.i64 (1 : Int), Value.int IntKind.i64 (0 : Int),
                                      Value.float FloatKind.f64 (0 : Nat), Value.int IntKind.i64 (4 : Int),
                                      Value.int IntKind.i64
                                        (IntKind.wrap IntKind.i64
                                          (if
                                              IntKind.wrap IntKind.u64 (if (0 : Int) > d then (0 : Int) else d) <
                                                IntKind.wrap IntKind.u64
                                                  (IntKind.wrap IntKind.u64 (Int.ofNat k) -
                                                    IntKind.wrap IntKind.u64 start) then
                                            IntKind.wrap IntKind.u64 (if (0 : Int) > d then (0 : Int) else d)
                                          else
                                            IntKind.wrap IntKind.u64
                                              (IntKind.wrap IntKind.u64 (Int.ofNat k) - IntKind.wrap IntKind.u64 start))),
                                      Value.float FloatKind.f64 (0 : Nat), Value.int IntKind.i64 (1 : Int),
                                      Value.int IntKind.i64 (1 : Int), Value.float FloatKind.f64 (0 : Nat),
                                      Value.int IntKind.i64 (4 : Int), Value.int IntKind.i64 start,
                                      Value.float FloatKind.f64 (0 : Nat)]
                                    true (0 : Nat))]))))
                      (N AX.normal
                        (mkF (78 : Nat)
                          [((0 : Nat),
                              Value.slice (some { block := (0 : Nat), off := (0 : Nat), spot := some (0 : Nat) }) n n),
                            ((5 : Nat), Value.int IntKind.i64 d),
                            ((6 : Nat), Value.slice (some { block := (1 : Nat), off := (0 : Nat) }) (4 : Nat) (4 : Nat)),
                            ((7 : Nat), Value.int IntKind.i64 start), ((8 : Nat), Value.bool true),
                            ((9 : Nat), Value.int IntKind.i64 (IntKind.wrap IntKind.i64 (Int.ofNat k + (1 : Int))))])
                        (mkS
                          [some (AObj.row (1 : Nat) k h fun i => [Value.bool false]),
                            some
                              (AObj.cells
                                [Value.int IntKind.i64 (1 : Int), Value.int IntKind.i64 (0 : Int),
                                  Value.float FloatKind.f64 (0 : Nat), Value.int IntKind.i64 (4 : Int),
                                  Value.int IntKind.i64
                                    (IntKind.wrap IntKind.i64
                                      (if
                                          IntKind.wrap IntKind.u64 (if (0 : Int) > d then (0 : Int) else d) <
                                            IntKind.wrap IntKind.u64
                                              (IntKind.wrap IntKind.u64 (Int.ofNat k) -
                                                IntKind.wrap IntKind.u64 start) then
                                        IntKind.wrap IntKind.u64 (if (0 : Int) > d then (0 : Int) else d)
                                      else
                                        IntKind.wrap IntKind.u64
                                          (IntKind.wrap IntKind.u64 (Int.ofNat k) - IntKind.wrap IntKind.u64 start))),
                                  Value.float FloatKind.f64 (0 : Nat), Value.int IntKind.i64 (1 : Int),
                                  Value.int IntKind.i64 (1 : Int), Value.float FloatKind.f64 (0 : Nat),
                                  Value.int IntKind.i64 (4 : Int), Value.int IntKind.i64 start,
                                  Value.float FloatKind.f64 (0 : Nat)]
                                true (0 : Nat))])))))))
            (br
              (!!IntKind.wrap IntKind.i64
                      (if
                          IntKind.wrap IntKind.u64 (if (0 : Int) > d then (0 : Int) else d) <
                            IntKind.wrap IntKind.u64
                              (IntKind.wrap IntKind.u64 (Int.ofNat k) - IntKind.wrap IntKind.u64 start) then
                        IntKind.wrap IntKind.u64 (if (0 : Int) > d then (0 : Int) else d)
                      else
                        IntKind.wrap IntKind.u64
                          (IntKind.wrap IntKind.u64 (Int.ofNat k) - IntKind.wrap IntKind.u64 start)) ==
                    if (0 : Int) > d then (0 : Int) else d)
              False
              (br
                (!!IntKind.wrap IntKind.i64
                        (if
                            IntKind.wrap IntKind.u64 (if (0 : Int) > d then (0 : Int) else d) <
                              IntKind.wrap IntKind.u64
                                (IntKind.wrap IntKind.u64 (Int.ofNat k) - IntKind.wrap IntKind.u64 start) then
                          IntKind.wrap IntKind.u64 (if (0 : Int) > d then (0 : Int) else d)
                        else
                          IntKind.wrap IntKind.u64
                            (IntKind.wrap IntKind.u64 (Int.ofNat k) - IntKind.wrap IntKind.u64 start)) ==
                      if (0 : Int) > d then (0 : Int) else d)
                False
                (br
                  (!IntKind.wrap IntKind.i64
                        (if
                            IntKind.wrap IntKind.u64 (if (0 : Int) > d then (0 : Int) else d) <
                              IntKind.wrap IntKind.u64
                                (IntKind.wrap IntKind.u64 (Int.ofNat k) - IntKind.wrap IntKind.u64 start) then
                          IntKind.wrap IntKind.u64 (if (0 : Int) > d then (0 : Int) else d)
                        else
                          IntKind.wrap IntKind.u64
                            (IntKind.wrap IntKind.u64 (Int.ofNat k) - IntKind.wrap IntKind.u64 start)) ==
                      if (0 : Int) > d then (0 : Int) else d)
                  (br (!true == decide (IntKind.wrap IntKind.i64 (Int.ofNat k - start) < d))
                    (N AX.ret (mkF (78 : Nat) []) (mkS [some (AObj.row (1 : Nat) k h fun i => [Value.bool false])]))
                    (br (decide (IntKind.wrap IntKind.i64 (Int.ofNat k - start) ≥ d))
                      (need (Nat.blt (Int.toNat (Int.ofNat k)) n)
                        (need
                          (Nat.ble k ((0 : Nat) + Int.toNat (Int.ofNat k)) &&
                            Nat.blt ((0 : Nat) + Int.toNat (Int.ofNat k)) h)
                          (N AX.normal
                            (mkF (78 : Nat)
                              [((0 : Nat),
                                  Value.slice (some { block := (0 : Nat), off := (0 : Nat), spot := some (0 : Nat) }) n
                                    n),
                                ((5 : Nat), Value.int IntKind.i64 d),
                                ((6 : Nat),
                                  Value.slice (some { block := (1 : Nat), off := (0 : Nat) }) (4 : Nat) (4 : Nat)),
                                ((7 : Nat), Value.int IntKind.i64 start), ((8 : Nat), Value.bool false),
                                ((9 : Nat), Value.int IntKind.i64 (IntKind.wrap IntKind.i64 (Int.ofNat k + (1 : Int))))])
                            (mkS
                              [some (AObj.row (1 : Nat) k h fun i => [Value.bool false]),
                                some
                                  (AObj.cells
                                    [Value.int IntKind.i64 (1 : Int), Value.int IntKind.i64 (1 : Int),
                                      Value.float FloatKind.f64 (0 : Nat), Value.int IntKind.i64 (4 : Int),
                                      Value.int IntKind.i64
                                        (IntKind.wrap IntKind.i64
                                          (if
                                              IntKind.wrap IntKind.u64 (if (0 : Int) > d then (0 : Int) else d) <
                                                IntKind.wrap IntKind.u64
                                                  (IntKind.wrap IntKind.u64 (Int.ofNat k) -
                                                    IntKind.wrap IntKind.u64 start) then
                                            IntKind.wrap IntKind.u64 (if (0 : Int) > d then (0 : Int) else d)
                                          else
                                            IntKind.wrap IntKind.u64
                                              (IntKind.wrap IntKind.u64 (Int.ofNat k) - IntKind.wrap IntKind.u64 start))),
                                      Value.float FloatKind.f64 (0 : Nat), Value.int IntKind.i64 (1 : Int),
                                      Value.int IntKind.i64 (1 : Int), Value.float FloatKind.f64 (0 : Nat),
                                      Value.int IntKind.i64 (4 : Int), Value.int IntKind.i64 start,
                                      Value.float FloatKind.f64 (0 : Nat)]
                                    true (0 : Nat))]))))
                      (N AX.normal
                        (mkF (78 : Nat)
                          [((0 : Nat),
                              Value.slice (some { block := (0 : Nat), off := (0 : Nat), spot := some (0 : Nat) }) n n),
                            ((5 : Nat), Value.int IntKind.i64 d),
                            ((6 : Nat), Value.slice (some { block := (1 : Nat), off := (0 : Nat) }) (4 : Nat) (4 : Nat)),
                            ((7 : Nat), Value.int IntKind.i64 start), ((8 : Nat), Value.bool true),
                            ((9 : Nat), Value.int IntKind.i64 (IntKind.wrap IntKind.i64 (Int.ofNat k + (1 : Int))))])
                        (mkS
                          [some (AObj.row (1 : Nat) k h fun i => [Value.bool false]),
                            some
                              (AObj.cells
                                [Value.int IntKind.i64 (1 : Int), Value.int IntKind.i64 (1 : Int),
                                  Value.float FloatKind.f64 (0 : Nat), Value.int IntKind.i64 (4 : Int),
                                  Value.int IntKind.i64
                                    (IntKind.wrap IntKind.i64
                                      (if
                                          IntKind.wrap IntKind.u64 (if (0 : Int) > d then (0 : Int) else d) <
                                            IntKind.wrap IntKind.u64
                                              (IntKind.wrap IntKind.u64 (Int.ofNat k) -
                                                IntKind.wrap IntKind.u64 start) then
                                        IntKind.wrap IntKind.u64 (if (0 : Int) > d then (0 : Int) else d)
                                      else
                                        IntKind.wrap IntKind.u64
                                          (IntKind.wrap IntKind.u64 (Int.ofNat k) - IntKind.wrap IntKind.u64 start))),
                                  Value.float FloatKind.f64 (0 : Nat), Value.int IntKind.i64 (1 : Int),
                                  Value.int IntKind.i64 (1 : Int), Value.float FloatKind.f64 (0 : Nat),
                                  Value.int IntKind.i64 (4 : Int), Value.int IntKind.i64 start,
                                  Value.float FloatKind.f64 (0 : Nat)]
                                true (0 : Nat))]))))
                  (br (!false == decide (IntKind.wrap IntKind.i64 (Int.ofNat k - start) < d))
                    (N AX.ret (mkF (78 : Nat) []) (mkS [some (AObj.row (1 : Nat) k h fun i => [Value.bool false])]))
                    (br (decide (IntKind.wrap IntKind.i64 (Int.ofNat k - start) ≥ d))
                      (need (Nat.blt (Int.toNat (Int.ofNat k)) n)
                        (need
                          (Nat.ble k ((0 : Nat) + Int.toNat (Int.ofNat k)) &&
                            Nat.blt ((0 : Nat) + Int.toNat (Int.ofNat k)) h)
                          (N AX.normal
                            (mkF (78 : Nat)
                              [((0 : Nat),
                                  Value.slice (some { block := (0 : Nat), off := (0 : Nat), spot := some (0 : Nat) }) n
                                    n),
                                ((5 : Nat), Value.int IntKind.i64 d),
                                ((6 : Nat),
                                  Value.slice (some { block := (1 : Nat), off := (0 : Nat) }) (4 : Nat) (4 : Nat)),
                                ((7 : Nat), Value.int IntKind.i64 start), ((8 : Nat), Value.bool false),
                                ((9 : Nat), Value.int IntKind.i64 (IntKind.wrap IntKind.i64 (Int.ofNat k + (1 : Int))))])
                            (mkS
                              [some (AObj.row (1 : Nat) k h fun i => [Value.bool false]),
                                some
                                  (AObj.cells
                                    [Value.int IntKind.i64 (1 : Int), Value.int IntKind.i64 (0 : Int),
                                      Value.float FloatKind.f64 (0 : Nat), Value.int IntKind.i64 (4 : Int),
                                      Value.int IntKind.i64
                                        (IntKind.wrap IntKind.i64
                                          (if
                                              IntKind.wrap IntKind.u64 (if (0 : Int) > d then (0 : Int) else d) <
                                                IntKind.wrap IntKind.u64
                                                  (IntKind.wrap IntKind.u64 (Int.ofNat k) -
                                                    IntKind.wrap IntKind.u64 start) then
                                            IntKind.wrap IntKind.u64 (if (0 : Int) > d then (0 : Int) else d)
                                          else
                                            IntKind.wrap IntKind.u64
                                              (IntKind.wrap IntKind.u64 (Int.ofNat k) - IntKind.wrap IntKind.u64 start))),
                                      Value.float FloatKind.f64 (0 : Nat), Value.int IntKind.i64 (1 : Int),
                                      Value.int IntKind.i64 (1 : Int), Value.float FloatKind.f64 (0 : Nat),
                                      Value.int IntKind.i64 (4 : Int), Value.int IntKind.i64 start,
                                      Value.float FloatKind.f64 (0 : Nat)]
                                    true (0 : Nat))]))))
                      (N AX.normal
                        (mkF (78 : Nat)
                          [((0 : Nat),
                              Value.slice (some { block := (0 : Nat), off := (0 : Nat), spot := some (0 : Nat) }) n n),
                            ((5 : Nat), Value.int IntKind.i64 d),
                            ((6 : Nat), Value.slice (some { block := (1 : Nat), off := (0 : Nat) }) (4 : Nat) (4 : Nat)),
                            ((7 : Nat), Value.int IntKind.i64 start), ((8 : Nat), Value.bool true),
                            ((9 : Nat), Value.int IntKind.i64 (IntKind.wrap IntKind.i64 (Int.ofNat k + (1 : Int))))])
                        (mkS
                          [some (AObj.row (1 : Nat) k h fun i => [Value.bool false]),
                            some
                              (AObj.cells
                                [Value.int IntKind.i64 (1 : Int), Value.int IntKind.i64 (0 : Int),
                                  Value.float FloatKind.f64 (0 : Nat), Value.int IntKind.i64 (4 : Int),
                                  Value.int IntKind.i64
                                    (IntKind.wrap IntKind.i64
                                      (if
                                          IntKind.wrap IntKind.u64 (if (0 : Int) > d then (0 : Int) else d) <
                                            IntKind.wrap IntKind.u64
                                              (IntKind.wrap IntKind.u64 (Int.ofNat k) -
                                                IntKind.wrap IntKind.u64 start) then
                                        IntKind.wrap IntKind.u64 (if (0 : Int) > d then (0 : Int) else d)
                                      else
                                        IntKind.wrap IntKind.u64
                                          (IntKind.wrap IntKind.u64 (Int.ofNat k) - IntKind.wrap IntKind.u64 start))),
                                  Value.float FloatKind.f64 (0 : Nat), Value.int IntKind.i64 (1 : Int),
                                  Value.int IntKind.i64 (1 : Int), Value.float FloatKind.f64 (0 : Nat),
                                  Value.int IntKind.i64 (4 : Int), Value.int IntKind.i64 start,
                                  Value.float FloatKind.f64 (0 : Nat)]
                                true (0 : Nat))]))))))))
          (br (!!(0 : Int) == if (0 : Int) > d then (0 : Int) else d)
            (br (!!(0 : Int) == if (0 : Int) > d then (0 : Int) else d)
              (br (!!(0 : Int) == if (0 : Int) > d then (0 : Int) else d)
                (br (!false == decide (IntKind.wrap IntKind.i64 (Int.ofNat k - start) < d))
                  (N AX.ret (mkF (78 : Nat) []) (mkS [some (AObj.row (1 : Nat) k h fun i => [Value.bool false])]))
                  (br (decide (IntKind.wrap IntKind.i64 (Int.ofNat k - start) ≥ d))
                    (need (Nat.blt (Int.toNat (Int.ofNat k)) n)
                      (need
                        (Nat.ble k ((0 : Nat) + Int.toNat (Int.ofNat k)) &&
                          Nat.blt ((0 : Nat) + Int.toNat (Int.ofNat k)) h)
                        (N AX.normal
                          (mkF (78 : Nat)
                            [((0 : Nat),
                                Value.slice (some { block := (0 : Nat), off := (0 : Nat), spot := some (0 : Nat) }) n n),
                              ((5 : Nat), Value.int IntKind.i64 d),
                              ((6 : Nat),
                                Value.slice (some { block := (1 : Nat), off := (0 : Nat) }) (4 : Nat) (4 : Nat)),
                              ((7 : Nat), Value.int IntKind.i64 start), ((8 : Nat), Value.bool false),
                              ((9 : Nat), Value.int IntKind.i64 (IntKind.wrap IntKind.i64 (Int.ofNat k + (1 : Int))))])
                          (mkS
                            [some (AObj.row (1 : Nat) k h fun i => [Value.bool false]),
                              some
                                (AObj.cells
                                  [Value.int IntKind.i64 (1 : Int), Value.int IntKind.i64 (0 : Int),
                                    Value.float FloatKind.f64 (0 : Nat), Value.int IntKind.i64 (4 : Int),
                                    Value.int IntKind.i64 (0 : Int), Value.float FloatKind.f64 (0 : Nat),
                                    Value.int IntKind.i64 (1 : Int), Value.int IntKind.i64 (0 : Int),
                                    Value.float FloatKind.f64 (0 : Nat), Value.int IntKind.i64 (4 : Int),
                                    Value.int IntKind.i64 (0 : Int), Value.float FloatKind.f64 (0 : Nat)]
                                  true (0 : Nat))]))))
                    (N AX.normal
                      (mkF (78 : Nat)
                        [((0 : Nat),
                            Value.slice (some { block := (0 : Nat), off := (0 : Nat), spot := some (0 : Nat) }) n n),
                          ((5 : Nat), Value.int IntKind.i64 d),
                          ((6 : Nat), Value.slice (some { block := (1 : Nat), off := (0 : Nat) }) (4 : Nat) (4 : Nat)),
                          ((7 : Nat), Value.int IntKind.i64 start), ((8 : Nat), Value.bool true),
                          ((9 : Nat), Value.int IntKind.i64 (IntKind.wrap IntKind.i64 (Int.ofNat k + (1 : Int))))])
                      (mkS
                        [some (AObj.row (1 : Nat) k h fun i => [Value.bool false]),
                          some
                            (AObj.cells
                              [Value.int IntKind.i64 (1 : Int), Value.int IntKind.i64 (0 : Int),
                                Value.float FloatKind.f64 (0 : Nat), Value.int IntKind.i64 (4 : Int),
                                Value.int IntKind.i64 (0 : Int), Value.float FloatKind.f64 (0 : Nat),
                                Value.int IntKind.i64 (1 : Int), Value.int IntKind.i64 (0 : Int),
                                Value.float FloatKind.f64 (0 : Nat), Value.int IntKind.i64 (4 : Int),
                                Value.int IntKind.i64 (0 : Int), Value.float FloatKind.f64 (0 : Nat)]
                              true (0 : Nat))]))))
                (br (!(0 : Int) == if (0 : Int) > d then (0 : Int) else d)
                  (br (!true == decide (IntKind.wrap IntKind.i64 (Int.ofNat k - start) < d))
                    (N AX.ret (mkF (78 : Nat) []) (mkS [some (AObj.row (1 : Nat) k h fun i => [Value.bool false])]))
                    (br (decide (IntKind.wrap IntKind.i64 (Int.ofNat k - start) ≥ d))
                      (need (Nat.blt (Int.toNat (Int.ofNat k)) n)
                        (need
                          (Nat.ble k ((0 : Nat) + Int.toNat (Int.ofNat k)) &&
                            Nat.blt ((0 : Nat) + Int.toNat (Int.ofNat k)) h)
                          (N AX.normal
                            (mkF (78 : Nat)
                              [((0 : Nat),
                                  Value.slice (some { block := (0 : Nat), off := (0 : Nat), spot := some (0 : Nat) }) n
                                    n),
                                ((5 : Nat), Value.int IntKind.i64 d),
                                ((6 : Nat),
                                  Value.slice (some { block := (1 : Nat), off := (0 : Nat) }) (4 : Nat) (4 : Nat)),
                                ((7 : Nat), Value.int IntKind.i64 start), ((8 : Nat), Value.bool false),
                                ((9 : Nat), Value.int IntKind.i64 (IntKind.wrap IntKind.i64 (Int.ofNat k + (1 : Int))))])
                            (mkS
                              [some (AObj.row (1 : Nat) k h fun i => [Value.bool false]),
                                some
                                  (AObj.cells
                                    [Value.int IntKind.i64 (1 : Int), Value.int IntKind.i64 (1 : Int),
                                      Value.float FloatKind.f64 (0 : Nat), Value.int IntKind.i64 (4 : Int),
                                      Value.int IntKind.i64 (0 : Int), Value.float FloatKind.f64 (0 : Nat),
                                      Value.int IntKind.i64 (1 : Int), Value.int IntKind.i64 (1 : Int),
                                      Value.float FloatKind.f64 (0 : Nat), Value.int IntKind.i64 (4 : Int),
                                      Value.int IntKind.i64 start, Value.float FloatKind.f64 (0 : Nat)]
                                    true (0 : Nat))]))))
                      (N AX.normal
                        (mkF (78 : Nat)
                          [((0 : Nat),
                              Value.slice (some { block := (0 : Nat), off := (0 : Nat), spot := some (0 : Nat) }) n n),
                            ((5 : Nat), Value.int IntKind.i64 d),
                            ((6 : Nat), Value.slice (some { block := (1 : Nat), off := (0 : Nat) }) (4 : Nat) (4 : Nat)),
                            ((7 : Nat), Value.int IntKind.i64 start), ((8 : Nat), Value.bool true),
                            ((9 : Nat), Value.int IntKind.i64 (IntKind.wrap IntKind.i64 (Int.ofNat k + (1 : Int))))])
                        (mkS
                          [some (AObj.row (1 : Nat) k h fun i => [Value.bool false]),
                            some
                              (AObj.cells
                                [Value.int IntKind.i64 (1 : Int), Value.int IntKind.i64 (1 : Int),
                                  Value.float FloatKind.f64 (0 : Nat), Value.int IntKind.i64 (4 : Int),
                                  Value.int IntKind.i64 (0 : Int), Value.float FloatKind.f64 (0 : Nat),
                                  Value.int IntKind.i64 (1 : Int), Value.int IntKind.i64 (1 : Int),
                                  Value.float FloatKind.f64 (0 : Nat), Value.int IntKind.i64 (4 : Int),
                                  Value.int IntKind.i64 start, Value.float FloatKind.f64 (0 : Nat)]
                                true (0 : Nat))]))))
                  (br (!false == decide (IntKind.wrap IntKind.i64 (Int.ofNat k - start) < d))
                    (N AX.ret (mkF (78 : Nat) []) (mkS [some (AObj.row (1 : Nat) k h fun i => [Value.bool false])]))
                    (br (decide (IntKind.wrap IntKind.i64 (Int.ofNat k - start) ≥ d))
                      (need (Nat.blt (Int.toNat (Int.ofNat k)) n)
                        (need
                          (Nat.ble k ((0 : Nat) + Int.toNat (Int.ofNat k)) &&
                            Nat.blt ((0 : Nat) + Int.toNat (Int.ofNat k)) h)
                          (N AX.normal
                            (mkF (78 : Nat)
                              [((0 : Nat),
                                  Value.slice (some { block := (0 : Nat), off := (0 : Nat), spot := some (0 : Nat) }) n
                                    n),
                                ((5 : Nat), Value.int IntKind.i64 d),
                                ((6 : Nat),
                                  Value.slice (some { block := (1 : Nat), off := (0 : Nat) }) (4 : Nat) (4 : Nat)),
                                ((7 : Nat), Value.int IntKind.i64 start), ((8 : Nat), Value.bool false),
                                ((9 : Nat), Value.int IntKind.i64 (IntKind.wrap IntKind.i64 (Int.ofNat k + (1 : Int))))])
                            (mkS
                              [some (AObj.row (1 : Nat) k h fun i => [Value.bool false]),
                                some
                                  (AObj.cells
                                    [Value.int IntKind.i64 (1 : Int), Value.int IntKind.i64 (0 : Int),
                                      Value.float FloatKind.f64 (0 : Nat), Value.int IntKind.i64 (4 : Int),
                                      Value.int IntKind.i64 (0 : Int), Value.float FloatKind.f64 (0 : Nat),
                                      Value.int IntKind.i64 (1 : Int), Value.int IntKind.i64 (1 : Int),
                                      Value.float FloatKind.f64 (0 : Nat), Value.int IntKind.i64 (4 : Int),
                                      Value.int IntKind.i64 start, Value.float FloatKind.f64 (0 : Nat)]
                                    true (0 : Nat))]))))
                      (N AX.normal
                        (mkF (78 : Nat)
                          [((0 : Nat),
                              Value.slice (some { block := (0 : Nat), off := (0 : Nat), spot := some (0 : Nat) }) n n),
                            ((5 : Nat), Value.int IntKind.i64 d),
                            ((6 : Nat), Value.slice (some { block := (1 : Nat), off := (0 : Nat) }) (4 : Nat) (4 : Nat)),
                            ((7 : Nat), Value.int IntKind.i64 start), ((8 : Nat), Value.bool true),
                            ((9 : Nat), Value.int IntKind.i64 (IntKind.wrap IntKind.i64 (Int.ofNat k + (1 : Int))))])
                        (mkS
                          [some (AObj.row (1 : Nat) k h fun i => [Value.bool false]),
                            some
                              (AObj.cells
                                [Value.int IntKind.i64 (1 : Int), Value.int IntKind.i64 (0 : Int),
                                  Value.float FloatKind.f64 (0 : Nat), Value.int IntKind.i64 (4 : Int),
                                  Value.int IntKind.i64 (0 : Int), Value.float FloatKind.f64 (0 : Nat),
                                  Value.int IntKind.i64 (1 : Int), Value.int IntKind.i64 (1 : Int),
                                  Value.float FloatKind.f64 (0 : Nat), Value.int IntKind.i64 (4 : Int),
                                  Value.int IntKind.i64 start, Value.float FloatKind.f64 (0 : Nat)]
                                true (0 : Nat))]))))))
              (br (!!(0 : Int) == if (0 : Int) > d then (0 : Int) else d) False
                (br (!(0 : Int) == if (0 : Int) > d then (0 : Int) else d)
                  (br (!true == decide (IntKind.wrap IntKind.i64 (Int.ofNat k - start) < d))
                    (N AX.ret (mkF (78 : Nat) []) (mkS [some (AObj.row (1 : Nat) k h fun i => [Value.bool false])]))
                    (br (decide (IntKind.wrap IntKind.i64 (Int.ofNat k - start) ≥ d))
                      (need (Nat.blt (Int.toNat (Int.ofNat k)) n)
                        (need
                          (Nat.ble k ((0 : Nat) + Int.toNat (Int.ofNat k)) &&
                            Nat.blt ((0 : Nat) + Int.toNat (Int.ofNat k)) h)
                          (N AX.normal
                            (mkF (78 : Nat)
                              [((0 : Nat),
                                  Value.slice (some { block := (0 : Nat), off := (0 : Nat), spot := some (0 : Nat) }) n
                                    n),
                                ((5 : Nat), Value.int IntKind.i64 d),
                                ((6 : Nat),
                                  Value.slice (some { block := (1 : Nat), off := (0 : Nat) }) (4 : Nat) (4 : Nat)),
                                ((7 : Nat), Value.int IntKind.i64 start), ((8 : Nat), Value.bool false),
                                ((9 : Nat), Value.int IntKind.i64 (IntKind.wrap IntKind.i64 (Int.ofNat k + (1 : Int))))])
                            (mkS
                              [some (AObj.row (1 : Nat) k h fun i => [Value.bool false]),
                                some
                                  (AObj.cells
                                    [Value.int IntKind.i64 (1 : Int), Value.int IntKind.i64 (1 : Int),
                                      Value.float FloatKind.f64 (0 : Nat), Value.int IntKind.i64 (4 : Int),
                                      Value.int IntKind.i64 (0 : Int), Value.float FloatKind.f64 (0 : Nat),
                                      Value.int IntKind.i64 (1 : Int), Value.int IntKind.i64 (1 : Int),
                                      Value.float FloatKind.f64 (0 : Nat), Value.int IntKind.i64 (4 : Int),
                                      Value.int IntKind.i64 start, Value.float FloatKind.f64 (0 : Nat)]
                                    true (0 : Nat))]))))
                      (N AX.normal
                        (mkF (78 : Nat)
                          [((0 : Nat),
                              Value.slice (some { block := (0 : Nat), off := (0 : Nat), spot := some (0 : Nat) }) n n),
                            ((5 : Nat), Value.int IntKind.i64 d),
                            ((6 : Nat), Value.slice (some { block := (1 : Nat), off := (0 : Nat) }) (4 : Nat) (4 : Nat)),
                            ((7 : Nat), Value.int IntKind.i64 start), ((8 : Nat), Value.bool true),
                            ((9 : Nat), Value.int IntKind.i64 (IntKind.wrap IntKind.i64 (Int.ofNat k + (1 : Int))))])
                        (mkS
                          [some (AObj.row (1 : Nat) k h fun i => [Value.bool false]),
                            some
                              (AObj.cells
                                [Value.int IntKind.i64 (1 : Int), Value.int IntKind.i64 (1 : Int),
                                  Value.float FloatKind.f64 (0 : Nat), Value.int IntKind.i64 (4 : Int),
                                  Value.int IntKind.i64 (0 : Int), Value.float FloatKind.f64 (0 : Nat),
                                  Value.int IntKind.i64 (1 : Int), Value.int IntKind.i64 (1 : Int),
                                  Value.float FloatKind.f64 (0 : Nat), Value.int IntKind.i64 (4 : Int),
                                  Value.int IntKind.i64 start, Value.float FloatKind.f64 (0 : Nat)]
                                true (0 : Nat))]))))
                  (br (!false == decide (IntKind.wrap IntKind.i64 (Int.ofNat k - start) < d))
                    (N AX.ret (mkF (78 : Nat) []) (mkS [some (AObj.row (1 : Nat) k h fun i => [Value.bool false])]))
                    (br (decide (IntKind.wrap IntKind.i64 (Int.ofNat k - start) ≥ d))
                      (need (Nat.blt (Int.toNat (Int.ofNat k)) n)
                        (need
                          (Nat.ble k ((0 : Nat) + Int.toNat (Int.ofNat k)) &&
                            Nat.blt ((0 : Nat) + Int.toNat (Int.ofNat k)) h)
                          (N AX.normal
                            (mkF (78 : Nat)
                              [((0 : Nat),
                                  Value.slice (some { block := (0 : Nat), off := (0 : Nat), spot := some (0 : Nat) }) n
                                    n),
                                ((5 : Nat), Value.int IntKind.i64 d),
                                ((6 : Nat),
                                  Value.slice (some { block := (1 : Nat), off := (0 : Nat) }) (4 : Nat) (4 : Nat)),
                                ((7 : Nat), Value.int IntKind.i64 start), ((8 : Nat), Value.bool false),
                                ((9 : Nat), Value.int IntKind.i64 (IntKind.wrap IntKind.i64 (Int.ofNat k + (1 : Int))))])
                            (mkS
                              [some (AObj.row (1 : Nat) k h fun i => [Value.bool false]),
                                some
                                  (AObj.cells
                                    [Value.int IntKind.i64 (1 : Int), Value.int IntKind.i64 (0 : Int),
                                      Value.float FloatKind.f64 (0 : Nat), Value.int IntKind.i64 (4 : Int),
                                      Value.int IntKind.i64 (0 : Int), Value.float FloatKind.f64 (0 : Nat),
                                      Value.int IntKind.i64 (1 : Int), Value.int IntKind.i64 (1 : Int),
                                      Value.float FloatKind.f64 (0 : Nat), Value.int IntKind.i64 (4 : Int),
                                      Value.int IntKind.i64 start, Value.float FloatKind.f64 (0 : Nat)]
                                    true (0 : Nat))]))))
                      (N AX.normal
                        (mkF (78 : Nat)
                          [((0 : Nat),
                              Value.slice (some { block := (0 : Nat), off := (0 : Nat), spot := some (0 : Nat) }) n n),
                            ((5 : Nat), Value.int IntKind.i64 d),
                            ((6 : Nat), Value.slice (some { block := (1 : Nat), off := (0 : Nat) }) (4 : Nat) (4 : Nat)),
                            ((7 : Nat), Value.int IntKind.i64 start), ((8 : Nat), Value.bool true),
                            ((9 : Nat), Value.int IntKind.i64 (IntKind.wrap IntKind.i64 (Int.ofNat k + (1 : Int))))])
                        (mkS
                          [some (AObj.row (1 : Nat) k h fun i => [Value.bool false]),
                            some
                              (AObj.cells
                                [Value.int IntKind.i64 (1 : Int), Value.int IntKind.i64 (0 : Int),
                                  Value.float FloatKind.f64 (0 : Nat), Value.int IntKind.i64 (4 : Int),
                                  Value.int IntKind.i64 (0 : Int), Value.float FloatKind.f64 (0 : Nat),
                                  Value.int IntKind.i64 (1 : Int), Value.int IntKind.i64 (1 : Int),
                                  Value.float FloatKind.f64 (0 : Nat), Value.int IntKind.i64 (4 : Int),
                                  Value.int IntKind.i64 start, Value.float FloatKind.f64 (0 : Nat)]
                                true (0 : Nat))])))))))
            (br (!!(0 : Int) == if (0 : Int) > d then (0 : Int) else d) False
              (br (!!(0 : Int) == if (0 : Int) > d then (0 : Int) else d) False
                (br (!(0 : Int) == if (0 : Int) > d then (0 : Int) else d)
                  (br (!true == decide (IntKind.wrap IntKind.i64 (Int.ofNat k - start) < d))
                    (N AX.ret (mkF (78 : Nat) []) (mkS [some (AObj.row (1 : Nat) k h fun i => [Value.bool false])]))
                    (br (decide (IntKind.wrap IntKind.i64 (Int.ofNat k - start) ≥ d))
                      (need (Nat.blt (Int.toNat (Int.ofNat k)) n)
                        (need
                          (Nat.ble k ((0 : Nat) + Int.toNat (Int.ofNat k)) &&
                            Nat.blt ((0 : Nat) + Int.toNat (Int.ofNat k)) h)
                          (N AX.normal
                            (mkF (78 : Nat)
                              [((0 : Nat),
                                  Value.slice (some { block := (0 : Nat), off := (0 : Nat), spot := some (0 : Nat) }) n
                                    n),
                                ((5 : Nat), Value.int IntKind.i64 d),
                                ((6 : Nat),
                                  Value.slice (some { block := (1 : Nat), off := (0 : Nat) }) (4 : Nat) (4 : Nat)),
                                ((7 : Nat), Value.int IntKind.i64 start), ((8 : Nat), Value.bool false),
                                ((9 : Nat), Value.int IntKind.i64 (IntKind.wrap IntKind.i64 (Int.ofNat k + (1 : Int))))])
                            (mkS
                              [some (AObj.row (1 : Nat) k h fun i => [Value.bool false]),
                                some
                                  (AObj.cells
                                    [Value.int IntKind.i64 (1 : Int), Value.int IntKind.i64 (1 : Int),
                                      Value.float FloatKind.f64 (0 : Nat), Value.int IntKind.i64 (4 : Int),
                                      Value.int IntKind.i64 (0 : Int), Value.float FloatKind.f64 (0 : Nat),
                                      Value.int IntKind.i64 (1 : Int), Value.int IntKind.i64 (1 : Int),
                                      Value.float FloatKind.f64 (0 : Nat), Value.int IntKind.i64 (4 : Int),
                                      Value.int IntKind.i64 start, Value.float FloatKind.f64 (0 : Nat)]
                                    true (0 : Nat))]))))
                      (N AX.normal
                        (mkF (78 : Nat)
                          [((0 : Nat),
                              Value.slice (some { block := (0 : Nat), off := (0 : Nat), spot := some (0 : Nat) }) n n),
                            ((5 : Nat), Value.int IntKind.i64 d),
                            ((6 : Nat), Value.slice (some { block := (1 : Nat), off := (0 : Nat) }) (4 : Nat) (4 : Nat)),
                            ((7 : Nat), Value.int IntKind.i64 start), ((8 : Nat), Value.bool true),
                            ((9 : Nat), Value.int IntKind.i64 (IntKind.wrap IntKind.i64 (Int.ofNat k + (1 : Int))))])
                        (mkS
                          [some (AObj.row (1 : Nat) k h fun i => [Value.bool false]),
                            some
                              (AObj.cells
                                [Value.int IntKind.i64 (1 : Int), Value.int IntKind.i64 (1 : Int),
                                  Value.float FloatKind.f64 (0 : Nat), Value.int IntKind.i64 (4 : Int),
                                  Value.int IntKind.i64 (0 : Int), Value.float FloatKind.f64 (0 : Nat),
                                  Value.int IntKind.i64 (1 : Int), Value.int IntKind.i64 (1 : Int),
                                  Value.float FloatKind.f64 (0 : Nat), Value.int IntKind.i64 (4 : Int),
                                  Value.int IntKind.i64 start, Value.float FloatKind.f64 (0 : Nat)]
                                true (0 : Nat))]))))
                  (br (!false == decide (IntKind.wrap IntKind.i64 (Int.ofNat k - start) < d))
                    (N AX.ret (mkF (78 : Nat) []) (mkS [some (AObj.row (1 : Nat) k h fun i => [Value.bool false])]))
                    (br (decide (IntKind.wrap IntKind.i64 (Int.ofNat k - start) ≥ d))
                      (need (Nat.blt (Int.toNat (Int.ofNat k)) n)
                        (need
                          (Nat.ble k ((0 : Nat) + Int.toNat (Int.ofNat k)) &&
                            Nat.blt ((0 : Nat) + Int.toNat (Int.ofNat k)) h)
                          (N AX.normal
                            (mkF (78 : Nat)
                              [((0 : Nat),
                                  Value.slice (some { block := (0 : Nat), off := (0 : Nat), spot := some (0 : Nat) }) n
                                    n),
                                ((5 : Nat), Value.int IntKind.i64 d),
                                ((6 : Nat),
                                  Value.slice (some { block := (1 : Nat), off := (0 : Nat) }) (4 : Nat) (4 : Nat)),
                                ((7 : Nat), Value.int IntKind.i64 start), ((8 : Nat), Value.bool false),
                                ((9 : Nat), Value.int IntKind.i64 (IntKind.wrap IntKind.i64 (Int.ofNat k + (1 : Int))))])
                            (mkS
                              [some (AObj.row (1 : Nat) k h fun i => [Value.bool false]),
                                some
                                  (AObj.cells
                                    [Value.int IntKind.i64 (1 : Int), Value.int IntKind.i64 (0 : Int),
                                      Value.float FloatKind.f64 (0 : Nat), Value.int IntKind.i64 (4 : Int),
                                      Value.int IntKind.i64 (0 : Int), Value.float FloatKind.f64 (0 : Nat),
                                      Value.int IntKind.i64 (1 : Int), Value.int IntKind.i64 (1 : Int),
                                      Value.float FloatKind.f64 (0 : Nat), Value.int IntKind.i64 (4 : Int),
                                      Value.int IntKind.i64 start, Value.float FloatKind.f64 (0 : Nat)]
                                    true (0 : Nat))]))))
                      (N AX.normal
                        (mkF (78 : Nat)
                          [((0 : Nat),
                              Value.slice (some { block := (0 : Nat), off := (0 : Nat), spot := some (0 : Nat) }) n n),
                            ((5 : Nat), Value.int IntKind.i64 d),
                            ((6 : Nat), Value.slice (some { block := (1 : Nat), off := (0 : Nat) }) (4 : Nat) (4 : Nat)),
                            ((7 : Nat), Value.int IntKind.i64 start), ((8 : Nat), Value.bool true),
                            ((9 : Nat), Value.int IntKind.i64 (IntKind.wrap IntKind.i64 (Int.ofNat k + (1 : Int))))])
                        (mkS
                          [some (AObj.row (1 : Nat) k h fun i => [Value.bool false]),
                            some
                              (AObj.cells
                                [Value.int IntKind.i64 (1 : Int), Value.int IntKind.i64 (0 : Int),
                                  Value.float FloatKind.f64 (0 : Nat), Value.int IntKind.i64 (4 : Int),
                                  Value.int IntKind.i64 (0 : Int), Value.float FloatKind.f64 (0 : Nat),
                                  Value.int IntKind.i64 (1 : Int), Value.int IntKind.i64 (1 : Int),
                                  Value.float FloatKind.f64 (0 : Nat), Value.int IntKind.i64 (4 : Int),
                                  Value.int IntKind.i64 start, Value.float FloatKind.f64 (0 : Nat)]
                                true (0 : Nat))])))))))))))
    (N (AX.exit (0 : Nat)) (mkF (78 : Nat) []) (mkS [some (AObj.row (1 : Nat) k h fun i => [Value.bool false])])) := by kernel_rfl
theorem vc_pu_ft (n k h : Nat) (d : Int) (q et at_ start : Int) (β : Bs) (N : Kt) (ex : Nat → Kt → Prop) : roundJ Try.prog toldB 100 20 β (fun _ => 20) (cnOf 1 fun _ => []) ex 5 0 1 (lvOf [0, 5, 6, 7, 8, 9])
    (mkF 78 [(0, .slice (some ⟨0, 0, some 0⟩) n n), (5, .int .i64 d), (6, .slice (some ⟨1, 0, none⟩) 4 4), (7, .int .i64 start), (8, .bool false), (9, .int .i64 (Int.ofNat k))])
    (mkS [some (oneB k h true), some (.cells (cell4 q et 0 at_) true 0)]) N =
  br (decide (Int.ofNat k < Int.ofNat n))
    (need (Nat.blt (Int.toNat (Int.ofNat k)) n)
      (need (Nat.ble k ((0 : Nat) + Int.toNat (Int.ofNat k)) && Nat.blt ((0 : Nat) + Int.toNat (Int.ofNat k)) h)
        (br (decide (Int.ofNat k > Int.ofNat k))
          (br
            (!!IntKind.wrap IntKind.i64
                    (if
                        IntKind.wrap IntKind.u64 (if (0 : Int) > d then (0 : Int) else d) <
                          IntKind.wrap IntKind.u64
                            (IntKind.wrap IntKind.u64 (Int.ofNat k) - IntKind.wrap IntKind.u64 (Int.ofNat k)) then
                      IntKind.wrap IntKind.u64 (if (0 : Int) > d then (0 : Int) else d)
                    else
                      IntKind.wrap IntKind.u64
                        (IntKind.wrap IntKind.u64 (Int.ofNat k) - IntKind.wrap IntKind.u64 (Int.ofNat k))) ==
                  if (0 : Int) > d then (0 : Int) else d)
            (br
              (!!IntKind.wrap IntKind.i64
                      (if
                          IntKind.wrap IntKind.u64 (if (0 : Int) > d then (0 : Int) else d) <
                            IntKind.wrap IntKind.u64
                              (IntKind.wrap IntKind.u64 (Int.ofNat k) - IntKind.wrap IntKind.u64 (Int.ofNat k)) then
                        IntKind.wrap IntKind.u64 (if (0 : Int) > d then (0 : Int) else d)
                      else
                        IntKind.wrap IntKind.u64
                          (IntKind.wrap IntKind.u64 (Int.ofNat k) - IntKind.wrap IntKind.u64 (Int.ofNat k))) ==
                    if (0 : Int) > d then (0 : Int) else d)
              (br
                (!!IntKind.wrap IntKind.i64
                        (if
                            IntKind.wrap IntKind.u64 (if (0 : Int) > d then (0 : Int) else d) <
                              IntKind.wrap IntKind.u64
                                (IntKind.wrap IntKind.u64 (Int.ofNat k) - IntKind.wrap IntKind.u64 (Int.ofNat k)) then
                          IntKind.wrap IntKind.u64 (if (0 : Int) > d then (0 : Int) else d)
                        else
                          IntKind.wrap IntKind.u64
                            (IntKind.wrap IntKind.u64 (Int.ofNat k) - IntKind.wrap IntKind.u64 (Int.ofNat k))) ==
                      if (0 : Int) > d then (0 : Int) else d)
                (br
                  (!IntKind.wrap IntKind.i64
                        (if
                            IntKind.wrap IntKind.u64 (if (0 : Int) > d then (0 : Int) else d) <
                              IntKind.wrap IntKind.u64
                                (IntKind.wrap IntKind.u64 (Int.ofNat k) - IntKind.wrap IntKind.u64 (Int.ofNat k)) then
                          IntKind.wrap IntKind.u64 (if (0 : Int) > d then (0 : Int) else d)
                        else
                          IntKind.wrap IntKind.u64
                            (IntKind.wrap IntKind.u64 (Int.ofNat k) - IntKind.wrap IntKind.u64 (Int.ofNat k))) ==
                      if (0 : Int) > d then (0 : Int) else d)
                  (need (Nat.blt (Int.toNat (Int.ofNat k)) n)
                    (need
                      (Nat.ble k ((0 : Nat) + Int.toNat (Int.ofNat k)) && Nat.blt ((0 : Nat) + Int.toNat (Int.ofNat k)) h)
                      (br (!true == decide (IntKind.wrap IntKind.i64 (Int.ofNat k - Int.ofNat k) < d))
                        (N AX.ret (mkF (78 : Nat) []) (mkS [some (AObj.row (1 : Nat) k h fun i => [Value.bool true])]))
                        (br (decide (IntKind.wrap IntKind.i64 (Int.ofNat k - Int.ofNat k) ≥ d))
                          (need (Nat.blt (Int.toNat (Int.ofNat k)) n)
                            (need
                              (Nat.ble k ((0 : Nat) + Int.toNat (Int.ofNat k)) &&
                                Nat.blt ((0 : Nat) + Int.toNat (Int.ofNat k)) h)
                              (N AX.normal
                                (mkF (78 : Nat)
                                  [((0 : Nat),
                                      Value.slice (some { block := (0 : Nat), off := (0 : Nat), spot := some (0 : Nat) })
                                        n n),
                                    ((5 : Nat), Value.int IntKind.i64 d),
                                    ((6 : Nat),
                                      Value.slice (some { block := (1 : Nat), off := (0 : Nat) }) (4 : Nat) (4 : Nat)),
                                    ((7 : Nat), Value.int IntKind.i64 (Int.ofNat k)), ((8 : Nat), Value.bool true),
                                    ((9 : Nat),
                                      Value.int IntKind.i64 (IntKind.wrap IntKind.i64 (Int.ofNat k + (1 : Int))))])
                                (mkS
                                  [some (AObj.row (1 : Nat) k h fun i => [Value.bool true]),
                                    some
                                      (AObj.cells
                                        [Value.int IntKind.i64 (1 : Int), Value.int IntKind.i64 (1 : Int),
                                          Value.float FloatKind.f64 (0 : Nat), Value.int IntKind.i64 (4 : Int),
                                          Value.int IntKind.i64
                                            (IntKind.wrap IntKind.i64
                                              (if
                                                  IntKind.wrap IntKind.u64 (if (0 : Int) > d then (0 : Int) else d) <
                                                    IntKind.wrap IntKind.u64
                                                      (IntKind.wrap IntKind.u64 (Int.ofNat k) -
                                                        IntKind.wrap IntKind.u64 (Int.ofNat k)) then
                                                IntKind.wrap IntKind.u64 (if (0 : Int) > d then (0 : Int) else d)
                                              else
                                                IntKind.wrap IntKind.u64
                                                  (IntKind.wrap IntKind.u64 (Int.ofNat k) -
                                                    IntKind.wrap IntKind.u64 (Int.ofNat k)))),
                                          Value.float FloatKind.f64 (0 : Nat), Value.int IntKind.i64 (1 : Int),
                                          Value.int IntKind.i64 (1 : Int), Value.float FloatKind.f64 (0 : Nat),
                                          Value.int IntKind.i64 (4 : Int), Value.int IntKind.i64 (Int.ofNat k),
                                          Value.float FloatKind.f64 (0 : Nat)]
                                        true (0 : Nat))]))))
                          (N AX.normal
                            (mkF (78 : Nat)
                              [((0 : Nat),
                                  Value.slice (some { block := (0 : Nat), off := (0 : Nat), spot := some (0 : Nat) }) n
                                    n),
                                ((5 : Nat), Value.int IntKind.i64 d),
                                ((6 : Nat),
                                  Value.slice (some { block := (1 : Nat), off := (0 : Nat) }) (4 : Nat) (4 : Nat)),
                                ((7 : Nat), Value.int IntKind.i64 (Int.ofNat k)), ((8 : Nat), Value.bool true),
                                ((9 : Nat), Value.int IntKind.i64 (IntKind.wrap IntKind.i64 (Int.ofNat k + (1 : Int))))])
                            (mkS
                              [some (AObj.row (1 : Nat) k h fun i => [Value.bool true]),
                                some
                                  (AObj.cells
                                    [Value.int IntKind.i64 (1 : Int), Value.int IntKind.i64 (1 : Int),
                                      Value.float FloatKind.f64 (0 : Nat), Value.int IntKind.i64 (4 : Int),
                                      Value.int IntKind.i64
                                        (IntKind.wrap IntKind.i64
                                          (if
                                              IntKind.wrap IntKind.u64 (if (0 : Int) > d then (0 : Int) else d) <
                                                IntKind.wrap IntKind.u64
                                                  (IntKind.wrap IntKind.u64 (Int.ofNat k) -
                                                    IntKind.wrap IntKind.u64 (Int.ofNat k)) then
                                            IntKind.wrap IntKind.u64 (if (0 : Int) > d then (0 : Int) else d)
                                          else
                                            IntKind.wrap IntKind.u64
                                              (IntKind.wrap IntKind.u64 (Int.ofNat k) -
                                                IntKind.wrap IntKind.u64 (Int.ofNat k)))),
                                      Value.float FloatKind.f64 (0 : Nat), Value.int IntKind.i64 (1 : Int),
                                      Value.int IntKind.i64 (1 : Int), Value.float FloatKind.f64 (0 : Nat),
                                      Value.int IntKind.i64 (4 : Int), Value.int IntKind.i64 (Int.ofNat k),
                                      Value.float FloatKind.f64 (0 : Nat)]
                                    true (0 : Nat))]))))))
                  (need (Nat.blt (Int.toNat (Int.ofNat k)) n)
                    (need
                      (Nat.ble k ((0 : Nat) + Int.toNat (Int.ofNat k)) && Nat.blt ((0 : Nat) + Int.toNat (Int.ofNat k)) h)
                      (br (!false == decide (IntKind.wrap IntKind.i64 (Int.ofNat k - Int.ofNat k) < d))
                        (N AX.ret (mkF (78 : Nat) []) (mkS [some (AObj.row (1 : Nat) k h fun i => [Value.bool true])]))
                        (br (decide (IntKind.wrap IntKind.i64 (Int.ofNat k - Int.ofNat k) ≥ d))
                          (need (Nat.blt (Int.toNat (Int.ofNat k)) n)
                            (need
                              (Nat.ble k ((0 : Nat) + Int.toNat (Int.ofNat k)) &&
                                Nat.blt ((0 : Nat) + Int.toNat (Int.ofNat k)) h)
                              (N AX.normal
                                (mkF (78 : Nat)
                                  [((0 : Nat),
                                      Value.slice (some { block := (0 : Nat), off := (0 : Nat), spot := some (0 : Nat) })
                                        n n),
                                    ((5 : Nat), Value.int IntKind.i64 d),
                                    ((6 : Nat),
                                      Value.slice (some { block := (1 : Nat), off := (0 : Nat) }) (4 : Nat) (4 : Nat)),
                                    ((7 : Nat), Value.int IntKind.i64 (Int.ofNat k)), ((8 : Nat), Value.bool true),
                                    ((9 : Nat),
                                      Value.int IntKind.i64 (IntKind.wrap IntKind.i64 (Int.ofNat k + (1 : Int))))])
                                (mkS
                                  [some (AObj.row (1 : Nat) k h fun i => [Value.bool true]),
                                    some
                                      (AObj.cells
                                        [Value.int IntKind.i64 (1 : Int), Value.int IntKind.i64 (0 : Int),
                                          Value.float FloatKind.f64 (0 : Nat), Value.int IntKind.i64 (4 : Int),
                                          Value.int IntKind.i64
                                            (IntKind.wrap IntKind.i64
                                              (if
                                                  IntKind.wrap IntKind.u64 (if (0 : Int) > d then (0 : Int) else d) <
                                                    IntKind.wrap IntKind.u64
                                                      (IntKind.wrap IntKind.u64 (Int.ofNat k) -
                                                        IntKind.wrap IntKind.u64 (Int.ofNat k)) then
                                                IntKind.wrap IntKind.u64 (if (0 : Int) > d then (0 : Int) else d)
                                              else
                                                IntKind.wrap IntKind.u64
                                                  (IntKind.wrap IntKind.u64 (Int.ofNat k) -
                                                    IntKind.wrap IntKind.u64 (Int.ofNat k)))),
                                          Value.float FloatKind.f64 (0 : Nat), Value.int IntKind.i64 (1 : Int),
                                          Value.int IntKind.i64 (1 : Int), Value.float FloatKind.f64 (0 : Nat),
                                          Value.int IntKind.i64 (4 : Int), Value.int IntKind.i64 (Int.ofNat k),
                                          Value.float FloatKind.f64 (0 : Nat)]
                                        true (0 : Nat))]))))
                          (N AX.normal
                            (mkF (78 : Nat)
                              [((0 : Nat),
                                  Value.slice (some { block := (0 : Nat), off := (0 : Nat), spot := some (0 : Nat) }) n
                                    n),
                                ((5 : Nat), Value.int IntKind.i64 d),
                                ((6 : Nat),
                                  Value.slice (some { block := (1 : Nat), off := (0 : Nat) }) (4 : Nat) (4 : Nat)),
                                ((7 : Nat), Value.int IntKind.i64 (Int.ofNat k)), ((8 : Nat), Value.bool true),
                                ((9 : Nat), Value.int IntKind.i64 (IntKind.wrap IntKind.i64 (Int.ofNat k + (1 : Int))))])
                            (mkS
                              [some (AObj.row (1 : Nat) k h fun i => [Value.bool true]),
                                some
                                  (AObj.cells
                                    [Value.int IntKind.i64 (1 : Int), Value.int IntKind.i64 (0 : Int),
                                      Value.float FloatKind.f64 (0 : Nat), Value.int IntKind.i64 (4 : Int),
                                      Value.int IntKind.i64
                                        (IntKind.wrap IntKind.i64
                                          (if
                                              IntKind.wrap IntKind.u64 (if (0 : Int) > d then (0 : Int) else d) <
                                                IntKind.wrap IntKind.u64
                                                  (IntKind.wrap IntKind.u64 (Int.ofNat k) -
                                                    IntKind.wrap IntKind.u64 (Int.ofNat k)) then
                                            IntKind.wrap IntKind.u64 (if (0 : Int) > d then (0 : Int) else d)
                                          else
                                            IntKind.wrap IntKind.u64
                                              (IntKind.wrap IntKind.u64 (Int.ofNat k) -
                                                IntKind.wrap IntKind.u64 (Int.ofNat k)))),
                                      Value.float FloatKind.f64 (0 : Nat), Value.int IntKind.i64 (1 : Int),
                                      Value.int IntKind.i64 (1 : Int), Value.float FloatKind.f64 (0 : Nat),
                                      Value.int IntKind.i64 (4 : Int), Value.int IntKind.i64 (Int.ofNat k),
                                      Value.float FloatKind.f64 (0 : Nat)]
                                    true (0 : Nat))])))))))
                (br
                  (!IntKind.wrap IntKind.i64
                        (if
                            IntKind.wrap IntKind.u64 (if (0 : Int) > d then (0 : Int) else d) <
                              IntKind.wrap IntKind.u64
                                (IntKind.wrap IntKind.u64 (Int.ofNat k) - IntKind.wrap IntKind.u64 (Int.ofNat k)) then
                          IntKind.wrap IntKind.u64 (if (0 : Int) > d then (0 : Int) else d)
                        else
                          IntKind.wrap IntKind.u64
                            (IntKind.wrap IntKind.u64 (Int.ofNat k) - IntKind.wrap IntKind.u64 (Int.ofNat k))) ==
                      if (0 : Int) > d then (0 : Int) else d)
                  (need (Nat.blt (Int.toNat (Int.ofNat k)) n)
                    (need
                      (Nat.ble k ((0 : Nat) + Int.toNat (Int.ofNat k)) && Nat.blt ((0 : Nat) + Int.toNat (Int.ofNat k)) h)
                      (br (!true == decide (IntKind.wrap IntKind.i64 (Int.ofNat k - Int.ofNat k) < d))
                        (N AX.ret (mkF (78 : Nat) []) (mkS [some (AObj.row (1 : Nat) k h fun i => [Value.bool true])]))
                        (br (decide (IntKind.wrap IntKind.i64 (Int.ofNat k - Int.ofNat k) ≥ d))
                          (need (Nat.blt (Int.toNat (Int.ofNat k)) n)
                            (need
                              (Nat.ble k ((0 : Nat) + Int.toNat (Int.ofNat k)) &&
                                Nat.blt ((0 : Nat) + Int.toNat (Int.ofNat k)) h)
                              (N AX.normal
                                (mkF (78 : Nat)
                                  [((0 : Nat),
                                      Value.slice (some { block := (0 : Nat), off := (0 : Nat), spot := some (0 : Nat) })
                                        n n),
                                    ((5 : Nat), Value.int IntKind.i64 d),
                                    ((6 : Nat),
                                      Value.slice (some { block := (1 : Nat), off := (0 : Nat) }) (4 : Nat) (4 : Nat)),
                                    ((7 : Nat), Value.int IntKind.i64 (Int.ofNat k)), ((8 : Nat), Value.bool true),
                                    ((9 : Nat),
                                      Value.int IntKind.i64 (IntKind.wrap IntKind.i64 (Int.ofNat k + (1 : Int))))])
                                (mkS
                                  [some (AObj.row (1 : Nat) k h fun i => [Value.bool true]),
                                    some
                                      (AObj.cells
                                        [Value.int IntKind.i64 (1 : Int), Value.int IntKind.i64 (1 : Int),
                                          Value.float FloatKind.f64 (0 : Nat), Value.int IntKind.i64 (4 : Int),
                                          Value.int IntKind.i64
                                            (IntKind.wrap IntKind.i64
                                              (if
                                                  IntKind.wrap IntKind.u64 (if (0 : Int) > d then (0 : Int) else d) <
                                                    IntKind.wrap IntKind.u64
                                                      (IntKind.wrap IntKind.u64 (Int.ofNat k) -
                                                        IntKind.wrap IntKind.u64 (Int.ofNat k)) then
                                                IntKind.wrap IntKind.u64 (if (0 : Int) > d then (0 : Int) else d)
                                              else
                                                IntKind.wrap IntKind.u64
                                                  (IntKind.wrap IntKind.u64 (Int.ofNat k) -
                                                    IntKind.wrap IntKind.u64 (Int.ofNat k)))),
                                          Value.float FloatKind.f64 (0 : Nat), Value.int IntKind.i64 (1 : Int),
                                          Value.int IntKind.i64 (1 : Int), Value.float FloatKind.f64 (0 : Nat),
                                          Value.int IntKind.i64 (4 : Int), Value.int IntKind.i64 (Int.ofNat k),
                                          Value.float FloatKind.f64 (0 : Nat)]
                                        true (0 : Nat))]))))
                          (N AX.normal
                            (mkF (78 : Nat)
                              [((0 : Nat),
                                  Value.slice (some { block := (0 : Nat), off := (0 : Nat), spot := some (0 : Nat) }) n
                                    n),
                                ((5 : Nat), Value.int IntKind.i64 d),
                                ((6 : Nat),
                                  Value.slice (some { block := (1 : Nat), off := (0 : Nat) }) (4 : Nat) (4 : Nat)),
                                ((7 : Nat), Value.int IntKind.i64 (Int.ofNat k)), ((8 : Nat), Value.bool true),
                                ((9 : Nat), Value.int IntKind.i64 (IntKind.wrap IntKind.i64 (Int.ofNat k + (1 : Int))))])
                            (mkS
                              [some (AObj.row (1 : Nat) k h fun i => [Value.bool true]),
                                some
                                  (AObj.cells
                                    [Value.int IntKind.i64 (1 : Int), Value.int IntKind.i64 (1 : Int),
                                      Value.float FloatKind.f64 (0 : Nat), Value.int IntKind.i64 (4 : Int),
                                      Value.int IntKind.i64
                                        (IntKind.wrap IntKind.i64
                                          (if
                                              IntKind.wrap IntKind.u64 (if (0 : Int) > d then (0 : Int) else d) <
                                                IntKind.wrap IntKind.u64
                                                  (IntKind.wrap IntKind.u64 (Int.ofNat k) -
                                                    IntKind.wrap IntKind.u64 (Int.ofNat k)) then
                                            IntKind.wrap IntKind.u64 (if (0 : Int) > d then (0 : Int) else d)
                                          else
                                            IntKind.wrap IntKind.u64
                                              (IntKind.wrap IntKind.u64 (Int.ofNat k) -
                                                IntKind.wrap IntKind.u64 (Int.ofNat k)))),
                                      Value.float FloatKind.f64 (0 : Nat), Value.int IntKind.i64 (1 : Int),
                                      Value.int IntKind.i64 (1 : Int), Value.float FloatKind.f64 (0 : Nat),
                                      Value.int IntKind.i64 (4 : Int), Value.int IntKind.i64 (Int.ofNat k),
                                      Value.float FloatKind.f64 (0 : Nat)]
                                    true (0 : Nat))]))))))
                  (need (Nat.blt (Int.toNat (Int.ofNat k)) n)
                    (need
                      (Nat.ble k ((0 : Nat) + Int.toNat (Int.ofNat k)) && Nat.blt ((0 : Nat) + Int.toNat (Int.ofNat k)) h)
                      (br (!false == decide (IntKind.wrap IntKind.i64 (Int.ofNat k - Int.ofNat k) < d))
                        (N AX.ret (mkF (78 : Nat) []) (mkS [some (AObj.row (1 : Nat) k h fun i => [Value.bool true])]))
                        (br (decide (IntKind.wrap IntKind.i64 (Int.ofNat k - Int.ofNat k) ≥ d))
                          (need (Nat.blt (Int.toNat (Int.ofNat k)) n)
                            (need
                              (Nat.ble k ((0 : Nat) + Int.toNat (Int.ofNat k)) &&
                                Nat.blt ((0 : Nat) + Int.toNat (Int.ofNat k)) h)
                              (N AX.normal
                                (mkF (78 : Nat)
                                  [((0 : Nat),
                                      Value.slice (some { block := (0 : Nat), off := (0 : Nat), spot := some (0 : Nat) })
                                        n n),
                                    ((5 : Nat), Value.int IntKind.i64 d),
                                    ((6 : Nat),
                                      Value.slice (some { block := (1 : Nat), off := (0 : Nat) }) (4 : Nat) (4 : Nat)),
                                    ((7 : Nat), Value.int IntKind.i64 (Int.ofNat k)), ((8 : Nat), Value.bool true),
                                    ((9 : Nat),
                                      Value.int IntKind.i64 (IntKind.wrap IntKind.i64 (Int.ofNat k + (1 : Int))))])
                                (mkS
                                  [some (AObj.row (1 : Nat) k h fun i => [Value.bool true]),
                                    some
                                      (AObj.cells
                                        [Value.int IntKind.i64 (1 : Int), Value.int IntKind.i64 (0 : Int),
                                          Value.float FloatKind.f64 (0 : Nat), Value.int IntKind.i64 (4 : Int),
                                          Value.int IntKind.i64
                                            (IntKind.wrap IntKind.i64
                                              (if
                                                  IntKind.wrap IntKind.u64 (if (0 : Int) > d then (0 : Int) else d) <
                                                    IntKind.wrap IntKind.u64
                                                      (IntKind.wrap IntKind.u64 (Int.ofNat k) -
                                                        IntKind.wrap IntKind.u64 (Int.ofNat k)) then
                                                IntKind.wrap IntKind.u64 (if (0 : Int) > d then (0 : Int) else d)
                                              else
                                                IntKind.wrap IntKind.u64
                                                  (IntKind.wrap IntKind.u64 (Int.ofNat k) -
                                                    IntKind.wrap IntKind.u64 (Int.ofNat k)))),
                                          Value.float FloatKind.f64 (0 : Nat), Value.int IntKind.i64 (1 : Int),
                                          Value.int IntKind.i64 (1 : Int), Value.float FloatKind.f64 (0 : Nat),
                                          Value.int IntKind.i64 (4 : Int), Value.int IntKind.i64 (Int.ofNat k),
                                          Value.float FloatKind.f64 (0 : Nat)]
                                        true (0 : Nat))]))))
                          (N AX.normal
                            (mkF (78 : Nat)
                              [((0 : Nat),
                                  Value.slice (some { block := (0 : Nat), off := (0 : Nat), spot := some (0 : Nat) }) n
                                    n),
                                ((5 : Nat), Value.int IntKind.i64 d),
                                ((6 : Nat),
                                  Value.slice (some { block := (1 : Nat), off := (0 : Nat) }) (4 : Nat) (4 : Nat)),
                                ((7 : Nat), Value.int IntKind.i64 (Int.ofNat k)), ((8 : Nat), Value.bool true),
                                ((9 : Nat), Value.int IntKind.i64 (IntKind.wrap IntKind.i64 (Int.ofNat k + (1 : Int))))])
                            (mkS
                              [some (AObj.row (1 : Nat) k h fun i => [Value.bool true]),
                                some
                                  (AObj.cells
                                    [Value.int IntKind.i64 (1 : Int), Value.int IntKind.i64 (0 : Int),
                                      Value.float FloatKind.f64 (0 : Nat), Value.int IntKind.i64 (4 : Int),
                                      Value.int IntKind.i64
                                        (IntKind.wrap IntKind.i64
                                          (if
                                              IntKind.wrap IntKind.u64 (if (0 : Int) > d then (0 : Int) else d) <
                                                IntKind.wrap IntKind.u64
                                                  (IntKind.wrap IntKind.u64 (Int.ofNat k) -
                                                    IntKind.wrap IntKind.u64 (Int.ofNat k)) then
                                            IntKind.wrap IntKind.u64 (if (0 : Int) > d then (0 : Int) else d)
                                          else
                                            IntKind.wrap IntKind.u64
                                              (IntKind.wrap IntKind.u64 (Int.ofNat k) -
                                                IntKind.wrap IntKind.u64 (Int.ofNat k)))),
                                      Value.float FloatKind.f64 (0 : Nat), Value.int IntKind.i64 (1 : Int),
                                      Value.int IntKind.i64 (1 : Int), Value.float FloatKind.f64 (0 : Nat),
                                      Value.int IntKind.i64 (4 : Int), Value.int IntKind.i64 (Int.ofNat k),
                                      Value.float FloatKind.f64 (0 : Nat)]
                                    true (0 : Nat))]))))))))
              (br
                (!!IntKind.wrap IntKind.i64
                        (if
                            IntKind.wrap IntKind.u64 (if (0 : Int) > d then (0 : Int) else d) <
                              IntKind.wrap IntKind.u64
                                (IntKind.wrap IntKind.u64 (Int.ofNat k) - IntKind.wrap IntKind.u64 (Int.ofNat k)) then
                          IntKind.wrap IntKind.u64 (if (0 : Int) > d then (0 : Int) else d)
                        else
                          IntKind.wrap IntKind.u64
                            (IntKind.wrap IntKind.u64 (Int.ofNat k) - IntKind.wrap IntKind.u64 (Int.ofNat k))) ==
                      if (0 : Int) > d then (0 : Int) else d)
                False
                (br
                  (!IntKind.wrap IntKind.i64
                        (if
                            IntKind.wrap IntKind.u64 (if (0 : Int) > d then (0 : Int) else d) <
                              IntKind.wrap IntKind.u64
                                (IntKind.wrap IntKind.u64 (Int.ofNat k) - IntKind.wrap IntKind.u64 (Int.ofNat k)) then
                          IntKind.wrap IntKind.u64 (if (0 : Int) > d then (0 : Int) else d)
                        else
                          IntKind.wrap IntKind.u64
                            (IntKind.wrap IntKind.u64 (Int.ofNat k) - IntKind.wrap IntKind.u64 (Int.ofNat k))) ==
                      if (0 : Int) > d then (0 : Int) else d)
                  (need (Nat.blt (Int.toNat (Int.ofNat k)) n)
                    (need
                      (Nat.ble k ((0 : Nat) + Int.toNat (Int.ofNat k)) && Nat.blt ((0 : Nat) + Int.toNat (Int.ofNat k)) h)
                      (br (!true == decide (IntKind.wrap IntKind.i64 (Int.ofNat k - Int.ofNat k) < d))
                        (N AX.ret (mkF (78 : Nat) []) (mkS [some (AObj.row (1 : Nat) k h fun i => [Value.bool true])]))
                        (br (decide (IntKind.wrap IntKind.i64 (Int.ofNat k - Int.ofNat k) ≥ d))
                          (need (Nat.blt (Int.toNat (Int.ofNat k)) n)
                            (need
                              (Nat.ble k ((0 : Nat) + Int.toNat (Int.ofNat k)) &&
                                Nat.blt ((0 : Nat) + Int.toNat (Int.ofNat k)) h)
                              (N AX.normal
                                (mkF (78 : Nat)
                                  [((0 : Nat),
                                      Value.slice (some { block := (0 : Nat), off := (0 : Nat), spot := some (0 : Nat) })
                                        n n),
                                    ((5 : Nat), Value.int IntKind.i64 d),
                                    ((6 : Nat),
                                      Value.slice (some { block := (1 : Nat), off := (0 : Nat) }) (4 : Nat) (4 : Nat)),
                                    ((7 : Nat), Value.int IntKind.i64 (Int.ofNat k)), ((8 : Nat), Value.bool true),
                                    ((9 : Nat),
                                      Value.int IntKind.i64 (IntKind.wrap IntKind.i64 (Int.ofNat k + (1 : Int))))])
                                (mkS
                                  [some (AObj.row (1 : Nat) k h fun i => [Value.bool true]),
                                    some
                                      (AObj.cells
                                        [Value.int IntKind.i64 (1 : Int), Value.int IntKind.i64 (1 : Int),
                                          Value.float FloatKind.f64 (0 : Nat), Value.int IntKind.i64 (4 : Int),
                                          Value.int IntKind.i64
                                            (IntKind.wrap IntKind.i64
                                              (if
                                                  IntKind.wrap IntKind.u64 (if (0 : Int) > d then (0 : Int) else d) <
                                                    IntKind.wrap IntKind.u64
                                                      (IntKind.wrap IntKind.u64 (Int.ofNat k) -
                                                        IntKind.wrap IntKind.u64 (Int.ofNat k)) then
                                                IntKind.wrap IntKind.u64 (if (0 : Int) > d then (0 : Int) else d)
                                              else
                                                IntKind.wrap IntKind.u64
                                                  (IntKind.wrap IntKind.u64 (Int.ofNat k) -
                                                    IntKind.wrap IntKind.u64 (Int.ofNat k)))),
                                          Value.float FloatKind.f64 (0 : Nat), Value.int IntKind.i64 (1 : Int),
                                          Value.int IntKind.i64 (1 : Int), Value.float FloatKind.f64 (0 : Nat),
                                          Value.int IntKind.i64 (4 : Int), Value.int IntKind.i64 (Int.ofNat k),
                                          Value.float FloatKind.f64 (0 : Nat)]
                                        true (0 : Nat))]))))
                          (N AX.normal
                            (mkF (78 : Nat)
                              [((0 : Nat),
                                  Value.slice (some { block := (0 : Nat), off := (0 : Nat), spot := some (0 : Nat) }) n
                                    n),
                                ((5 : Nat), Value.int IntKind.i64 d),
                                ((6 : Nat),
                                  Value.slice (some { block := (1 : Nat), off := (0 : Nat) }) (4 : Nat) (4 : Nat)),
                                ((7 : Nat), Value.int IntKind.i64 (Int.ofNat k)), ((8 : Nat), Value.bool true),
                                ((9 : Nat), Value.int IntKind.i64 (IntKind.wrap IntKind.i64 (Int.ofNat k + (1 : Int))))])
                            (mkS
                              [some (AObj.row (1 : Nat) k h fun i => [Value.bool true]),
                                some
                                  (AObj.cells
                                    [Value.int IntKind.i64 (1 : Int), Value.int IntKind.i64 (1 : Int),
                                      Value.float FloatKind.f64 (0 : Nat), Value.int IntKind.i64 (4 : Int),
                                      Value.int IntKind.i64
                                        (IntKind.wrap IntKind.i64
                                          (if
                                              IntKind.wrap IntKind.u64 (if (0 : Int) > d then (0 : Int) else d) <
                                                IntKind.wrap IntKind.u64
                                                  (IntKind.wrap IntKind.u64 (Int.ofNat k) -
                                                    IntKind.wrap IntKind.u64 (Int.ofNat k)) then
                                            IntKind.wrap IntKind.u64 (if (0 : Int) > d then (0 : Int) else d)
                                          else
                                            IntKind.wrap IntKind.u64
                                              (IntKind.wrap IntKind.u64 (Int.ofNat k) -
                                                IntKind.wrap IntKind.u64 (Int.ofNat k)))),
                                      Value.float FloatKind.f64 (0 : Nat), Value.int IntKind.i64 (1 : Int),
                                      Value.int IntKind.i64 (1 : Int), Value.float FloatKind.f64 (0 : Nat),
                                      Value.int IntKind.i64 (4 : Int), Value.int IntKind.i64 (Int.ofNat k),
                                      Value.float FloatKind.f64 (0 : Nat)]
                                    true (0 : Nat))]))))))
                  (need (Nat.blt (Int.toNat (Int.ofNat k)) n)
                    (need
                      (Nat.ble k ((0 : Nat) + Int.toNat (Int.ofNat k)) && Nat.blt ((0 : Nat) + Int.toNat (Int.ofNat k)) h)
                      (br (!false == decide (IntKind.wrap IntKind.i64 (Int.ofNat k - Int.ofNat k) < d))
                        (N AX.ret (mkF (78 : Nat) []) (mkS [some (AObj.row (1 : Nat) k h fun i => [Value.bool true])]))
                        (br (decide (IntKind.wrap IntKind.i64 (Int.ofNat k - Int.ofNat k) ≥ d))
                          (need (Nat.blt (Int.toNat (Int.ofNat k)) n)
                            (need
                              (Nat.ble k ((0 : Nat) + Int.toNat (Int.ofNat k)) &&
                                Nat.blt ((0 : Nat) + Int.toNat (Int.ofNat k)) h)
                              (N AX.normal
                                (mkF (78 : Nat)
                                  [((0 : Nat),
                                      Value.slice (some { block := (0 : Nat), off := (0 : Nat), spot := some (0 : Nat) })
                                        n n),
                                    ((5 : Nat), Value.int IntKind.i64 d),
                                    ((6 : Nat),
                                      Value.slice (some { block := (1 : Nat), off := (0 : Nat) }) (4 : Nat) (4 : Nat)),
                                    ((7 : Nat), Value.int IntKind.i64 (Int.ofNat k)), ((8 : Nat), Value.bool true),
                                    ((9 : Nat),
                                      Value.int IntKind.i64 (IntKind.wrap IntKind.i64 (Int.ofNat k + (1 : Int))))])
                                (mkS
                                  [some (AObj.row (1 : Nat) k h fun i => [Value.bool true]),
                                    some
                                      (AObj.cells
                                        [Value.int IntKind.i64 (1 : Int), Value.int IntKind.i64 (0 : Int),
                                          Value.float FloatKind.f64 (0 : Nat), Value.int IntKind.i64 (4 : Int),
                                          Value.int IntKind.i64
                                            (IntKind.wrap IntKind.i64
                                              (if
                                                  IntKind.wrap IntKind.u64 (if (0 : Int) > d then (0 : Int) else d) <
                                                    IntKind.wrap IntKind.u64
                                                      (IntKind.wrap IntKind.u64 (Int.ofNat k) -
                                                        IntKind.wrap IntKind.u64 (Int.ofNat k)) then
                                                IntKind.wrap IntKind.u64 (if (0 : Int) > d then (0 : Int) else d)
                                              else
                                                IntKind.wrap IntKind.u64
                                                  (IntKind.wrap IntKind.u64 (Int.ofNat k) -
                                                    IntKind.wrap IntKind.u64 (Int.ofNat k)))),
                                          Value.float FloatKind.f64 (0 : Nat), Value.int IntKind.i64 (1 : Int),
                                          Value.int IntKind.i64 (1 : Int), Value.float FloatKind.f64 (0 : Nat),
                                          Value.int IntKind.i64 (4 : Int), Value.int IntKind.i64 (Int.ofNat k),
                                          Value.float FloatKind.f64 (0 : Nat)]
                                        true (0 : Nat))]))))
                          (N AX.normal
                            (mkF (78 : Nat)
                              [((0 : Nat),
                                  Value.slice (some { block := (0 : Nat), off := (0 : Nat), spot := some (0 : Nat) }) n
                                    n),
                                ((5 : Nat), Value.int IntKind.i64 d),
                                ((6 : Nat),
                                  Value.slice (some { block := (1 : Nat), off := (0 : Nat) }) (4 : Nat) (4 : Nat)),
                                ((7 : Nat), Value.int IntKind.i64 (Int.ofNat k)), ((8 : Nat), Value.bool true),
                                ((9 : Nat), Value.int IntKind.i64 (IntKind.wrap IntKind.i64 (Int.ofNat k + (1 : Int))))])
                            (mkS
                              [some (AObj.row (1 : Nat) k h fun i => [Value.bool true]),
                                some
                                  (AObj.cells
                                    [Value.int IntKind.i64 (1 : Int), Value.int IntKind.i64 (0 : Int),
                                      Value.float FloatKind.f64 (0 : Nat), Value.int IntKind.i64 (4 : Int),
                                      Value.int IntKind.i64
                                        (IntKind.wrap IntKind.i64
                                          (if
                                              IntKind.wrap IntKind.u64 (if (0 : Int) > d then (0 : Int) else d) <
                                                IntKind.wrap IntKind.u64
                                                  (IntKind.wrap IntKind.u64 (Int.ofNat k) -
                                                    IntKind.wrap IntKind.u64 (Int.ofNat k)) then
                                            IntKind.wrap IntKind.u64 (if (0 : Int) > d then (0 : Int) else d)
                                          else
                                            IntKind.wrap IntKind.u64
                                              (IntKind.wrap IntKind.u64 (Int.ofNat k) -
                                                IntKind.wrap IntKind.u64 (Int.ofNat k)))),
                                      Value.float FloatKind.f64 (0 : Nat), Value.int IntKind.i64 (1 : Int),
                                      Value.int IntKind.i64 (1 : Int), Value.float FloatKind.f64 (0 : Nat),
                                      Value.int IntKind.i64 (4 : Int), Value.int IntKind.i64 (Int.ofNat k),
                                      Value.float FloatKind.f64 (0 : Nat)]
                                    true (0 : Nat))])))))))))
            (br
              (!!IntKind.wrap IntKind.i64
                      (if
                          IntKind.wrap IntKind.u64 (if (0 : Int) > d then (0 : Int) else d) <
                            IntKind.wrap IntKind.u64
                              (IntKind.wrap IntKind.u64 (Int.ofNat k) - IntKind.wrap IntKind.u64 (Int.ofNat k)) then
                        IntKind.wrap IntKind.u64 (if (0 : Int) > d then (0 : Int) else d)
                      else
                        IntKind.wrap IntKind.u64
                          (IntKind.wrap IntKind.u64 (Int.ofNat k) - IntKind.wrap IntKind.u64 (Int.ofNat k))) ==
                    if (0 : Int) > d then (0 : Int) else d)
              False
              (br
                (!!IntKind.wrap IntKind.i64
                        (if
                            IntKind.wrap IntKind.u64 (if (0 : Int) > d then (0 : Int) else d) <
                              IntKind.wrap IntKind.u64
                                (IntKind.wrap IntKind.u64 (Int.ofNat k) - IntKind.wrap IntKind.u64 (Int.ofNat k)) then
                          IntKind.wrap IntKind.u64 (if (0 : Int) > d then (0 : Int) else d)
                        else
                          IntKind.wrap IntKind.u64
                            (IntKind.wrap IntKind.u64 (Int.ofNat k) - IntKind.wrap IntKind.u64 (Int.ofNat k))) ==
                      if (0 : Int) > d then (0 : Int) else d)
                False
                (br
                  (!IntKind.wrap IntKind.i64
                        (if
                            IntKind.wrap IntKind.u64 (if (0 : Int) > d then (0 : Int) else d) <
                              IntKind.wrap IntKind.u64
                                (IntKind.wrap IntKind.u64 (Int.ofNat k) - IntKind.wrap IntKind.u64 (Int.ofNat k)) then
                          IntKind.wrap IntKind.u64 (if (0 : Int) > d then (0 : Int) else d)
                        else
                          IntKind.wrap IntKind.u64
                            (IntKind.wrap IntKind.u64 (Int.ofNat k) - IntKind.wrap IntKind.u64 (Int.ofNat k))) ==
                      if (0 : Int) > d then (0 : Int) else d)
                  (need (Nat.blt (Int.toNat (Int.ofNat k)) n)
                    (need
                      (Nat.ble k ((0 : Nat) + Int.toNat (Int.ofNat k)) && Nat.blt ((0 : Nat) + Int.toNat (Int.ofNat k)) h)
                      (br (!true == decide (IntKind.wrap IntKind.i64 (Int.ofNat k - Int.ofNat k) < d))
                        (N AX.ret (mkF (78 : Nat) []) (mkS [some (AObj.row (1 : Nat) k h fun i => [Value.bool true])]))
                        (br (decide (IntKind.wrap IntKind.i64 (Int.ofNat k - Int.ofNat k) ≥ d))
                          (need (Nat.blt (Int.toNat (Int.ofNat k)) n)
                            (need
                              (Nat.ble k ((0 : Nat) + Int.toNat (Int.ofNat k)) &&
                                Nat.blt ((0 : Nat) + Int.toNat (Int.ofNat k)) h)
                              (N AX.normal
                                (mkF (78 : Nat)
                                  [((0 : Nat),
                                      Value.slice (some { block := (0 : Nat), off := (0 : Nat), spot := some (0 : Nat) })
                                        n n),
                                    ((5 : Nat), Value.int IntKind.i64 d),
                                    ((6 : Nat),
                                      Value.slice (some { block := (1 : Nat), off := (0 : Nat) }) (4 : Nat) (4 : Nat)),
                                    ((7 : Nat), Value.int IntKind.i64 (Int.ofNat k)), ((8 : Nat), Value.bool true),
                                    ((9 : Nat),
                                      Value.int IntKind.i64 (IntKind.wrap IntKind.i64 (Int.ofNat k + (1 : Int))))])
                                (mkS
                                  [some (AObj.row (1 : Nat) k h fun i => [Value.bool true]),
                                    some
                                      (AObj.cells
                                        [Value.int IntKind.i64 (1 : Int), Value.int IntKind.i64 (1 : Int),
                                          Value.float FloatKind.f64 (0 : Nat), Value.int IntKind.i64 (4 : Int),
                                          Value.int IntKind.i64
                                            (IntKind.wrap IntKind.i64
                                              (if
                                                  IntKind.wrap IntKind.u64 (if (0 : Int) > d then (0 : Int) else d) <
                                                    IntKind.wrap IntKind.u64
                                                      (IntKind.wrap IntKind.u64 (Int.ofNat k) -
                                                        IntKind.wrap IntKind.u64 (Int.ofNat k)) then
                                                IntKind.wrap IntKind.u64 (if (0 : Int) > d then (0 : Int) else d)
                                              else
                                                IntKind.wrap IntKind.u64
                                                  (IntKind.wrap IntKind.u64 (Int.ofNat k) -
                                                    IntKind.wrap IntKind.u64 (Int.ofNat k)))),
                                          Value.float FloatKind.f64 (0 : Nat), Value.int IntKind.i64 (1 : Int),
                                          Value.int IntKind.i64 (1 : Int), Value.float FloatKind.f64 (0 : Nat),
                                          Value.int IntKind.i64 (4 : Int), Value.int IntKind.i64 (Int.ofNat k),
                                          Value.float FloatKind.f64 (0 : Nat)]
                                        true (0 : Nat))]))))
                          (N AX.normal
                            (mkF (78 : Nat)
                              [((0 : Nat),
                                  Value.slice (some { block := (0 : Nat), off := (0 : Nat), spot := some (0 : Nat) }) n
                                    n),
                                ((5 : Nat), Value.int IntKind.i64 d),
                                ((6 : Nat),
                                  Value.slice (some { block := (1 : Nat), off := (0 : Nat) }) (4 : Nat) (4 : Nat)),
                                ((7 : Nat), Value.int IntKind.i64 (Int.ofNat k)), ((8 : Nat), Value.bool true),
                                ((9 : Nat), Value.int IntKind.i64 (IntKind.wrap IntKind.i64 (Int.ofNat k + (1 : Int))))])
                            (mkS
                              [some (AObj.row (1 : Nat) k h fun i => [Value.bool true]),
                                some
                                  (AObj.cells
                                    [Value.int IntKind.i64 (1 : Int), Value.int IntKind.i64 (1 : Int),
                                      Value.float FloatKind.f64 (0 : Nat), Value.int IntKind.i64 (4 : Int),
                                      Value.int IntKind.i64
                                        (IntKind.wrap IntKind.i64
                                          (if
                                              IntKind.wrap IntKind.u64 (if (0 : Int) > d then (0 : Int) else d) <
                                                IntKind.wrap IntKind.u64
                                                  (IntKind.wrap IntKind.u64 (Int.ofNat k) -
                                                    IntKind.wrap IntKind.u64 (Int.ofNat k)) then
                                            IntKind.wrap IntKind.u64 (if (0 : Int) > d then (0 : Int) else d)
                                          else
                                            IntKind.wrap IntKind.u64
                                              (IntKind.wrap IntKind.u64 (Int.ofNat k) -
                                                IntKind.wrap IntKind.u64 (Int.ofNat k)))),
                                      Value.float FloatKind.f64 (0 : Nat), Value.int IntKind.i64 (1 : Int),
                                      Value.int IntKind.i64 (1 : Int), Value.float FloatKind.f64 (0 : Nat),
                                      Value.int IntKind.i64 (4 : Int), Value.int IntKind.i64 (Int.ofNat k),
                                      Value.float FloatKind.f64 (0 : Nat)]
                                    true (0 : Nat))]))))))
                  (need (Nat.blt (Int.toNat (Int.ofNat k)) n)
                    (need
                      (Nat.ble k ((0 : Nat) + Int.toNat (Int.ofNat k)) && Nat.blt ((0 : Nat) + Int.toNat (Int.ofNat k)) h)
                      (br (!false == decide (IntKind.wrap IntKind.i64 (Int.ofNat k - Int.ofNat k) < d))
                        (N AX.ret (mkF (78 : Nat) []) (mkS [some (AObj.row (1 : Nat) k h fun i => [Value.bool true])]))
                        (br (decide (IntKind.wrap IntKind.i64 (Int.ofNat k - Int.ofNat k) ≥ d))
                          (need (Nat.blt (Int.toNat (Int.ofNat k)) n)
                            (need
                              (Nat.ble k ((0 : Nat) + Int.toNat (Int.ofNat k)) &&
                                Nat.blt ((0 : Nat) + Int.toNat (Int.ofNat k)) h)
                              (N AX.normal
                                (mkF (78 : Nat)
                                  [((0 : Nat),
                                      Value.slice (some { block := (0 : Nat), off := (0 : Nat), spot := some (0 : Nat) })
                                        n n),
                                    ((5 : Nat), Value.int IntKind.i64 d),
                                    ((6 : Nat),
                                      Value.slice (some { block := (1 : Nat), off := (0 : Nat) }) (4 : Nat) (4 : Nat)),
                                    ((7 : Nat), Value.int IntKind.i64 (Int.ofNat k)), ((8 : Nat), Value.bool true),
                                    ((9 : Nat),
                                      Value.int IntKind.i64 (IntKind.wrap IntKind.i64 (Int.ofNat k + (1 : Int))))])
                                (mkS
                                  [some (AObj.row (1 : Nat) k h fun i => [Value.bool true]),
                                    some
                                      (AObj.cells
                                        [Value.int IntKind.i64 (1 : Int), Value.int IntKind.i64 (0 : Int),
                                          Value.float FloatKind.f64 (0 : Nat), Value.int IntKind.i64 (4 : Int),
                                          Value.int IntKind.i64
                                            (IntKind.wrap IntKind.i64
                                              (if
                                                  IntKind.wrap IntKind.u64 (if (0 : Int) > d then (0 : Int) else d) <
                                                    IntKind.wrap IntKind.u64
                                                      (IntKind.wrap IntKind.u64 (Int.ofNat k) -
                                                        IntKind.wrap IntKind.u64 (Int.ofNat k)) then
                                                IntKind.wrap IntKind.u64 (if (0 : Int) > d then (0 : Int) else d)
                                              else
                                                IntKind.wrap IntKind.u64
                                                  (IntKind.wrap IntKind.u64 (Int.ofNat k) -
                                                    IntKind.wrap IntKind.u64 (Int.ofNat k)))),
                                          Value.float FloatKind.f64 (0 : Nat), Value.int IntKind.i64 (1 : Int),
                                          Value.int IntKind.i64 (1 : Int), Value.float FloatKind.f64 (0 : Nat),
                                          Value.int IntKind.i64 (4 : Int), Value.int IntKind.i64 (Int.ofNat k),
                                          Value.float FloatKind.f64 (0 : Nat)]
                                        true (0 : Nat))]))))
                          (N AX.normal
                            (mkF (78 : Nat)
                              [((0 : Nat),
                                  Value.slice (some { block := (0 : Nat), off := (0 : Nat), spot := some (0 : Nat) }) n
                                    n),
                                ((5 : Nat), Value.int IntKind.i64 d),
                                ((6 : Nat),
                                  Value.slice (some { block := (1 : Nat), off := (0 : Nat) }) (4 : Nat) (4 : Nat)),
                                ((7 : Nat), Value.int IntKind.i64 (Int.ofNat k)), ((8 : Nat), Value.bool true),
                                ((9 : Nat), Value.int IntKind.i64 (IntKind.wrap IntKind.i64 (Int.ofNat k + (1 : Int))))])
                            (mkS
                              [some (AObj.row (1 : Nat) k h fun i => [Value.bool true]),
                                some
                                  (AObj.cells
                                    [Value.int IntKind.i64 (1 : Int), Value.int IntKind.i64 (0 : Int),
                                      Value.float FloatKind.f64 (0 : Nat), Value.int IntKind.i64 (4 : Int),
                                      Value.int IntKind.i64
                                        (IntKind.wrap IntKind.i64
                                          (if
                                              IntKind.wrap IntKind.u64 (if (0 : Int) > d then (0 : Int) else d) <
                                                IntKind.wrap IntKind.u64
                                                  (IntKind.wrap IntKind.u64 (Int.ofNat k) -
                                                    IntKind.wrap IntKind.u64 (Int.ofNat k)) then
                                            IntKind.wrap IntKind.u64 (if (0 : Int) > d then (0 : Int) else d)
                                          else
                                            IntKind.wrap IntKind.u64
                                              (IntKind.wrap IntKind.u64 (Int.ofNat k) -
                                                IntKind.wrap IntKind.u64 (Int.ofNat k)))),
                                      Value.float FloatKind.f64 (0 : Nat), Value.int IntKind.i64 (1 : Int),
                                      Value.int IntKind.i64 (1 : Int), Value.float FloatKind.f64 (0 : Nat),
                                      Value.int IntKind.i64 (4 : Int), Value.int IntKind.i64 (Int.ofNat k),
                                      Value.float FloatKind.f64 (0 : Nat)]
                                    true (0 : Nat))]))))))))))
          (br (!!(0 : Int) == if (0 : Int) > d then (0 : Int) else d)
            (br (!!(0 : Int) == if (0 : Int) > d then (0 : Int) else d)
              (br (!!(0 : Int) == if (0 : Int) > d then (0 : Int) else d)
                (br (!(0 : Int) == if (0 : Int) > d then (0 : Int) else d)
                  (need (Nat.blt (Int.toNat (Int.ofNat k)) n)
                    (need
                      (Nat.ble k ((0 : Nat) + Int.toNat (Int.ofNat k)) && Nat.blt ((0 : Nat) + Int.toNat (Int.ofNat k)) h)
                      (br (!true == decide (IntKind.wrap IntKind.i64 (Int.ofNat k - Int.ofNat k) < d))
                        (N AX.ret (mkF (78 : Nat) []) (mkS [some (AObj.row (1 : Nat) k h fun i => [Value.bool true])]))
                        (br (decide (IntKind.wrap IntKind.i64 (Int.ofNat k - Int.ofNat k) ≥ d))
                          (need (Nat.blt (Int.toNat (Int.ofNat k)) n)
                            (need
                              (Nat.ble k ((0 : Nat) + Int.toNat (Int.ofNat k)) &&
                                Nat.blt ((0 : Nat) + Int.toNat (Int.ofNat k)) h)
                              (N AX.normal
                                (mkF (78 : Nat)
                                  [((0 : Nat),
                                      Value.slice (some { block := (0 : Nat), off := (0 : Nat), spot := some (0 : Nat) })
                                        n n),
                                    ((5 : Nat), Value.int IntKind.i64 d),
                                    ((6 : Nat),
                                      Value.slice (some { block := (1 : Nat), off := (0 : Nat) }) (4 : Nat) (4 : Nat)),
                                    ((7 : Nat), Value.int IntKind.i64 (Int.ofNat k)), ((8 : Nat), Value.bool true),
                                    ((9 : Nat),
                                      Value.int IntKind.i64 (IntKind.wrap IntKind.i64 (Int.ofNat k + (1 : Int))))])
                                (mkS
                                  [some (AObj.row (1 : Nat) k h fun i => [Value.bool true]),
                                    some
                                      (AObj.cells
                                        [Value.int IntKind.i64 (1 : Int), Value.int IntKind.i64 (1 : Int),
                                          Value.float FloatKind.f64 (0 : Nat), Value.int IntKind.i64 (4 : Int),
                                          Value.int IntKind.i64 (0 : Int), Value.float FloatKind.f64 (0 : Nat),
                                          Value.int IntKind.i64 (1 : Int), Value.int IntKind.i64 (1 : Int),
                                          Value.float FloatKind.f64 (0 : Nat), Value.int IntKind.i64 (4 : Int),
                                          Value.int IntKind.i64 (Int.ofNat k), Value.float FloatKind.f64 (0 : Nat)]
                                        true (0 : Nat))]))))
                          (N AX.normal
                            (mkF (78 : Nat)
                              [((0 : Nat),
                                  Value.slice (some { block := (0 : Nat), off := (0 : Nat), spot := some (0 : Nat) }) n
                                    n),
                                ((5 : Nat), Value.int IntKind.i64 d),
                                ((6 : Nat),
                                  Value.slice (some { block := (1 : Nat), off := (0 : Nat) }) (4 : Nat) (4 : Nat)),
                                ((7 : Nat), Value.int IntKind.i64 (Int.ofNat k)), ((8 : Nat), Value.bool true),
                                ((9 : Nat), Value.int IntKind.i64 (IntKind.wrap IntKind.i64 (Int.ofNat k + (1 : Int))))])
                            (mkS
                              [some (AObj.row (1 : Nat) k h fun i => [Value.bool true]),
                                some
                                  (AObj.cells
                                    [Value.int IntKind.i64 (1 : Int), Value.int IntKind.i64 (1 : Int),
                                      Value.float FloatKind.f64 (0 : Nat), Value.int IntKind.i64 (4 : Int),
                                      Value.int IntKind.i64 (0 : Int), Value.float FloatKind.f64 (0 : Nat),
                                      Value.int IntKind.i64 (1 : Int), Value.int IntKind.i64 (1 : Int),
                                      Value.float FloatKind.f64 (0 : Nat), Value.int IntKind.i64 (4 : Int),
                                      Value.int IntKind.i64 (Int.ofNat k), Value.float FloatKind.f64 (0 : Nat)]
                                    true (0 : Nat))]))))))
                  (need (Nat.blt (Int.toNat (Int.ofNat k)) n)
                    (need
                      (Nat.ble k ((0 : Nat) + Int.toNat (Int.ofNat k)) && Nat.blt ((0 : Nat) + Int.toNat (Int.ofNat k)) h)
                      (br (!false == decide (IntKind.wrap IntKind.i64 (Int.ofNat k - Int.ofNat k) < d))
                        (N AX.ret (mkF (78 : Nat) []) (mkS [some (AObj.row (1 : Nat) k h fun i => [Value.bool true])]))
                        (br (decide (IntKind.wrap IntKind.i64 (Int.ofNat k - Int.ofNat k) ≥ d))
                          (need (Nat.blt (Int.toNat (Int.ofNat k)) n)
                            (need
                              (Nat.ble k ((0 : Nat) + Int.toNat (Int.ofNat k)) &&
                                Nat.blt ((0 : Nat) + Int.toNat (Int.ofNat k)) h)
                              (N AX.normal
                                (mkF (78 : Nat)
                                  [((0 : Nat),
                                      Value.slice (some { block := (0 : Nat), off := (0 : Nat), spot := some (0 : Nat) })
                                        n n),
                                    ((5 : Nat), Value.int IntKind.i64 d),
                                    ((6 : Nat),
                                      Value.slice (some { block := (1 : Nat), off := (0 : Nat) }) (4 : Nat) (4 : Nat)),
                                    ((7 : Nat), Value.int IntKind.i64 (Int.ofNat k)), ((8 : Nat), Value.bool true),
                                    ((9 : Nat),
                                      Value.int IntKind.i64 (IntKind.wrap IntKind.i64 (Int.ofNat k + (1 : Int))))])
                                (mkS
                                  [some (AObj.row (1 : Nat) k h fun i => [Value.bool true]),
                                    some
                                      (AObj.cells
                                        [Value.int IntKind.i64 (1 : Int), Value.int IntKind.i64 (0 : Int),
                                          Value.float FloatKind.f64 (0 : Nat), Value.int IntKind.i64 (4 : Int),
                                          Value.int IntKind.i64 (0 : Int), Value.float FloatKind.f64 (0 : Nat),
                                          Value.int IntKind.i64 (1 : Int), Value.int IntKind.i64 (1 : Int),
                                          Value.float FloatKind.f64 (0 : Nat), Value.int IntKind.i64 (4 : Int),
                                          Value.int IntKind.i64 (Int.ofNat k), Value.float FloatKind.f64 (0 : Nat)]
                                        true (0 : Nat))]))))
                          (N AX.normal
                            (mkF (78 : Nat)
                              [((0 : Nat),
                                  Value.slice (some { block := (0 : Nat), off := (0 : Nat), spot := some (0 : Nat) }) n
                                    n),
                                ((5 : Nat), Value.int IntKind.i64 d),
                                ((6 : Nat),
                                  Value.slice (some { block := (1 : Nat), off := (0 : Nat) }) (4 : Nat) (4 : Nat)),
                                ((7 : Nat), Value.int IntKind.i64 (Int.ofNat k)), ((8 : Nat), Value.bool true),
                                ((9 : Nat), Value.int IntKind.i64 (IntKind.wrap IntKind.i64 (Int.ofNat k + (1 : Int))))])
                            (mkS
                              [some (AObj.row (1 : Nat) k h fun i => [Value.bool true]),
                                some
                                  (AObj.cells
                                    [Value.int IntKind.i64 (1 : Int), Value.int IntKind.i64 (0 : Int),
                                      Value.float FloatKind.f64 (0 : Nat), Value.int IntKind.i64 (4 : Int),
                                      Value.int IntKind.i64 (0 : Int), Value.float FloatKind.f64 (0 : Nat),
                                      Value.int IntKind.i64 (1 : Int), Value.int IntKind.i64 (1 : Int),
                                      Value.float FloatKind.f64 (0 : Nat), Value.int IntKind.i64 (4 : Int),
                                      Value.int IntKind.i64 (Int.ofNat k), Value.float FloatKind.f64 (0 : Nat)]
                                    true (0 : Nat))])))))))
                (br (!(0 : Int) == if (0 : Int) > d then (0 : Int) else d)
                  (need (Nat.blt (Int.toNat (Int.ofNat k)) n)
                    (need
                      (Nat.ble k ((0 : Nat) + Int.toNat (Int.ofNat k)) && Nat.blt ((0 : Nat) + Int.toNat (Int.ofNat k)) h)
                      (br (!true == decide (IntKind.wrap IntKind.i64 (Int.ofNat k - Int.ofNat k) < d))
                        (N AX.ret (mkF (78 : Nat) []) (mkS [some (AObj.row (1 : Nat) k h fun i => [Value.bool true])]))
                        (br (decide (IntKind.wrap IntKind.i64 (Int.ofNat k - Int.ofNat k) ≥ d))
                          (need (Nat.blt (Int.toNat (Int.ofNat k)) n)
                            (need
                              (Nat.ble k ((0 : Nat) + Int.toNat (Int.ofNat k)) &&
                                Nat.blt ((0 : Nat) + Int.toNat (Int.ofNat k)) h)
                              (N AX.normal
                                (mkF (78 : Nat)
                                  [((0 : Nat),
                                      Value.slice (some { block := (0 : Nat), off := (0 : Nat), spot := some (0 : Nat) })
                                        n n),
                                    ((5 : Nat), Value.int IntKind.i64 d),
                                    ((6 : Nat),
                                      Value.slice (some { block := (1 : Nat), off := (0 : Nat) }) (4 : Nat) (4 : Nat)),
                                    ((7 : Nat), Value.int IntKind.i64 (Int.ofNat k)), ((8 : Nat), Value.bool true),
                                    ((9 : Nat),
                                      Value.int IntKind.i64 (IntKind.wrap IntKind.i64 (Int.ofNat k + (1 : Int))))])
                                (mkS
                                  [some (AObj.row (1 : Nat) k h fun i => [Value.bool true]),
                                    some
                                      (AObj.cells
                                        [Value.int IntKind.i64 (1 : Int), Value.int IntKind.i64 (1 : Int),
                                          Value.float FloatKind.f64 (0 : Nat), Value.int IntKind.i64 (4 : Int),
                                          Value.int IntKind.i64 (0 : Int), Value.float FloatKind.f64 (0 : Nat),
                                          Value.int IntKind.i64 (1 : Int), Value.int IntKind.i64 (1 : Int),
                                          Value.float FloatKind.f64 (0 : Nat), Value.int IntKind.i64 (4 : Int),
                                          Value.int IntKind.i64 (Int.ofNat k), Value.float FloatKind.f64 (0 : Nat)]
                                        true (0 : Nat))]))))
                          (N AX.normal
                            (mkF (78 : Nat)
                              [((0 : Nat),
                                  Value.slice (some { block := (0 : Nat), off := (0 : Nat), spot := some (0 : Nat) }) n
                                    n),
                                ((5 : Nat), Value.int IntKind.i64 d),
                                ((6 : Nat),
                                  Value.slice (some { block := (1 : Nat), off := (0 : Nat) }) (4 : Nat) (4 : Nat)),
                                ((7 : Nat), Value.int IntKind.i64 (Int.ofNat k)), ((8 : Nat), Value.bool true),
                                ((9 : Nat), Value.int IntKind.i64 (IntKind.wrap IntKind.i64 (Int.ofNat k + (1 : Int))))])
                            (mkS
                              [some (AObj.row (1 : Nat) k h fun i => [Value.bool true]),
                                some
                                  (AObj.cells
                                    [Value.int IntKind.i64 (1 : Int), Value.int IntKind.i64 (1 : Int),
                                      Value.float FloatKind.f64 (0 : Nat), Value.int IntKind.i64 (4 : Int),
                                      Value.int IntKind.i64 (0 : Int), Value.float FloatKind.f64 (0 : Nat),
                                      Value.int IntKind.i64 (1 : Int), Value.int IntKind.i64 (1 : Int),
                                      Value.float FloatKind.f64 (0 : Nat), Value.int IntKind.i64 (4 : Int),
                                      Value.int IntKind.i64 (Int.ofNat k), Value.float FloatKind.f64 (0 : Nat)]
                                    true (0 : Nat))]))))))
                  (need (Nat.blt (Int.toNat (Int.ofNat k)) n)
                    (need
                      (Nat.ble k ((0 : Nat) + Int.toNat (Int.ofNat k)) && Nat.blt ((0 : Nat) + Int.toNat (Int.ofNat k)) h)
                      (br (!false == decide (IntKind.wrap IntKind.i64 (Int.ofNat k - Int.ofNat k) < d))
                        (N AX.ret (mkF (78 : Nat) []) (mkS [some (AObj.row (1 : Nat) k h fun i => [Value.bool true])]))
                        (br (decide (IntKind.wrap IntKind.i64 (Int.ofNat k - Int.ofNat k) ≥ d))
                          (need (Nat.blt (Int.toNat (Int.ofNat k)) n)
                            (need
                              (Nat.ble k ((0 : Nat) + Int.toNat (Int.ofNat k)) &&
                                Nat.blt ((0 : Nat) + Int.toNat (Int.ofNat k)) h)
                              (N AX.normal
                                (mkF (78 : Nat)
                                  [((0 : Nat),
                                      Value.slice (some { block := (0 : Nat), off := (0 : Nat), spot := some (0 : Nat) })
                                        n n),
                                    ((5 : Nat), Value.int IntKind.i64 d),
                                    ((6 : Nat),
                                      Value.slice (some { block := (1 : Nat), off := (0 : Nat) }) (4 : Nat) (4 : Nat)),
                                    ((7 : Nat), Value.int IntKind.i64 (Int.ofNat k)), ((8 : Nat), Value.bool true),
                                    ((9 : Nat),
                                      Value.int IntKind.i64 (IntKind.wrap IntKind.i64 (Int.ofNat k + (1 : Int))))])
                                (mkS
                                  [some (AObj.row (1 : Nat) k h fun i => [Value.bool true]),
                                    some
                                      (AObj.cells
                                        [Value.int IntKind.i64 (1 : Int), Value.int IntKind.i64 (0 : Int),
                                          Value.float FloatKind.f64 (0 : Nat), Value.int IntKind.i64 (4 : Int),
                                          Value.int IntKind.i64 (0 : Int), Value.float FloatKind.f64 (0 : Nat),
                                          Value.int IntKind.i64 (1 : Int), Value.int IntKind.i64 (1 : Int),
                                          Value.float FloatKind.f64 (0 : Nat), Value.int IntKind.i64 (4 : Int),
                                          Value.int IntKind.i64 (Int.ofNat k), Value.float FloatKind.f64 (0 : Nat)]
                                        true (0 : Nat))]))))
                          (N AX.normal
                            (mkF (78 : Nat)
                              [((0 : Nat),
                                  Value.slice (some { block := (0 : Nat), off := (0 : Nat), spot := some (0 : Nat) }) n
                                    n),
                                ((5 : Nat), Value.int IntKind.i64 d),
                                ((6 : Nat),
                                  Value.slice (some { block := (1 : Nat), off := (0 : Nat) }) (4 : Nat) (4 : Nat)),
                                ((7 : Nat), Value.int IntKind.i64 (Int.ofNat k)), ((8 : Nat), Value.bool true),
                                ((9 : Nat), Value.int IntKind.i64 (IntKind.wrap IntKind.i64 (Int.ofNat k + (1 : Int))))])
                            (mkS
                              [some (AObj.row (1 : Nat) k h fun i => [Value.bool true]),
                                some
                                  (AObj.cells
                                    [Value.int IntKind.i64 (1 : Int), Value.int IntKind.i64 (0 : Int),
                                      Value.float FloatKind.f64 (0 : Nat), Value.int IntKind.i64 (4 : Int),
                                      Value.int IntKind.i64 (0 : Int), Value.float FloatKind.f64 (0 : Nat),
                                      Value.int IntKind.i64 (1 : Int), Value.int IntKind.i64 (1 : Int),
                                      Value.float FloatKind.f64 (0 : Nat), Value.int IntKind.i64 (4 : Int),
                                      Value.int IntKind.i64 (Int.ofNat k), Value.float FloatKind.f64 (0 : Nat)]
                                    true (0 : Nat))]))))))))
              (br (!!(0 : Int) == if (0 : Int) > d then (0 : Int) else d) False
                (br (!(0 : Int) == if (0 : Int) > d then (0 : Int) else d)
                  (need (Nat.blt (Int.toNat (Int.ofNat k)) n)
                    (need
                      (Nat.ble k ((0 : Nat) + Int.toNat (Int.ofNat k)) && Nat.blt ((0 : Nat) + Int.toNat (Int.ofNat k)) h)
                      (br (!true == decide (IntKind.wrap IntKind.i64 (Int.ofNat k - Int.ofNat k) < d))
                        (N AX.ret (mkF (78 : Nat) []) (mkS [some (AObj.row (1 : Nat) k h fun i => [Value.bool true])]))
                        (br (decide (IntKind.wrap IntKind.i64 (Int.ofNat k - Int.ofNat k) ≥ d))
                          (need (Nat.blt (Int.toNat (Int.ofNat k)) n)
                            (need
                              (Nat.ble k ((0 : Nat) + Int.toNat (Int.ofNat k)) &&
                                Nat.blt ((0 : Nat) + Int.toNat (Int.ofNat k)) h)
                              (N AX.normal
                                (mkF (78 : Nat)
                                  [((0 : Nat),
                                      Value.slice (some { block := (0 : Nat), off := (0 : Nat), spot := some (0 : Nat) })
                                        n n),
                                    ((5 : Nat), Value.int IntKind.i64 d),
                                    ((6 : Nat),
                                      Value.slice (some { block := (1 : Nat), off := (0 : Nat) }) (4 : Nat) (4 : Nat)),
                                    ((7 : Nat), Value.int IntKind.i64 (Int.ofNat k)), ((8 : Nat), Value.bool true),
                                    ((9 : Nat),
                                      Value.int IntKind.i64 (IntKind.wrap IntKind.i64 (Int.ofNat k + (1 : Int))))])
                                (mkS
                                  [some (AObj.row (1 : Nat) k h fun i => [Value.bool true]),
                                    some
                                      (AObj.cells
                                        [Value.int IntKind.i64 (1 : Int), Value.int IntKind.i64 (1 : Int),
                                          Value.float FloatKind.f64 (0 : Nat), Value.int IntKind.i64 (4 : Int),
                                          Value.int IntKind.i64 (0 : Int), Value.float FloatKind.f64 (0 : Nat),
                                          Value.int IntKind.i64 (1 : Int), Value.int IntKind.i64 (1 : Int),
                                          Value.float FloatKind.f64 (0 : Nat), Value.int IntKind.i64 (4 : Int),
                                          Value.int IntKind.i64 (Int.ofNat k), Value.float FloatKind.f64 (0 : Nat)]
                                        true (0 : Nat))]))))
                          (N AX.normal
                            (mkF (78 : Nat)
                              [((0 : Nat),
                                  Value.slice (some { block := (0 : Nat), off := (0 : Nat), spot := some (0 : Nat) }) n
                                    n),
                                ((5 : Nat), Value.int IntKind.i64 d),
                                ((6 : Nat),
                                  Value.slice (some { block := (1 : Nat), off := (0 : Nat) }) (4 : Nat) (4 : Nat)),
                                ((7 : Nat), Value.int IntKind.i64 (Int.ofNat k)), ((8 : Nat), Value.bool true),
                                ((9 : Nat), Value.int IntKind.i64 (IntKind.wrap IntKind.i64 (Int.ofNat k + (1 : Int))))])
                            (mkS
                              [some (AObj.row (1 : Nat) k h fun i => [Value.bool true]),
                                some
                                  (AObj.cells
                                    [Value.int IntKind.i64 (1 : Int), Value.int IntKind.i64 (1 : Int),
                                      Value.float FloatKind.f64 (0 : Nat), Value.int IntKind.i64 (4 : Int),
                                      Value.int IntKind.i64 (0 : Int), Value.float FloatKind.f64 (0 : Nat),
                                      Value.int IntKind.i64 (1 : Int), Value.int IntKind.i64 (1 : Int),
                                      Value.float FloatKind.f64 (0 : Nat), Value.int IntKind.i64 (4 : Int),
                                      Value.int IntKind.i64 (Int.ofNat k), Value.float FloatKind.f64 (0 : Nat)]
                                    true (0 : Nat))]))))))
                  (need (Nat.blt (Int.toNat (Int.ofNat k)) n)
                    (need
                      (Nat.ble k ((0 : Nat) + Int.toNat (Int.ofNat k)) && Nat.blt ((0 : Nat) + Int.toNat (Int.ofNat k)) h)
                      (br (!false == decide (IntKind.wrap IntKind.i64 (Int.ofNat k - Int.ofNat k) < d))
                        (N AX.ret (mkF (78 : Nat) []) (mkS [some (AObj.row (1 : Nat) k h fun i => [Value.bool true])]))
                        (br (decide (IntKind.wrap IntKind.i64 (Int.ofNat k - Int.ofNat k) ≥ d))
                          (need (Nat.blt (Int.toNat (Int.ofNat k)) n)
                            (need
                              (Nat.ble k ((0 : Nat) + Int.toNat (Int.ofNat k)) &&
                                Nat.blt ((0 : Nat) + Int.toNat (Int.ofNat k)) h)
                              (N AX.normal
                                (mkF (78 : Nat)
                                  [((0 : Nat),
                                      Value.slice (some { block := (0 : Nat), off := (0 : Nat), spot := some (0 : Nat) })
                                        n n),
                                    ((5 : Nat), Value.int IntKind.i64 d),
                                    ((6 : Nat),
                                      Value.slice (some { block := (1 : Nat), off := (0 : Nat) }) (4 : Nat) (4 : Nat)),
                                    ((7 : Nat), Value.int IntKind.i64 (Int.ofNat k)), ((8 : Nat), Value.bool true),
                                    ((9 : Nat),
                                      Value.int IntKind.i64 (IntKind.wrap IntKind.i64 (Int.ofNat k + (1 : Int))))])
                                (mkS
                                  [some (AObj.row (1 : Nat) k h fun i => [Value.bool true]),
                                    some
                                      (AObj.cells
                                        [Value.int IntKind.i64 (1 : Int), Value.int IntKind.i64 (0 : Int),
                                          Value.float FloatKind.f64 (0 : Nat), Value.int IntKind.i64 (4 : Int),
                                          Value.int IntKind.i64 (0 : Int), Value.float FloatKind.f64 (0 : Nat),
                                          Value.int IntKind.i64 (1 : Int), Value.int IntKind.i64 (1 : Int),
                                          Value.float FloatKind.f64 (0 : Nat), Value.int IntKind.i64 (4 : Int),
                                          Value.int IntKind.i64 (Int.ofNat k), Value.float FloatKind.f64 (0 : Nat)]
                                        true (0 : Nat))]))))
                          (N AX.normal
                            (mkF (78 : Nat)
                              [((0 : Nat),
                                  Value.slice (some { block := (0 : Nat), off := (0 : Nat), spot := some (0 : Nat) }) n
                                    n),
                                ((5 : Nat), Value.int IntKind.i64 d),
                                ((6 : Nat),
                                  Value.slice (some { block := (1 : Nat), off := (0 : Nat) }) (4 : Nat) (4 : Nat)),
                                ((7 : Nat), Value.int IntKind.i64 (Int.ofNat k)), ((8 : Nat), Value.bool true),
                                ((9 : Nat), Value.int IntKind.i64 (IntKind.wrap IntKind.i64 (Int.ofNat k + (1 : Int))))])
                            (mkS
                              [some (AObj.row (1 : Nat) k h fun i => [Value.bool true]),
                                some
                                  (AObj.cells
                                    [Value.int IntKind.i64 (1 : Int), Value.int IntKind.i64 (0 : Int),
                                      Value.float FloatKind.f64 (0 : Nat), Value.int IntKind.i64 (4 : Int),
                                      Value.int IntKind.i64 (0 : Int), Value.float FloatKind.f64 (0 : Nat),
                                      Value.int IntKind.i64 (1 : Int), Value.int IntKind.i64 (1 : Int),
                                      Value.float FloatKind.f64 (0 : Nat), Value.int IntKind.i64 (4 : Int),
                                      Value.int IntKind.i64 (Int.ofNat k), Value.float FloatKind.f64 (0 : Nat)]
                                    true (0 : Nat))])))))))))
            (br (!!(0 : Int) == if (0 : Int) > d then (0 : Int) else d) False
              (br (!!(0 : Int) == if (0 : Int) > d then (0 : Int) else d) False
                (br (!(0 : Int) == if (0 : Int) > d then (0 : Int) else d)
                  (need (Nat.blt (Int.toNat (Int.ofNat k)) n)
                    (need
                      (Nat.ble k ((0 : Nat) + Int.toNat (Int.ofNat k)) && Nat.blt ((0 : Nat) + Int.toNat (Int.ofNat k)) h)
                      (br (!true == decide (IntKind.wrap IntKind.i64 (Int.ofNat k - Int.ofNat k) < d))
                        (N AX.ret (mkF (78 : Nat) []) (mkS [some (AObj.row (1 : Nat) k h fun i => [Value.bool true])]))
                        (br (decide (IntKind.wrap IntKind.i64 (Int.ofNat k - Int.ofNat k) ≥ d))
                          (need (Nat.blt (Int.toNat (Int.ofNat k)) n)
                            (need
                              (Nat.ble k ((0 : Nat) + Int.toNat (Int.ofNat k)) &&
                                Nat.blt ((0 : Nat) + Int.toNat (Int.ofNat k)) h)
                              (N AX.normal
                                (mkF (78 : Nat)
                                  [((0 : Nat),
                                      Value.slice (some { block := (0 : Nat), off := (0 : Nat), spot := some (0 : Nat) })
                                        n n),
                                    ((5 : Nat), Value.int IntKind.i64 d),
                                    ((6 : Nat),
                                      Value.slice (some { block := (1 : Nat), off := (0 : Nat) }) (4 : Nat) (4 : Nat)),
                                    ((7 : Nat), Value.int IntKind.i64 (Int.ofNat k)), ((8 : Nat), Value.bool true),
                                    ((9 : Nat),
                                      Value.int IntKind.i64 (IntKind.wrap IntKind.i64 (Int.ofNat k + (1 : Int))))])
                                (mkS
                                  [some (AObj.row (1 : Nat) k h fun i => [Value.bool true]),
                                    some
                                      (AObj.cells
                                        [Value.int IntKind.i64 (1 : Int), Value.int IntKind.i64 (1 : Int),
                                          Value.float FloatKind.f64 (0 : Nat), Value.int IntKind.i64 (4 : Int),
                                          Value.int IntKind.i64 (0 : Int), Value.float FloatKind.f64 (0 : Nat),
                                          Value.int IntKind.i64 (1 : Int), Value.int IntKind.i64 (1 : Int),
                                          Value.float FloatKind.f64 (0 : Nat), Value.int IntKind.i64 (4 : Int),
                                          Value.int IntKind.i64 (Int.ofNat k), Value.float FloatKind.f64 (0 : Nat)]
                                        true (0 : Nat))]))))
                          (N AX.normal
                            (mkF (78 : Nat)
                              [((0 : Nat),
                                  Value.slice (some { block := (0 : Nat), off := (0 : Nat), spot := some (0 : Nat) }) n
                                    n),
                                ((5 : Nat), Value.int IntKind.i64 d),
                                ((6 : Nat),
                                  Value.slice (some { block := (1 : Nat), off := (0 : Nat) }) (4 : Nat) (4 : Nat)),
                                ((7 : Nat), Value.int IntKind.i64 (Int.ofNat k)), ((8 : Nat), Value.bool true),
                                ((9 : Nat), Value.int IntKind.i64 (IntKind.wrap IntKind.i64 (Int.ofNat k + (1 : Int))))])
                            (mkS
                              [some (AObj.row (1 : Nat) k h fun i => [Value.bool true]),
                                some
                                  (AObj.cells
                                    [Value.int IntKind.i64 (1 : Int), Value.int IntKind.i64 (1 : Int),
                                      Value.float FloatKind.f64 (0 : Nat), Value.int IntKind.i64 (4 : Int),
                                      Value.int IntKind.i64 (0 : Int), Value.float FloatKind.f64 (0 : Nat),
                                      Value.int IntKind.i64 (1 : Int), Value.int IntKind.i64 (1 : Int),
                                      Value.float FloatKind.f64 (0 : Nat), Value.int IntKind.i64 (4 : Int),
                                      Value.int IntKind.i64 (Int.ofNat k), Value.float FloatKind.f64 (0 : Nat)]
                                    true (0 : Nat))]))))))
                  (need (Nat.blt (Int.toNat (Int.ofNat k)) n)
                    (need
                      (Nat.ble k ((0 : Nat) + Int.toNat (Int.ofNat k)) && Nat.blt ((0 : Nat) + Int.toNat (Int.ofNat k)) h)
                      (br (!false == decide (IntKind.wrap IntKind.i64 (Int.ofNat k - Int.ofNat k) < d))
                        (N AX.ret (mkF (78 : Nat) []) (mkS [some (AObj.row (1 : Nat) k h fun i => [Value.bool true])]))
                        (br (decide (IntKind.wrap IntKind.i64 (Int.ofNat k - Int.ofNat k) ≥ d))
                          (need (Nat.blt (Int.toNat (Int.ofNat k)) n)
                            (need
                              (Nat.ble k ((0 : Nat) + Int.toNat (Int.ofNat k)) &&
                                Nat.blt ((0 : Nat) + Int.toNat (Int.ofNat k)) h)
                              (N AX.normal
                                (mkF (78 : Nat)
                                  [((0 : Nat),
                                      Value.slice (some { block := (0 : Nat), off := (0 : Nat), spot := some (0 : Nat) })
                                        n n),
                                    ((5 : Nat), Value.int IntKind.i64 d),
                                    ((6 : Nat),
                                      Value.slice (some { block := (1 : Nat), off := (0 : Nat) }) (4 : Nat) (4 : Nat)),
                                    ((7 : Nat), Value.int IntKind.i64 (Int.ofNat k)), ((8 : Nat), Value.bool true),
                                    ((9 : Nat),
                                      Value.int IntKind.i64 (IntKind.wrap IntKind.i64 (Int.ofNat k + (1 : Int))))])
                                (mkS
                                  [some (AObj.row (1 : Nat) k h fun i => [Value.bool true]),
                                    some
                                      (AObj.cells
                                        [Value.int IntKind.i64 (1 : Int), Value.int IntKind.i64 (0 : Int),
                                          Value.float FloatKind.f64 (0 : Nat), Value.int IntKind.i64 (4 : Int),
                                          Value.int IntKind.i64 (0 : Int), Value.float FloatKind.f64 (0 : Nat),
                                          Value.int IntKind.i64 (1 : Int), Value.int IntKind.i64 (1 : Int),
                                          Value.float FloatKind.f64 (0 : Nat), Value.int IntKind.i64 (4 : Int),
                                          Value.int IntKind.i64 (Int.ofNat k), Value.float FloatKind.f64 (0 : Nat)]
                                        true (0 : Nat))]))))
                          (N AX.normal
                            (mkF (78 : Nat)
                              [((0 : Nat),
                                  Value.slice (some { block := (0 : Nat), off := (0 : Nat), spot := some (0 : Nat) }) n
                                    n),
                                ((5 : Nat), Value.int IntKind.i64 d),
                                ((6 : Nat),
                                  Value.slice (some { block := (1 : Nat), off := (0 : Nat) }) (4 : Nat) (4 : Nat)),
                                ((7 : Nat), Value.int IntKind.i64 (Int.ofNat k)), ((8 : Nat), Value.bool true),
                                ((9 : Nat), Value.int IntKind.i64 (IntKind.wrap IntKind.i64 (Int.ofNat k + (1 : Int))))])
                            (mkS
                              [some (AObj.row (1 : Nat) k h fun i => [Value.bool true]),
                                some
                                  (AObj.cells
                                    [Value.int IntKind.i64 (1 : Int), Value.int IntKind.i64 (0 : Int),
                                      Value.float FloatKind.f64 (0 : Nat), Value.int IntKind.i64 (4 : Int),
                                      Value.int IntKind.i64 (0 : Int), Value.float FloatKind.f64 (0 : Nat),
                                      Value.int IntKind.i64 (1 : Int), Value.int IntKind.i64 (1 : Int),
                                      Value.float FloatKind.f64 (0 : Nat), Value.int IntKind.i64 (4 : Int),
                                      Value.int IntKind.i64 (Int.ofNat k), Value.float FloatKind.f64 (0 : Nat)]
                                    true (0 : Nat))])))))))))))))
    (N (AX.exit (0 : Nat)) (mkF (78 : Nat) []) (mkS [some (AObj.row (1 : Nat) k h fun i => [Value.bool true])])) := by kernel_rfl
theorem vc_pu_ff (n k h : Nat) (d : Int) (q et at_ start : Int) (β : Bs) (N : Kt) (ex : Nat → Kt → Prop) : roundJ Try.prog toldB 100 20 β (fun _ => 20) (cnOf 1 fun _ => []) ex 5 0 1 (lvOf [0, 5, 6, 7, 8, 9])
    (mkF 78 [(0, .slice (some ⟨0, 0, some 0⟩) n n), (5, .int .i64 d), (6, .slice (some ⟨1, 0, none⟩) 4 4), (7, .int .i64 start), (8, .bool false), (9, .int .i64 (Int.ofNat k))])
    (mkS [some (oneB k h false), some (.cells (cell4 q et 0 at_) true 0)]) N =
  br (decide (Int.ofNat k < Int.ofNat n))
    (need (Nat.blt (Int.toNat (Int.ofNat k)) n)
      (need (Nat.ble k ((0 : Nat) + Int.toNat (Int.ofNat k)) && Nat.blt ((0 : Nat) + Int.toNat (Int.ofNat k)) h)
        (need (Nat.blt (Int.toNat (Int.ofNat k)) n)
          (need (Nat.ble k ((0 : Nat) + Int.toNat (Int.ofNat k)) && Nat.blt ((0 : Nat) + Int.toNat (Int.ofNat k)) h)
            (N AX.normal
              (mkF (78 : Nat)
                [((0 : Nat), Value.slice (some { block := (0 : Nat), off := (0 : Nat), spot := some (0 : Nat) }) n n),
                  ((5 : Nat), Value.int IntKind.i64 d),
                  ((6 : Nat), Value.slice (some { block := (1 : Nat), off := (0 : Nat) }) (4 : Nat) (4 : Nat)),
                  ((7 : Nat), Value.int IntKind.i64 start), ((8 : Nat), Value.bool false),
                  ((9 : Nat), Value.int IntKind.i64 (IntKind.wrap IntKind.i64 (Int.ofNat k + (1 : Int))))])
              (mkS
                [some (AObj.row (1 : Nat) k h fun i => [Value.bool false]),
                  some
                    (AObj.cells
                      [Value.int IntKind.i64 (1 : Int), Value.int IntKind.i64 (0 : Int),
                        Value.float FloatKind.f64 (0 : Nat), Value.int IntKind.i64 (4 : Int),
                        Value.int IntKind.i64 (0 : Int), Value.float FloatKind.f64 (0 : Nat),
                        Value.int IntKind.i64 (1 : Int), Value.int IntKind.i64 (0 : Int),
                        Value.float FloatKind.f64 (0 : Nat), Value.int IntKind.i64 (4 : Int),
                        Value.int IntKind.i64 (0 : Int), Value.float FloatKind.f64 (0 : Nat)]
                      true (0 : Nat))]))))))
    (N (AX.exit (0 : Nat)) (mkF (78 : Nat) []) (mkS [some (AObj.row (1 : Nat) k h fun i => [Value.bool false])])) := by kernel_rfl
theorem vc_pu_nil (pt : Int) (β : Bs) : lawJ Try.prog toldB 100 20 β (fun _ => 3) (cnOf 0 fun _ => []) (fun _ _ => False) 5 [.slice none 0 0, .int .u8 pt] st0 trueV =
  True := by kernel_rfl
theorem vc_pu_emp (pt : Int) (β : Bs) : lawJ Try.prog toldB 100 20 β (fun _ => 3) (cnOf 0 fun _ => []) (fun _ _ => False) 5 [.slice (some ⟨0, 0, some 0⟩) 0 0, .int .u8 pt] st0 trueV =
  True := by kernel_rfl
end Go.Proofs.Ytaceobjppcmhjaa.Ev
