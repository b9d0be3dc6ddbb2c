/-
  What has to hold: printed by the evaluator.
-/
import Derived.Test.YtaceobjppcmhjaaTimS
set_option linter.unusedVariables false
set_option maxRecDepth 1000000
namespace Go.Proofs.Ytaceobjppcmhjaa.Ev
open Go Go.Proofs
/-- the cells of a timer -/
def cell4 (q et on at_ : Int) : List Value := [.int .i64 1, .int .i64 q, .float .f64 0, .int .i64 4, .int .i64 et, .float .f64 0, .int .i64 1, .int .i64 on, .float .f64 0, .int .i64 4, .int .i64 at_, .float .f64 0]
theorem vc_off (n : Nat) (g : Nat → Bool) (pt : Int) (β : Bs) : lawJ Try.prog toldB 100 20 β (fun _ => 0) (cnOf 1 fun _ => [0, 1, 5, 6, 7]) (exEnd 62 [some (boolRow n g)]) 4 [.slice (some ⟨0, 0, some 0⟩) n n, .int .u8 pt] (mkS [some (boolRow n g)]) trueV =
  br (decide (Int.ofNat n > (40 : Int))) True
    (LoopJ Try.prog β (exEnd (62 : Nat) [some (boolRow n g)]) (0 : Nat) (loopOf Try.prog (4 : FuncId) (0 : Nat))
        (mkF (62 : Nat)
          [((0 : Nat), Value.slice (some { block := (0 : Nat), off := (0 : Nat), spot := some (0 : Nat) }) n n),
            ((1 : Nat), Value.int IntKind.u8 pt),
            ((5 : Nat), Value.slice (some { block := (1 : Nat), off := (0 : Nat) }) (4 : Nat) (4 : Nat)),
            ((6 : Nat), Value.int IntKind.i64 (-1000 : Int)), ((7 : Nat), Value.int IntKind.i64 (0 : Int))])
        (mkS
          [some (AObj.row (1 : Nat) (0 : Nat) n fun i => [Value.bool (g i)]),
            some
              (AObj.cells
                [Value.int IntKind.i64 (1 : Int), Value.int IntKind.i64 (0 : Int), Value.float FloatKind.f64 (0 : Nat),
                  Value.int IntKind.i64 (4 : Int), Value.int IntKind.i64 (0 : Int), Value.float FloatKind.f64 (0 : Nat),
                  Value.int IntKind.i64 (1 : Int), Value.int IntKind.i64 (0 : Int), Value.float FloatKind.f64 (0 : Nat),
                  Value.int IntKind.i64 (4 : Int), Value.int IntKind.i64 (0 : Int), Value.float FloatKind.f64 (0 : Nat)]
                true (0 : Nat))]) ∧
      True) := by kernel_rfl
theorem vc_off_t (n k h : Nat) (pt : Int) (q et on at_ last : Int) (β : Bs) (N : Kt) (ex : Nat → Kt → Prop) : roundJ Try.prog toldB 100 20 β (fun _ => 20) (cnOf 1 fun _ => []) ex 4 0 1 (lvOf [0, 1, 5, 6, 7])
    (mkF 62 [(0, .slice (some ⟨0, 0, some 0⟩) n n), (1, .int .u8 pt), (5, .slice (some ⟨1, 0, none⟩) 4 4), (6, .int .i64 last), (7, .int .i64 (Int.ofNat k))])
    (mkS [some (oneB k h true), some (.cells (cell4 q et on at_) true 0)]) N =
  br (decide (Int.ofNat k < Int.ofNat n))
    (need (Nat.blt (Int.toNat (Int.ofNat k)) n)
      (need (Nat.ble k ((0 : Nat) + Int.toNat (Int.ofNat k)) && Nat.blt ((0 : Nat) + Int.toNat (Int.ofNat k)) h)
        (need (Nat.blt (Int.toNat (Int.ofNat k)) n)
          (need (Nat.ble k ((0 : Nat) + Int.toNat (Int.ofNat k)) && Nat.blt ((0 : Nat) + Int.toNat (Int.ofNat k)) h)
            (need (Nat.blt (Int.toNat (Int.ofNat k)) n)
              (need (Nat.ble k ((0 : Nat) + Int.toNat (Int.ofNat k)) && Nat.blt ((0 : Nat) + Int.toNat (Int.ofNat k)) h)
                (N AX.normal
                  (mkF (62 : Nat)
                    [((0 : Nat), Value.slice (some { block := (0 : Nat), off := (0 : Nat), spot := some (0 : Nat) }) n n),
                      ((1 : Nat), Value.int IntKind.u8 pt),
                      ((5 : Nat), Value.slice (some { block := (1 : Nat), off := (0 : Nat) }) (4 : Nat) (4 : Nat)),
                      ((6 : Nat), Value.int IntKind.i64 (Int.ofNat k)),
                      ((7 : Nat), Value.int IntKind.i64 (IntKind.wrap IntKind.i64 (Int.ofNat k + (1 : Int))))])
                  (mkS
                    [some (AObj.row (1 : Nat) k h fun i => [Value.bool true]),
                      some
                        (AObj.cells
                          [Value.int IntKind.i64 (1 : Int), Value.int IntKind.i64 (1 : Int),
                            Value.float FloatKind.f64 (0 : Nat), Value.int IntKind.i64 (4 : Int),
                            Value.int IntKind.i64 (0 : Int), Value.float FloatKind.f64 (0 : Nat),
                            Value.int IntKind.i64 (1 : Int), Value.int IntKind.i64 (0 : Int),
                            Value.float FloatKind.f64 (0 : Nat), Value.int IntKind.i64 (4 : Int),
                            Value.int IntKind.i64 (0 : Int), Value.float FloatKind.f64 (0 : Nat)]
                          true (0 : Nat))]))))))))
    (N (AX.exit (0 : Nat)) (mkF (62 : Nat) []) (mkS [some (AObj.row (1 : Nat) k h fun i => [Value.bool true])])) := by kernel_rfl
theorem vc_off_f (n k h : Nat) (pt : Int) (q et on at_ last : Int) (β : Bs) (N : Kt) (ex : Nat → Kt → Prop) : roundJ Try.prog toldB 100 20 β (fun _ => 20) (cnOf 1 fun _ => []) ex 4 0 1 (lvOf [0, 1, 5, 6, 7])
    (mkF 62 [(0, .slice (some ⟨0, 0, some 0⟩) n n), (1, .int .u8 pt), (5, .slice (some ⟨1, 0, none⟩) 4 4), (6, .int .i64 last), (7, .int .i64 (Int.ofNat k))])
    (mkS [some (oneB k h false), some (.cells (cell4 q et on at_) true 0)]) N =
  br (decide (Int.ofNat k < Int.ofNat n))
    (need (Nat.blt (Int.toNat (Int.ofNat k)) n)
      (need (Nat.ble k ((0 : Nat) + Int.toNat (Int.ofNat k)) && Nat.blt ((0 : Nat) + Int.toNat (Int.ofNat k)) h)
        (br (q != (0 : Int))
          (br (!on != (0 : Int))
            (br (decide (Int.ofNat k > Int.ofNat k))
              (br
                (!IntKind.wrap IntKind.i64
                      (if
                          IntKind.wrap IntKind.u64
                              (if (0 : Int) > IntKind.wrap IntKind.i64 (Int.tmod pt (10 : Int)) then (0 : Int)
                              else IntKind.wrap IntKind.i64 (Int.tmod pt (10 : Int))) <
                            IntKind.wrap IntKind.u64
                              (IntKind.wrap IntKind.u64 (Int.ofNat k) - IntKind.wrap IntKind.u64 (Int.ofNat k)) then
                        IntKind.wrap IntKind.u64
                          (if (0 : Int) > IntKind.wrap IntKind.i64 (Int.tmod pt (10 : Int)) then (0 : Int)
                          else IntKind.wrap IntKind.i64 (Int.tmod pt (10 : Int)))
                      else
                        IntKind.wrap IntKind.u64
                          (IntKind.wrap IntKind.u64 (Int.ofNat k) - IntKind.wrap IntKind.u64 (Int.ofNat k))) ==
                    if (0 : Int) > IntKind.wrap IntKind.i64 (Int.tmod pt (10 : Int)) then (0 : Int)
                    else IntKind.wrap IntKind.i64 (Int.tmod pt (10 : Int)))
                (need (Nat.blt (Int.toNat (Int.ofNat k)) n)
                  (need
                    (Nat.ble k ((0 : Nat) + Int.toNat (Int.ofNat k)) && Nat.blt ((0 : Nat) + Int.toNat (Int.ofNat k)) h)
                    (need (Nat.blt (Int.toNat (Int.ofNat k)) n)
                      (need
                        (Nat.ble k ((0 : Nat) + Int.toNat (Int.ofNat k)) &&
                          Nat.blt ((0 : Nat) + Int.toNat (Int.ofNat k)) h)
                        (br
                          (!true ==
                              decide
                                (IntKind.wrap IntKind.i64 (Int.ofNat k - IntKind.wrap IntKind.i64 (last + (1 : Int))) <
                                  IntKind.wrap IntKind.i64 (Int.tmod pt (10 : Int))))
                          (N AX.ret (mkF (62 : Nat) []) (mkS [some (AObj.row (1 : Nat) k h fun i => [Value.bool false])]))
                          (N AX.normal
                            (mkF (62 : Nat)
                              [((0 : Nat),
                                  Value.slice (some { block := (0 : Nat), off := (0 : Nat), spot := some (0 : Nat) }) n
                                    n),
                                ((1 : Nat), Value.int IntKind.u8 pt),
                                ((5 : Nat),
                                  Value.slice (some { block := (1 : Nat), off := (0 : Nat) }) (4 : Nat) (4 : Nat)),
                                ((6 : Nat), Value.int IntKind.i64 last),
                                ((7 : Nat), Value.int IntKind.i64 (IntKind.wrap IntKind.i64 (Int.ofNat k + (1 : Int))))])
                            (mkS
                              [some (AObj.row (1 : Nat) k h fun i => [Value.bool false]),
                                some
                                  (AObj.cells
                                    [Value.int IntKind.i64 (1 : Int), Value.int IntKind.i64 (1 : Int),
                                      Value.float FloatKind.f64 (0 : Nat), Value.int IntKind.i64 (4 : Int),
                                      Value.int IntKind.i64
                                        (IntKind.wrap IntKind.i64
                                          (if
                                              IntKind.wrap IntKind.u64
                                                  (if (0 : Int) > IntKind.wrap IntKind.i64 (Int.tmod pt (10 : Int)) then
                                                    (0 : Int)
                                                  else IntKind.wrap IntKind.i64 (Int.tmod pt (10 : Int))) <
                                                IntKind.wrap IntKind.u64
                                                  (IntKind.wrap IntKind.u64 (Int.ofNat k) -
                                                    IntKind.wrap IntKind.u64 (Int.ofNat k)) then
                                            IntKind.wrap IntKind.u64
                                              (if (0 : Int) > IntKind.wrap IntKind.i64 (Int.tmod pt (10 : Int)) then
                                                (0 : Int)
                                              else IntKind.wrap IntKind.i64 (Int.tmod pt (10 : Int)))
                                          else
                                            IntKind.wrap IntKind.u64
                                              (IntKind.wrap IntKind.u64 (Int.ofNat k) -
                                                IntKind.wrap IntKind.u64 (Int.ofNat k)))),
                                      Value.float FloatKind.f64 (0 : Nat), Value.int IntKind.i64 (1 : Int),
                                      Value.int IntKind.i64 (1 : Int), Value.float FloatKind.f64 (0 : Nat),
                                      Value.int IntKind.i64 (4 : Int), Value.int IntKind.i64 (Int.ofNat k),
                                      Value.float FloatKind.f64 (0 : Nat)]
                                    true (0 : Nat))])))))))
                (need (Nat.blt (Int.toNat (Int.ofNat k)) n)
                  (need
                    (Nat.ble k ((0 : Nat) + Int.toNat (Int.ofNat k)) && Nat.blt ((0 : Nat) + Int.toNat (Int.ofNat k)) h)
                    (need (Nat.blt (Int.toNat (Int.ofNat k)) n)
                      (need
                        (Nat.ble k ((0 : Nat) + Int.toNat (Int.ofNat k)) &&
                          Nat.blt ((0 : Nat) + Int.toNat (Int.ofNat k)) h)
                        (br
                          (!false ==
                              decide
                                (IntKind.wrap IntKind.i64 (Int.ofNat k - IntKind.wrap IntKind.i64 (last + (1 : Int))) <
                                  IntKind.wrap IntKind.i64 (Int.tmod pt (10 : Int))))
                          (N AX.ret (mkF (62 : Nat) []) (mkS [some (AObj.row (1 : Nat) k h fun i => [Value.bool false])]))
                          (N AX.normal
                            (mkF (62 : Nat)
                              [((0 : Nat),
                                  Value.slice (some { block := (0 : Nat), off := (0 : Nat), spot := some (0 : Nat) }) n
                                    n),
                                ((1 : Nat), Value.int IntKind.u8 pt),
                                ((5 : Nat),
                                  Value.slice (some { block := (1 : Nat), off := (0 : Nat) }) (4 : Nat) (4 : Nat)),
                                ((6 : Nat), Value.int IntKind.i64 last),
                                ((7 : Nat), Value.int IntKind.i64 (IntKind.wrap IntKind.i64 (Int.ofNat k + (1 : Int))))])
                            (mkS
                              [some (AObj.row (1 : Nat) k h fun i => [Value.bool false]),
                                some
                                  (AObj.cells
                                    [Value.int IntKind.i64 (1 : Int), Value.int IntKind.i64 (0 : Int),
                                      Value.float FloatKind.f64 (0 : Nat), Value.int IntKind.i64 (4 : Int),
                                      Value.int IntKind.i64
                                        (IntKind.wrap IntKind.i64
                                          (if
                                              IntKind.wrap IntKind.u64
                                                  (if (0 : Int) > IntKind.wrap IntKind.i64 (Int.tmod pt (10 : Int)) then
                                                    (0 : Int)
                                                  else IntKind.wrap IntKind.i64 (Int.tmod pt (10 : Int))) <
                                                IntKind.wrap IntKind.u64
                                                  (IntKind.wrap IntKind.u64 (Int.ofNat k) -
                                                    IntKind.wrap IntKind.u64 (Int.ofNat k)) then
                                            IntKind.wrap IntKind.u64
                                              (if (0 : Int) > IntKind.wrap IntKind.i64 (Int.tmod pt (10 : Int)) then
                                                (0 : Int)
                                              else IntKind.wrap IntKind.i64 (Int.tmod pt (10 : Int)))
                                          else
                                            IntKind.wrap IntKind.u64
                                              (IntKind.wrap IntKind.u64 (Int.ofNat k) -
                                                IntKind.wrap IntKind.u64 (Int.ofNat k)))),
                                      Value.float FloatKind.f64 (0 : Nat), Value.int IntKind.i64 (1 : Int),
                                      Value.int IntKind.i64 (1 : Int), Value.float FloatKind.f64 (0 : Nat),
                                      Value.int IntKind.i64 (4 : Int), Value.int IntKind.i64 (Int.ofNat k),
                                      Value.float FloatKind.f64 (0 : Nat)]
                                    true (0 : Nat))]))))))))
              (br
                (!(0 : Int) ==
                    if (0 : Int) > IntKind.wrap IntKind.i64 (Int.tmod pt (10 : Int)) then (0 : Int)
                    else IntKind.wrap IntKind.i64 (Int.tmod pt (10 : Int)))
                (need (Nat.blt (Int.toNat (Int.ofNat k)) n)
                  (need
                    (Nat.ble k ((0 : Nat) + Int.toNat (Int.ofNat k)) && Nat.blt ((0 : Nat) + Int.toNat (Int.ofNat k)) h)
                    (need (Nat.blt (Int.toNat (Int.ofNat k)) n)
                      (need
                        (Nat.ble k ((0 : Nat) + Int.toNat (Int.ofNat k)) &&
                          Nat.blt ((0 : Nat) + Int.toNat (Int.ofNat k)) h)
                        (br
                          (!true ==
                              decide
                                (IntKind.wrap IntKind.i64 (Int.ofNat k - IntKind.wrap IntKind.i64 (last + (1 : Int))) <
                                  IntKind.wrap IntKind.i64 (Int.tmod pt (10 : Int))))
                          (N AX.ret (mkF (62 : Nat) []) (mkS [some (AObj.row (1 : Nat) k h fun i => [Value.bool false])]))
                          (N AX.normal
                            (mkF (62 : Nat)
                              [((0 : Nat),
                                  Value.slice (some { block := (0 : Nat), off := (0 : Nat), spot := some (0 : Nat) }) n
                                    n),
                                ((1 : Nat), Value.int IntKind.u8 pt),
                                ((5 : Nat),
                                  Value.slice (some { block := (1 : Nat), off := (0 : Nat) }) (4 : Nat) (4 : Nat)),
                                ((6 : Nat), Value.int IntKind.i64 last),
                                ((7 : Nat), Value.int IntKind.i64 (IntKind.wrap IntKind.i64 (Int.ofNat k + (1 : Int))))])
                            (mkS
                              [some (AObj.row (1 : Nat) k h fun i => [Value.bool false]),
                                some
                                  (AObj.cells
                                    [Value.int IntKind.i64 (1 : Int), Value.int IntKind.i64 (1 : Int),
                                      Value.float FloatKind.f64 (0 : Nat), Value.int IntKind.i64 (4 : Int),
                                      Value.int IntKind.i64 (0 : Int), Value.float FloatKind.f64 (0 : Nat),
                                      Value.int IntKind.i64 (1 : Int), Value.int IntKind.i64 (1 : Int),
                                      Value.float FloatKind.f64 (0 : Nat), Value.int IntKind.i64 (4 : Int),
                                      Value.int IntKind.i64 (Int.ofNat k), Value.float FloatKind.f64 (0 : Nat)]
                                    true (0 : Nat))])))))))
                (need (Nat.blt (Int.toNat (Int.ofNat k)) n)
                  (need
                    (Nat.ble k ((0 : Nat) + Int.toNat (Int.ofNat k)) && Nat.blt ((0 : Nat) + Int.toNat (Int.ofNat k)) h)
                    (need (Nat.blt (Int.toNat (Int.ofNat k)) n)
                      (need
                        (Nat.ble k ((0 : Nat) + Int.toNat (Int.ofNat k)) &&
                          Nat.blt ((0 : Nat) + Int.toNat (Int.ofNat k)) h)
                        (br
                          (!false ==
                              decide
                                (IntKind.wrap IntKind.i64 (Int.ofNat k - IntKind.wrap IntKind.i64 (last + (1 : Int))) <
                                  IntKind.wrap IntKind.i64 (Int.tmod pt (10 : Int))))
                          (N AX.ret (mkF (62 : Nat) []) (mkS [some (AObj.row (1 : Nat) k h fun i => [Value.bool false])]))
                          (N AX.normal
                            (mkF (62 : Nat)
                              [((0 : Nat),
                                  Value.slice (some { block := (0 : Nat), off := (0 : Nat), spot := some (0 : Nat) }) n
                                    n),
                                ((1 : Nat), Value.int IntKind.u8 pt),
                                ((5 : Nat),
                                  Value.slice (some { block := (1 : Nat), off := (0 : Nat) }) (4 : Nat) (4 : Nat)),
                                ((6 : Nat), Value.int IntKind.i64 last),
                                ((7 : Nat), Value.int IntKind.i64 (IntKind.wrap IntKind.i64 (Int.ofNat k + (1 : Int))))])
                            (mkS
                              [some (AObj.row (1 : Nat) k h fun i => [Value.bool false]),
                                some
                                  (AObj.cells
                                    [Value.int IntKind.i64 (1 : Int), Value.int IntKind.i64 (0 : Int),
                                      Value.float FloatKind.f64 (0 : Nat), Value.int IntKind.i64 (4 : Int),
                                      Value.int IntKind.i64 (0 : Int), Value.float FloatKind.f64 (0 : Nat),
                                      Value.int IntKind.i64 (1 : Int), Value.int IntKind.i64 (1 : Int),
                                      Value.float FloatKind.f64 (0 : Nat), Value.int IntKind.i64 (4 : Int),
                                      Value.int IntKind.i64 (Int.ofNat k), Value.float FloatKind.f64 (0 : Nat)]
                                    true (0 : Nat))])))))))))
            (br (decide (Int.ofNat k > at_))
              (br
                (!IntKind.wrap IntKind.i64
                      (if
                          IntKind.wrap IntKind.u64
                              (if (0 : Int) > IntKind.wrap IntKind.i64 (Int.tmod pt (10 : Int)) then (0 : Int)
                              else IntKind.wrap IntKind.i64 (Int.tmod pt (10 : Int))) <
                            IntKind.wrap IntKind.u64
                              (IntKind.wrap IntKind.u64 (Int.ofNat k) - IntKind.wrap IntKind.u64 at_) then
                        IntKind.wrap IntKind.u64
                          (if (0 : Int) > IntKind.wrap IntKind.i64 (Int.tmod pt (10 : Int)) then (0 : Int)
                          else IntKind.wrap IntKind.i64 (Int.tmod pt (10 : Int)))
                      else
                        IntKind.wrap IntKind.u64
                          (IntKind.wrap IntKind.u64 (Int.ofNat k) - IntKind.wrap IntKind.u64 at_)) ==
                    if (0 : Int) > IntKind.wrap IntKind.i64 (Int.tmod pt (10 : Int)) then (0 : Int)
                    else IntKind.wrap IntKind.i64 (Int.tmod pt (10 : Int)))
                (br (on != (0 : Int))
                  (need (Nat.blt (Int.toNat (Int.ofNat k)) n)
                    (need
                      (Nat.ble k ((0 : Nat) + Int.toNat (Int.ofNat k)) && Nat.blt ((0 : Nat) + Int.toNat (Int.ofNat k)) h)
                      (need (Nat.blt (Int.toNat (Int.ofNat k)) n)
                        (need
                          (Nat.ble k ((0 : Nat) + Int.toNat (Int.ofNat k)) &&
                            Nat.blt ((0 : Nat) + Int.toNat (Int.ofNat k)) h)
                          (br
                            (!true ==
                                decide
                                  (IntKind.wrap IntKind.i64 (Int.ofNat k - IntKind.wrap IntKind.i64 (last + (1 : Int))) <
                                    IntKind.wrap IntKind.i64 (Int.tmod pt (10 : Int))))
                            (N AX.ret (mkF (62 : Nat) [])
                              (mkS [some (AObj.row (1 : Nat) k h fun i => [Value.bool false])]))
                            (N AX.normal
                              (mkF (62 : Nat)
                                [((0 : Nat),
                                    Value.slice (some { block := (0 : Nat), off := (0 : Nat), spot := some (0 : Nat) }) n
                                      n),
                                  ((1 : Nat), Value.int IntKind.u8 pt),
                                  ((5 : Nat),
                                    Value.slice (some { block := (1 : Nat), off := (0 : Nat) }) (4 : Nat) (4 : Nat)),
                                  ((6 : Nat), Value.int IntKind.i64 last),
                                  ((7 : Nat),
                                    Value.int IntKind.i64 (IntKind.wrap IntKind.i64 (Int.ofNat k + (1 : Int))))])
                              (mkS
                                [some (AObj.row (1 : Nat) k h fun i => [Value.bool false]),
                                  some
                                    (AObj.cells
                                      [Value.int IntKind.i64 (1 : Int), Value.int IntKind.i64 (1 : Int),
                                        Value.float FloatKind.f64 (0 : Nat), Value.int IntKind.i64 (4 : Int),
                                        Value.int IntKind.i64
                                          (IntKind.wrap IntKind.i64
                                            (if
                                                IntKind.wrap IntKind.u64
                                                    (if (0 : Int) > IntKind.wrap IntKind.i64 (Int.tmod pt (10 : Int)) then
                                                      (0 : Int)
                                                    else IntKind.wrap IntKind.i64 (Int.tmod pt (10 : Int))) <
                                                  IntKind.wrap IntKind.u64
                                                    (IntKind.wrap IntKind.u64 (Int.ofNat k) -
                                                      IntKind.wrap IntKind.u64 at_) then
                                              IntKind.wrap IntKind.u64
                                                (if (0 : Int) > IntKind.wrap IntKind.i64 (Int.tmod pt (10 : Int)) then
                                                  (0 : Int)
                                                else IntKind.wrap IntKind.i64 (Int.tmod pt (10 : Int)))
                                            else
                                              IntKind.wrap IntKind.u64
                                                (IntKind.wrap IntKind.u64 (Int.ofNat k) - IntKind.wrap IntKind.u64 at_))),
                                        Value.float FloatKind.f64 (0 : Nat), Value.int IntKind.i64 (1 : Int),
                                        Value.int IntKind.i64 (1 : Int), Value.float FloatKind.f64 (0 : Nat),
                                        Value.int IntKind.i64 (4 : Int), Value.int IntKind.i64 at_,
                                        Value.float FloatKind.f64 (0 : Nat)]
                                      true (0 : Nat))])))))))
                  (need (Nat.blt (Int.toNat (Int.ofNat k)) n)
                    (need
                      (Nat.ble k ((0 : Nat) + Int.toNat (Int.ofNat k)) && Nat.blt ((0 : Nat) + Int.toNat (Int.ofNat k)) h)
                      (need (Nat.blt (Int.toNat (Int.ofNat k)) n)
                        (need
                          (Nat.ble k ((0 : Nat) + Int.toNat (Int.ofNat k)) &&
                            Nat.blt ((0 : Nat) + Int.toNat (Int.ofNat k)) h)
                          (br
                            (!true ==
                                decide
                                  (IntKind.wrap IntKind.i64 (Int.ofNat k - IntKind.wrap IntKind.i64 (last + (1 : Int))) <
                                    IntKind.wrap IntKind.i64 (Int.tmod pt (10 : Int))))
                            (N AX.ret (mkF (62 : Nat) [])
                              (mkS [some (AObj.row (1 : Nat) k h fun i => [Value.bool false])]))
                            (N AX.normal
                              (mkF (62 : Nat)
                                [((0 : Nat),
                                    Value.slice (some { block := (0 : Nat), off := (0 : Nat), spot := some (0 : Nat) }) n
                                      n),
                                  ((1 : Nat), Value.int IntKind.u8 pt),
                                  ((5 : Nat),
                                    Value.slice (some { block := (1 : Nat), off := (0 : Nat) }) (4 : Nat) (4 : Nat)),
                                  ((6 : Nat), Value.int IntKind.i64 last),
                                  ((7 : Nat),
                                    Value.int IntKind.i64 (IntKind.wrap IntKind.i64 (Int.ofNat k + (1 : Int))))])
                              (mkS
                                [some (AObj.row (1 : Nat) k h fun i => [Value.bool false]),
                                  some
                                    (AObj.cells
                                      [Value.int IntKind.i64 (1 : Int), Value.int IntKind.i64 (1 : Int),
                                        Value.float FloatKind.f64 (0 : Nat), Value.int IntKind.i64 (4 : Int),
                                        Value.int IntKind.i64
                                          (IntKind.wrap IntKind.i64
                                            (if
                                                IntKind.wrap IntKind.u64
                                                    (if (0 : Int) > IntKind.wrap IntKind.i64 (Int.tmod pt (10 : Int)) then
                                                      (0 : Int)
                                                    else IntKind.wrap IntKind.i64 (Int.tmod pt (10 : Int))) <
                                                  IntKind.wrap IntKind.u64
                                                    (IntKind.wrap IntKind.u64 (Int.ofNat k) -
                                                      IntKind.wrap IntKind.u64 at_) then
                                              IntKind.wrap IntKind.u64
                                                (if (0 : Int) > IntKind.wrap IntKind.i64 (Int.tmod pt (10 : Int)) then
                                                  (0 : Int)
                                                else IntKind.wrap IntKind.i64 (Int.tmod pt (10 : Int)))
                                            else
                                              IntKind.wrap IntKind.u64
                                                (IntKind.wrap IntKind.u64 (Int.ofNat k) - IntKind.wrap IntKind.u64 at_))),
                                        Value.float FloatKind.f64 (0 : Nat), Value.int IntKind.i64 (1 : Int),
                                        Value.int IntKind.i64 (0 : Int), Value.float FloatKind.f64 (0 : Nat),
                                        Value.int IntKind.i64 (4 : Int), Value.int IntKind.i64 at_,
                                        Value.float FloatKind.f64 (0 : Nat)]
                                      true (0 : Nat))]))))))))
                (br (on != (0 : Int))
                  (need (Nat.blt (Int.toNat (Int.ofNat k)) n)
                    (need
                      (Nat.ble k ((0 : Nat) + Int.toNat (Int.ofNat k)) && Nat.blt ((0 : Nat) + Int.toNat (Int.ofNat k)) h)
                      (need (Nat.blt (Int.toNat (Int.ofNat k)) n)
                        (need
                          (Nat.ble k ((0 : Nat) + Int.toNat (Int.ofNat k)) &&
                            Nat.blt ((0 : Nat) + Int.toNat (Int.ofNat k)) h)
                          (br
                            (!false ==
                                decide
                                  (IntKind.wrap IntKind.i64 (Int.ofNat k - IntKind.wrap IntKind.i64 (last + (1 : Int))) <
                                    IntKind.wrap IntKind.i64 (Int.tmod pt (10 : Int))))
                            (N AX.ret (mkF (62 : Nat) [])
                              (mkS [some (AObj.row (1 : Nat) k h fun i => [Value.bool false])]))
                            (N AX.normal
                              (mkF (62 : Nat)
                                [((0 : Nat),
                                    Value.slice (some { block := (0 : Nat), off := (0 : Nat), spot := some (0 : Nat) }) n
                                      n),
                                  ((1 : Nat), Value.int IntKind.u8 pt),
                                  ((5 : Nat),
                                    Value.slice (some { block := (1 : Nat), off := (0 : Nat) }) (4 : Nat) (4 : Nat)),
                                  ((6 : Nat), Value.int IntKind.i64 last),
                                  ((7 : Nat),
                                    Value.int IntKind.i64 (IntKind.wrap IntKind.i64 (Int.ofNat k + (1 : Int))))])
                              (mkS
                                [some (AObj.row (1 : Nat) k h fun i => [Value.bool false]),
                                  some
                                    (AObj.cells
                                      [Value.int IntKind.i64 (1 : Int), Value.int IntKind.i64 (0 : Int),
                                        Value.float FloatKind.f64 (0 : Nat), Value.int IntKind.i64 (4 : Int),
                                        Value.int IntKind.i64
                                          (IntKind.wrap IntKind.i64
                                            (if
                                                IntKind.wrap IntKind.u64
                                                    (if (0 : Int) > IntKind.wrap IntKind.i64 (Int.tmod pt (10 : Int)) then
                                                      (0 : Int)
                                                    else IntKind.wrap IntKind.i64 (Int.tmod pt (10 : Int))) <
                                                  IntKind.wrap IntKind.u64
                                                    (IntKind.wrap IntKind.u64 (Int.ofNat k) -
                                                      IntKind.wrap IntKind.u64 at_) then
                                              IntKind.wrap IntKind.u64
                                                (if (0 : Int) > IntKind.wrap IntKind.i64 (Int.tmod pt (10 : Int)) then
                                                  (0 : Int)
                                                else IntKind.wrap IntKind.i64 (Int.tmod pt (10 : Int)))
                                            else
                                              IntKind.wrap IntKind.u64
                                                (IntKind.wrap IntKind.u64 (Int.ofNat k) - IntKind.wrap IntKind.u64 at_))),
                                        Value.float FloatKind.f64 (0 : Nat), Value.int IntKind.i64 (1 : Int),
                                        Value.int IntKind.i64 (1 : Int), Value.float FloatKind.f64 (0 : Nat),
                                        Value.int IntKind.i64 (4 : Int), Value.int IntKind.i64 at_,
                                        Value.float FloatKind.f64 (0 : Nat)]
                                      true (0 : Nat))])))))))
                  (need (Nat.blt (Int.toNat (Int.ofNat k)) n)
                    (need
                      (Nat.ble k ((0 : Nat) + Int.toNat (Int.ofNat k)) && Nat.blt ((0 : Nat) + Int.toNat (Int.ofNat k)) h)
                      (need (Nat.blt (Int.toNat (Int.ofNat k)) n)
                        (need
                          (Nat.ble k ((0 : Nat) + Int.toNat (Int.ofNat k)) &&
                            Nat.blt ((0 : Nat) + Int.toNat (Int.ofNat k)) h)
                          (br
                            (!false ==
                                decide
                                  (IntKind.wrap IntKind.i64 (Int.ofNat k - IntKind.wrap IntKind.i64 (last + (1 : Int))) <
                                    IntKind.wrap IntKind.i64 (Int.tmod pt (10 : Int))))
                            (N AX.ret (mkF (62 : Nat) [])
                              (mkS [some (AObj.row (1 : Nat) k h fun i => [Value.bool false])]))
                            (N AX.normal
                              (mkF (62 : Nat)
                                [((0 : Nat),
                                    Value.slice (some { block := (0 : Nat), off := (0 : Nat), spot := some (0 : Nat) }) n
                                      n),
                                  ((1 : Nat), Value.int IntKind.u8 pt),
                                  ((5 : Nat),
                                    Value.slice (some { block := (1 : Nat), off := (0 : Nat) }) (4 : Nat) (4 : Nat)),
                                  ((6 : Nat), Value.int IntKind.i64 last),
                                  ((7 : Nat),
                                    Value.int IntKind.i64 (IntKind.wrap IntKind.i64 (Int.ofNat k + (1 : Int))))])
                              (mkS
                                [some (AObj.row (1 : Nat) k h fun i => [Value.bool false]),
                                  some
                                    (AObj.cells
                                      [Value.int IntKind.i64 (1 : Int), Value.int IntKind.i64 (0 : Int),
                                        Value.float FloatKind.f64 (0 : Nat), Value.int IntKind.i64 (4 : Int),
                                        Value.int IntKind.i64
                                          (IntKind.wrap IntKind.i64
                                            (if
                                                IntKind.wrap IntKind.u64
                                                    (if (0 : Int) > IntKind.wrap IntKind.i64 (Int.tmod pt (10 : Int)) then
                                                      (0 : Int)
                                                    else IntKind.wrap IntKind.i64 (Int.tmod pt (10 : Int))) <
                                                  IntKind.wrap IntKind.u64
                                                    (IntKind.wrap IntKind.u64 (Int.ofNat k) -
                                                      IntKind.wrap IntKind.u64 at_) then
                                              IntKind.wrap IntKind.u64
                                                (if (0 : Int) > IntKind.wrap IntKind.i64 (Int.tmod pt (10 : Int)) then
                                                  (0 : Int)
                                                else IntKind.wrap IntKind.i64 (Int.tmod pt (10 : Int)))
                                            else
                                              IntKind.wrap IntKind.u64
                                                (IntKind.wrap IntKind.u64 (Int.ofNat k) - IntKind.wrap IntKind.u64 at_))),
                                        Value.float FloatKind.f64 (0 : Nat), Value.int IntKind.i64 (1 : Int),
                                        Value.int IntKind.i64 (0 : Int), Value.float FloatKind.f64 (0 : Nat),
                                        Value.int IntKind.i64 (4 : Int), Value.int IntKind.i64 at_,
                                        Value.float FloatKind.f64 (0 : Nat)]
                                      true (0 : Nat))])))))))))
              (br
                (!(0 : Int) ==
                    if (0 : Int) > IntKind.wrap IntKind.i64 (Int.tmod pt (10 : Int)) then (0 : Int)
                    else IntKind.wrap IntKind.i64 (Int.tmod pt (10 : Int)))
                (br (on != (0 : Int))
                  (need (Nat.blt (Int.toNat (Int.ofNat k)) n)
                    (need
                      (Nat.ble k ((0 : Nat) + Int.toNat (Int.ofNat k)) && Nat.blt ((0 : Nat) + Int.toNat (Int.ofNat k)) h)
                      (need (Nat.blt (Int.toNat (Int.ofNat k)) n)
                        (need
                          (Nat.ble k ((0 : Nat) + Int.toNat (Int.ofNat k)) &&
                            Nat.blt ((0 : Nat) + Int.toNat (Int.ofNat k)) h)
                          (br
                            (!true ==
                                decide
                                  (IntKind.wrap IntKind.i64 (Int.ofNat k - IntKind.wrap IntKind.i64 (last + (1 : Int))) <
                                    IntKind.wrap IntKind.i64 (Int.tmod pt (10 : Int))))
                            (N AX.ret (mkF (62 : Nat) [])
                              (mkS [some (AObj.row (1 : Nat) k h fun i => [Value.bool false])]))
                            (N AX.normal
                              (mkF (62 : Nat)
                                [((0 : Nat),
                                    Value.slice (some { block := (0 : Nat), off := (0 : Nat), spot := some (0 : Nat) }) n
                                      n),
                                  ((1 : Nat), Value.int IntKind.u8 pt),
                                  ((5 : Nat),
                                    Value.slice (some { block := (1 : Nat), off := (0 : Nat) }) (4 : Nat) (4 : Nat)),
                                  ((6 : Nat), Value.int IntKind.i64 last),
                                  ((7 : Nat),
                                    Value.int IntKind.i64 (IntKind.wrap IntKind.i64 (Int.ofNat k + (1 : Int))))])
                              (mkS
                                [some (AObj.row (1 : Nat) k h fun i => [Value.bool false]),
                                  some
                                    (AObj.cells
                                      [Value.int IntKind.i64 (1 : Int), Value.int IntKind.i64 (1 : Int),
                                        Value.float FloatKind.f64 (0 : Nat), Value.int IntKind.i64 (4 : Int),
                                        Value.int IntKind.i64 (0 : Int), Value.float FloatKind.f64 (0 : Nat),
                                        Value.int IntKind.i64 (1 : Int), Value.int IntKind.i64 (1 : Int),
                                        Value.float FloatKind.f64 (0 : Nat), Value.int IntKind.i64 (4 : Int),
                                        Value.int IntKind.i64 at_, Value.float FloatKind.f64 (0 : Nat)]
                                      true (0 : Nat))])))))))
                  (need (Nat.blt (Int.toNat (Int.ofNat k)) n)
                    (need
                      (Nat.ble k ((0 : Nat) + Int.toNat (Int.ofNat k)) && Nat.blt ((0 : Nat) + Int.toNat (Int.ofNat k)) h)
                      (need (Nat.blt (Int.toNat (Int.ofNat k)) n)
                        (need
                          (Nat.ble k ((0 : Nat) + Int.toNat (Int.ofNat k)) &&
                            Nat.blt ((0 : Nat) + Int.toNat (Int.ofNat k)) h)
                          (br
                            (!true ==
                                decide
                                  (IntKind.wrap IntKind.i64 (Int.ofNat k - IntKind.wrap IntKind.i64 (last + (1 : Int))) <
                                    IntKind.wrap IntKind.i64 (Int.tmod pt (10 : Int))))
                            (N AX.ret (mkF (62 : Nat) [])
                              (mkS [some (AObj.row (1 : Nat) k h fun i => [Value.bool false])]))
                            (N AX.normal
                              (mkF (62 : Nat)
                                [((0 : Nat),
                                    Value.slice (some { block := (0 : Nat), off := (0 : Nat), spot := some (0 : Nat) }) n
                                      n),
                                  ((1 : Nat), Value.int IntKind.u8 pt),
                                  ((5 : Nat),
                                    Value.slice (some { block := (1 : Nat), off := (0 : Nat) }) (4 : Nat) (4 : Nat)),
                                  ((6 : Nat), Value.int IntKind.i64 last),
                                  ((7 : Nat),
                                    Value.int IntKind.i64 (IntKind.wrap IntKind.i64 (Int.ofNat k + (1 : Int))))])
                              (mkS
                                [some (AObj.row (1 : Nat) k h fun i => [Value.bool false]),
                                  some
                                    (AObj.cells
                                      [Value.int IntKind.i64 (1 : Int), Value.int IntKind.i64 (1 : Int),
                                        Value.float FloatKind.f64 (0 : Nat), Value.int IntKind.i64 (4 : Int),
                                        Value.int IntKind.i64 (0 : Int), Value.float FloatKind.f64 (0 : Nat),
                                        Value.int IntKind.i64 (1 : Int), Value.int IntKind.i64 (0 : Int),
                                        Value.float FloatKind.f64 (0 : Nat), Value.int IntKind.i64 (4 : Int),
                                        Value.int IntKind.i64 at_, Value.float FloatKind.f64 (0 : Nat)]
                                      true (0 : Nat))]))))))))
                (br (on != (0 : Int))
                  (need (Nat.blt (Int.toNat (Int.ofNat k)) n)
                    (need
                      (Nat.ble k ((0 : Nat) + Int.toNat (Int.ofNat k)) && Nat.blt ((0 : Nat) + Int.toNat (Int.ofNat k)) h)
                      (need (Nat.blt (Int.toNat (Int.ofNat k)) n)
                        (need
                          (Nat.ble k ((0 : Nat) + Int.toNat (Int.ofNat k)) &&
                            Nat.blt ((0 : Nat) + Int.toNat (Int.ofNat k)) h)
                          (br
                            (!false ==
                                decide
                                  (IntKind.wrap IntKind.i64 (Int.ofNat k - IntKind.wrap IntKind.i64 (last + (1 : Int))) <
                                    IntKind.wrap IntKind.i64 (Int.tmod pt (10 : Int))))
                            (N AX.ret (mkF (62 : Nat) [])
                              (mkS [some (AObj.row (1 : Nat) k h fun i => [Value.bool false])]))
                            (N AX.normal
                              (mkF (62 : Nat)
                                [((0 : Nat),
                                    Value.slice (some { block := (0 : Nat), off := (0 : Nat), spot := some (0 : Nat) }) n
                                      n),
                                  ((1 : Nat), Value.int IntKind.u8 pt),
                                  ((5 : Nat),
                                    Value.slice (some { block := (1 : Nat), off := (0 : Nat) }) (4 : Nat) (4 : Nat)),
                                  ((6 : Nat), Value.int IntKind.i64 last),
                                  ((7 : Nat),
                                    Value.int IntKind.i64 (IntKind.wrap IntKind.i64 (Int.ofNat k + (1 : Int))))])
                              (mkS
                                [some (AObj.row (1 : Nat) k h fun i => [Value.bool false]),
                                  some
                                    (AObj.cells
                                      [Value.int IntKind.i64 (1 : Int), Value.int IntKind.i64 (0 : Int),
                                        Value.float FloatKind.f64 (0 : Nat), Value.int IntKind.i64 (4 : Int),
                                        Value.int IntKind.i64 (0 : Int), Value.float FloatKind.f64 (0 : Nat),
                                        Value.int IntKind.i64 (1 : Int), Value.int IntKind.i64 (1 : Int),
                                        Value.float FloatKind.f64 (0 : Nat), Value.int IntKind.i64 (4 : Int),
                                        Value.int IntKind.i64 at_, Value.float FloatKind.f64 (0 : Nat)]
                                      true (0 : Nat))])))))))
                  (need (Nat.blt (Int.toNat (Int.ofNat k)) n)
                    (need
                      (Nat.ble k ((0 : Nat) + Int.toNat (Int.ofNat k)) && Nat.blt ((0 : Nat) + Int.toNat (Int.ofNat k)) h)
                      (need (Nat.blt (Int.toNat (Int.ofNat k)) n)
                        (need
                          (Nat.ble k ((0 : Nat) + Int.toNat (Int.ofNat k)) &&
                            Nat.blt ((0 : Nat) + Int.toNat (Int.ofNat k)) h)
                          (br
                            (!false ==
                                decide
                                  (IntKind.wrap IntKind.i64 (Int.ofNat k - IntKind.wrap IntKind.i64 (last + (1 : Int))) <
                                    IntKind.wrap IntKind.i64 (Int.tmod pt (10 : Int))))
                            (N AX.ret (mkF (62 : Nat) [])
                              (mkS [some (AObj.row (1 : Nat) k h fun i => [Value.bool false])]))
                            (N AX.normal
                              (mkF (62 : Nat)
                                [((0 : Nat),
                                    Value.slice (some { block := (0 : Nat), off := (0 : Nat), spot := some (0 : Nat) }) n
                                      n),
                                  ((1 : Nat), Value.int IntKind.u8 pt),
                                  ((5 : Nat),
                                    Value.slice (some { block := (1 : Nat), off := (0 : Nat) }) (4 : Nat) (4 : Nat)),
                                  ((6 : Nat), Value.int IntKind.i64 last),
                                  ((7 : Nat),
                                    Value.int IntKind.i64 (IntKind.wrap IntKind.i64 (Int.ofNat k + (1 : Int))))])
                              (mkS
                                [some (AObj.row (1 : Nat) k h fun i => [Value.bool false]),
                                  some
                                    (AObj.cells
                                      [Value.int IntKind.i64 (1 : Int), Value.int IntKind.i64 (0 : Int),
                                        Value.float FloatKind.f64 (0 : Nat), Value.int IntKind.i64 (4 : Int),
                                        Value.int IntKind.i64 (0 : Int), Value.float FloatKind.f64 (0 : Nat),
                                        Value.int IntKind.i64 (1 : Int), Value.int IntKind.i64 (0 : Int),
                                        Value.float FloatKind.f64 (0 : Nat), Value.int IntKind.i64 (4 : Int),
                                        Value.int IntKind.i64 at_, Value.float FloatKind.f64 (0 : Nat)]
                                      true (0 : Nat))])))))))))))
          (br (q != (0 : Int))
            (br (on != (0 : Int))
              (need (Nat.blt (Int.toNat (Int.ofNat k)) n)
                (need (Nat.ble k ((0 : Nat) + Int.toNat (Int.ofNat k)) && Nat.blt ((0 : Nat) + Int.toNat (Int.ofNat k)) h)
                  (need (Nat.blt (Int.toNat (Int.ofNat k)) n)
                    (need
                      (Nat.ble k ((0 : Nat) + Int.toNat (Int.ofNat k)) && Nat.blt ((0 : Nat) + Int.toNat (Int.ofNat k)) h)
                      (br
                        (!true ==
                            decide
                              (IntKind.wrap IntKind.i64 (Int.ofNat k - IntKind.wrap IntKind.i64 (last + (1 : Int))) <
                                IntKind.wrap IntKind.i64 (Int.tmod pt (10 : Int))))
                        (N AX.ret (mkF (62 : Nat) []) (mkS [some (AObj.row (1 : Nat) k h fun i => [Value.bool false])]))
                        (N AX.normal
                          (mkF (62 : Nat)
                            [((0 : Nat),
                                Value.slice (some { block := (0 : Nat), off := (0 : Nat), spot := some (0 : Nat) }) n n),
                              ((1 : Nat), Value.int IntKind.u8 pt),
                              ((5 : Nat),
                                Value.slice (some { block := (1 : Nat), off := (0 : Nat) }) (4 : Nat) (4 : Nat)),
                              ((6 : Nat), Value.int IntKind.i64 last),
                              ((7 : Nat), Value.int IntKind.i64 (IntKind.wrap IntKind.i64 (Int.ofNat k + (1 : Int))))])
                          (mkS
                            [some (AObj.row (1 : Nat) k h fun i => [Value.bool false]),
                              some
                                (AObj.cells
                                  [Value.int IntKind.i64 (1 : Int), Value.int IntKind.i64 (1 : Int),
                                    Value.float FloatKind.f64 (0 : Nat), Value.int IntKind.i64 (4 : Int),
                                    Value.int IntKind.i64 et, Value.float FloatKind.f64 (0 : Nat),
                                    Value.int IntKind.i64 (1 : Int), Value.int IntKind.i64 (1 : Int),
                                    Value.float FloatKind.f64 (0 : Nat), Value.int IntKind.i64 (4 : Int),
                                    Value.int IntKind.i64 at_, Value.float FloatKind.f64 (0 : Nat)]
                                  true (0 : Nat))])))))))
              (need (Nat.blt (Int.toNat (Int.ofNat k)) n)
                (need (Nat.ble k ((0 : Nat) + Int.toNat (Int.ofNat k)) && Nat.blt ((0 : Nat) + Int.toNat (Int.ofNat k)) h)
                  (need (Nat.blt (Int.toNat (Int.ofNat k)) n)
                    (need
                      (Nat.ble k ((0 : Nat) + Int.toNat (Int.ofNat k)) && Nat.blt ((0 : Nat) + Int.toNat (Int.ofNat k)) h)
                      (br
                        (!true ==
                            decide
                              (IntKind.wrap IntKind.i64 (Int.ofNat k - IntKind.wrap IntKind.i64 (last + (1 : Int))) <
                                IntKind.wrap IntKind.i64 (Int.tmod pt (10 : Int))))
                        (N AX.ret (mkF (62 : Nat) []) (mkS [some (AObj.row (1 : Nat) k h fun i => [Value.bool false])]))
                        (N AX.normal
                          (mkF (62 : Nat)
                            [((0 : Nat),
                                Value.slice (some { block := (0 : Nat), off := (0 : Nat), spot := some (0 : Nat) }) n n),
                              ((1 : Nat), Value.int IntKind.u8 pt),
                              ((5 : Nat),
                                Value.slice (some { block := (1 : Nat), off := (0 : Nat) }) (4 : Nat) (4 : Nat)),
                              ((6 : Nat), Value.int IntKind.i64 last),
                              ((7 : Nat), Value.int IntKind.i64 (IntKind.wrap IntKind.i64 (Int.ofNat k + (1 : Int))))])
                          (mkS
                            [some (AObj.row (1 : Nat) k h fun i => [Value.bool false]),
                              some
                                (AObj.cells
                                  [Value.int IntKind.i64 (1 : Int), Value.int IntKind.i64 (1 : Int),
                                    Value.float FloatKind.f64 (0 : Nat), Value.int IntKind.i64 (4 : Int),
                                    Value.int IntKind.i64 et, Value.float FloatKind.f64 (0 : Nat),
                                    Value.int IntKind.i64 (1 : Int), Value.int IntKind.i64 (0 : Int),
                                    Value.float FloatKind.f64 (0 : Nat), Value.int IntKind.i64 (4 : Int),
                                    Value.int IntKind.i64 at_, Value.float FloatKind.f64 (0 : Nat)]
                                  true (0 : Nat))]))))))))
            (br (on != (0 : Int))
              (need (Nat.blt (Int.toNat (Int.ofNat k)) n)
                (need (Nat.ble k ((0 : Nat) + Int.toNat (Int.ofNat k)) && Nat.blt ((0 : Nat) + Int.toNat (Int.ofNat k)) h)
                  (need (Nat.blt (Int.toNat (Int.ofNat k)) n)
                    (need
                      (Nat.ble k ((0 : Nat) + Int.toNat (Int.ofNat k)) && Nat.blt ((0 : Nat) + Int.toNat (Int.ofNat k)) h)
                      (br
                        (!false ==
                            decide
                              (IntKind.wrap IntKind.i64 (Int.ofNat k - IntKind.wrap IntKind.i64 (last + (1 : Int))) <
                                IntKind.wrap IntKind.i64 (Int.tmod pt (10 : Int))))
                        (N AX.ret (mkF (62 : Nat) []) (mkS [some (AObj.row (1 : Nat) k h fun i => [Value.bool false])]))
                        (N AX.normal
                          (mkF (62 : Nat)
                            [((0 : Nat),
                                Value.slice (some { block := (0 : Nat), off := (0 : Nat), spot := some (0 : Nat) }) n n),
                              ((1 : Nat), Value.int IntKind.u8 pt),
                              ((5 : Nat),
                                Value.slice (some { block := (1 : Nat), off := (0 : Nat) }) (4 : Nat) (4 : Nat)),
                              ((6 : Nat), Value.int IntKind.i64 last),
                              ((7 : Nat), Value.int IntKind.i64 (IntKind.wrap IntKind.i64 (Int.ofNat k + (1 : Int))))])
                          (mkS
                            [some (AObj.row (1 : Nat) k h fun i => [Value.bool false]),
                              some
                                (AObj.cells
                                  [Value.int IntKind.i64 (1 : Int), Value.int IntKind.i64 (0 : Int),
                                    Value.float FloatKind.f64 (0 : Nat), Value.int IntKind.i64 (4 : Int),
                                    Value.int IntKind.i64 et, Value.float FloatKind.f64 (0 : Nat),
                                    Value.int IntKind.i64 (1 : Int), Value.int IntKind.i64 (1 : Int),
                                    Value.float FloatKind.f64 (0 : Nat), Value.int IntKind.i64 (4 : Int),
                                    Value.int IntKind.i64 at_, Value.float FloatKind.f64 (0 : Nat)]
                                  true (0 : Nat))])))))))
              (need (Nat.blt (Int.toNat (Int.ofNat k)) n)
                (need (Nat.ble k ((0 : Nat) + Int.toNat (Int.ofNat k)) && Nat.blt ((0 : Nat) + Int.toNat (Int.ofNat k)) h)
                  (need (Nat.blt (Int.toNat (Int.ofNat k)) n)
                    (need
                      (Nat.ble k ((0 : Nat) + Int.toNat (Int.ofNat k)) && Nat.blt ((0 : Nat) + Int.toNat (Int.ofNat k)) h)
                      (br
                        (!false ==
                            decide
                              (IntKind.wrap IntKind.i64 (Int.ofNat k - IntKind.wrap IntKind.i64 (last + (1 : Int))) <
                                IntKind.wrap IntKind.i64 (Int.tmod pt (10 : Int))))
                        (N AX.ret (mkF (62 : Nat) []) (mkS [some (AObj.row (1 : Nat) k h fun i => [Value.bool false])]))
                        (N AX.normal
                          (mkF (62 : Nat)
                            [((0 : Nat),
                                Value.slice (some { block := (0 : Nat), off := (0 : Nat), spot := some (0 : Nat) }) n n),
                              ((1 : Nat), Value.int IntKind.u8 pt),
                              ((5 : Nat),
                                Value.slice (some { block := (1 : Nat), off := (0 : Nat) }) (4 : Nat) (4 : Nat)),
                              ((6 : Nat), Value.int IntKind.i64 last),
                              ((7 : Nat), Value.int IntKind.i64 (IntKind.wrap IntKind.i64 (Int.ofNat k + (1 : Int))))])
                          (mkS
                            [some (AObj.row (1 : Nat) k h fun i => [Value.bool false]),
                              some
                                (AObj.cells
                                  [Value.int IntKind.i64 (1 : Int), Value.int IntKind.i64 (0 : Int),
                                    Value.float FloatKind.f64 (0 : Nat), Value.int IntKind.i64 (4 : Int),
                                    Value.int IntKind.i64 et, Value.float FloatKind.f64 (0 : Nat),
                                    Value.int IntKind.i64 (1 : Int), Value.int IntKind.i64 (0 : Int),
                                    Value.float FloatKind.f64 (0 : Nat), Value.int IntKind.i64 (4 : Int),
                                    Value.int IntKind.i64 at_, Value.float FloatKind.f64 (0 : Nat)]
                                  true (0 : Nat))]))))))))))))
    (N (AX.exit (0 : Nat)) (mkF (62 : Nat) []) (mkS [some (AObj.row (1 : Nat) k h fun i => [Value.bool false])])) := by kernel_rfl
theorem vc_off_nil (pt : Int) (β : Bs) : lawJ Try.prog toldB 100 20 β (fun _ => 3) (cnOf 0 fun _ => []) (fun _ _ => False) 4 [.slice none 0 0, .int .u8 pt] st0 trueV =
  True := by kernel_rfl
theorem vc_off_emp (pt : Int) (β : Bs) : lawJ Try.prog toldB 100 20 β (fun _ => 3) (cnOf 0 fun _ => []) (fun _ _ => False) 4 [.slice (some ⟨0, 0, some 0⟩) 0 0, .int .u8 pt] st0 trueV =
  True := by kernel_rfl
end Go.Proofs.Ytaceobjppcmhjaa.Ev
