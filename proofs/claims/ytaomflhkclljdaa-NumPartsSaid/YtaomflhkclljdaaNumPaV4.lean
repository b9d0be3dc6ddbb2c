/-
  What has to hold: printed by the evaluator.
-/
import Derived.Test.YtaomflhkclljdaaNumPaV
set_option linter.unusedVariables false
set_option maxRecDepth 1000000
namespace Go.Proofs.Ytaomflhkclljdaa.Ev
open Go Go.Proofs
theorem vc_np_4 (a b : Int) (β : Bs) (N : Kt) (ex : Nat → Kt → Prop) : roundJ Try.prog toldB 100 20 β (fun _ => 20) (cnOf 0 fun _ => []) ex 4 0 0 lvN (FN a b 4) (mkS []) N =
  br (b == (0 : Int))
    (br (b == (0 : Int))
      (br (b == (0 : Int))
        (N AX.normal
          (mkF (140 : Nat)
            [((0 : Nat), Value.int IntKind.i64 a), ((1 : Nat), Value.int IntKind.i64 b),
              ((5 : Nat), Value.int IntKind.i64 (5 : Int))])
          (mkS []))
        (N AX.ret (mkF (140 : Nat) []) (mkS [])))
      (need (true && !decide (b = (0 : Int)))
        (br (b == (0 : Int)) (N AX.ret (mkF (140 : Nat) []) (mkS [])) (N AX.ret (mkF (140 : Nat) []) (mkS [])))))
    (need (true && !decide (b = (0 : Int)))
      (br (b == (0 : Int))
        (br (b == (0 : Int)) (N AX.ret (mkF (140 : Nat) []) (mkS [])) (N AX.ret (mkF (140 : Nat) []) (mkS [])))
        (need (true && !decide (b = (0 : Int)))
          (br (b == (0 : Int)) (N AX.ret (mkF (140 : Nat) []) (mkS []))
            (br
              (IntKind.wrap IntKind.i64
                  (IntKind.wrap IntKind.i64 (IntKind.wrap IntKind.i64 (Int.tdiv a b) * b) + Int.tmod a b) !=
                a)
              (N AX.ret (mkF (140 : Nat) []) (mkS []))
              (br (Int.tmod a b != (0 : Int))
                (br (!decide (Int.tmod a b < (0 : Int)) == decide (a < (0 : Int)))
                  (N AX.ret (mkF (140 : Nat) []) (mkS []))
                  (br (b != (-9223372036854775808 : Int))
                    (br (decide (Int.tmod a b ≥ (0 : Int)))
                      (br (decide (b > (0 : Int)))
                        (br (decide (Int.tmod a b ≥ b)) (N AX.ret (mkF (140 : Nat) []) (mkS []))
                          (br (decide (Int.tmod a b ≥ (0 : Int)))
                            (br (decide (b < (0 : Int)))
                              (br (decide (Int.tmod a b ≥ IntKind.wrap IntKind.i64 ((0 : Int) - b)))
                                (N AX.ret (mkF (140 : Nat) []) (mkS []))
                                (br (decide (Int.tmod a b < (0 : Int)))
                                  (br (decide (b > (0 : Int)))
                                    (br (decide (IntKind.wrap IntKind.i64 ((0 : Int) - Int.tmod a b) ≥ b))
                                      (N AX.ret (mkF (140 : Nat) []) (mkS []))
                                      (br (decide (Int.tmod a b < (0 : Int)))
                                        (br (decide (b < (0 : Int)))
                                          (br (decide (Int.tmod a b ≤ b)) (N AX.ret (mkF (140 : Nat) []) (mkS []))
                                            (N AX.normal
                                              (mkF (140 : Nat)
                                                [((0 : Nat), Value.int IntKind.i64 a),
                                                  ((1 : Nat), Value.int IntKind.i64 b),
                                                  ((5 : Nat), Value.int IntKind.i64 (5 : Int))])
                                              (mkS [])))
                                          (N AX.normal
                                            (mkF (140 : Nat)
                                              [((0 : Nat), Value.int IntKind.i64 a), ((1 : Nat), Value.int IntKind.i64 b),
                                                ((5 : Nat), Value.int IntKind.i64 (5 : Int))])
                                            (mkS [])))
                                        (N AX.normal
                                          (mkF (140 : Nat)
                                            [((0 : Nat), Value.int IntKind.i64 a), ((1 : Nat), Value.int IntKind.i64 b),
                                              ((5 : Nat), Value.int IntKind.i64 (5 : Int))])
                                          (mkS []))))
                                    (br (decide (Int.tmod a b < (0 : Int)))
                                      (br (decide (b < (0 : Int)))
                                        (br (decide (Int.tmod a b ≤ b)) (N AX.ret (mkF (140 : Nat) []) (mkS []))
                                          (N AX.normal
                                            (mkF (140 : Nat)
                                              [((0 : Nat), Value.int IntKind.i64 a), ((1 : Nat), Value.int IntKind.i64 b),
                                                ((5 : Nat), Value.int IntKind.i64 (5 : Int))])
                                            (mkS [])))
                                        (N AX.normal
                                          (mkF (140 : Nat)
                                            [((0 : Nat), Value.int IntKind.i64 a), ((1 : Nat), Value.int IntKind.i64 b),
                                              ((5 : Nat), Value.int IntKind.i64 (5 : Int))])
                                          (mkS [])))
                                      (N AX.normal
                                        (mkF (140 : Nat)
                                          [((0 : Nat), Value.int IntKind.i64 a), ((1 : Nat), Value.int IntKind.i64 b),
                                            ((5 : Nat), Value.int IntKind.i64 (5 : Int))])
                                        (mkS []))))
                                  (br (decide (Int.tmod a b < (0 : Int)))
                                    (br (decide (b < (0 : Int)))
                                      (br (decide (Int.tmod a b ≤ b)) (N AX.ret (mkF (140 : Nat) []) (mkS []))
                                        (N AX.normal
                                          (mkF (140 : Nat)
                                            [((0 : Nat), Value.int IntKind.i64 a), ((1 : Nat), Value.int IntKind.i64 b),
                                              ((5 : Nat), Value.int IntKind.i64 (5 : Int))])
                                          (mkS [])))
                                      (N AX.normal
                                        (mkF (140 : Nat)
                                          [((0 : Nat), Value.int IntKind.i64 a), ((1 : Nat), Value.int IntKind.i64 b),
                                            ((5 : Nat), Value.int IntKind.i64 (5 : Int))])
                                        (mkS [])))
                                    (N AX.normal
                                      (mkF (140 : Nat)
                                        [((0 : Nat), Value.int IntKind.i64 a), ((1 : Nat), Value.int IntKind.i64 b),
                                          ((5 : Nat), Value.int IntKind.i64 (5 : Int))])
                                      (mkS [])))))
                              (br (decide (Int.tmod a b < (0 : Int)))
                                (br (decide (b > (0 : Int)))
                                  (br (decide (IntKind.wrap IntKind.i64 ((0 : Int) - Int.tmod a b) ≥ b))
                                    (N AX.ret (mkF (140 : Nat) []) (mkS []))
                                    (br (decide (Int.tmod a b < (0 : Int)))
                                      (br (decide (b < (0 : Int)))
                                        (br (decide (Int.tmod a b ≤ b)) (N AX.ret (mkF (140 : Nat) []) (mkS []))
                                          (N AX.normal
                                            (mkF (140 : Nat)
                                              [((0 : Nat), Value.int IntKind.i64 a), ((1 : Nat), Value.int IntKind.i64 b),
                                                ((5 : Nat), Value.int IntKind.i64 (5 : Int))])
                                            (mkS [])))
                                        (N AX.normal
                                          (mkF (140 : Nat)
                                            [((0 : Nat), Value.int IntKind.i64 a), ((1 : Nat), Value.int IntKind.i64 b),
                                              ((5 : Nat), Value.int IntKind.i64 (5 : Int))])
                                          (mkS [])))
                                      (N AX.normal
                                        (mkF (140 : Nat)
                                          [((0 : Nat), Value.int IntKind.i64 a), ((1 : Nat), Value.int IntKind.i64 b),
                                            ((5 : Nat), Value.int IntKind.i64 (5 : Int))])
                                        (mkS []))))
                                  (br (decide (Int.tmod a b < (0 : Int)))
                                    (br (decide (b < (0 : Int)))
                                      (br (decide (Int.tmod a b ≤ b)) (N AX.ret (mkF (140 : Nat) []) (mkS []))
                                        (N AX.normal
                                          (mkF (140 : Nat)
                                            [((0 : Nat), Value.int IntKind.i64 a), ((1 : Nat), Value.int IntKind.i64 b),
                                              ((5 : Nat), Value.int IntKind.i64 (5 : Int))])
                                          (mkS [])))
                                      (N AX.normal
                                        (mkF (140 : Nat)
                                          [((0 : Nat), Value.int IntKind.i64 a), ((1 : Nat), Value.int IntKind.i64 b),
                                            ((5 : Nat), Value.int IntKind.i64 (5 : Int))])
                                        (mkS [])))
                                    (N AX.normal
                                      (mkF (140 : Nat)
                                        [((0 : Nat), Value.int IntKind.i64 a), ((1 : Nat), Value.int IntKind.i64 b),
                                          ((5 : Nat), Value.int IntKind.i64 (5 : Int))])
                                      (mkS []))))
                                (br (decide (Int.tmod a b < (0 : Int)))
                                  (br (decide (b < (0 : Int)))
                                    (br (decide (Int.tmod a b ≤ b)) (N AX.ret (mkF (140 : Nat) []) (mkS []))
                                      (N AX.normal
                                        (mkF (140 : Nat)
                                          [((0 : Nat), Value.int IntKind.i64 a), ((1 : Nat), Value.int IntKind.i64 b),
                                            ((5 : Nat), Value.int IntKind.i64 (5 : Int))])
                                        (mkS [])))
                                    (N AX.normal
                                      (mkF (140 : Nat)
                                        [((0 : Nat), Value.int IntKind.i64 a), ((1 : Nat), Value.int IntKind.i64 b),
                                          ((5 : Nat), Value.int IntKind.i64 (5 : Int))])
                                      (mkS [])))
                                  (N AX.normal
                                    (mkF (140 : Nat)
                                      [((0 : Nat), Value.int IntKind.i64 a), ((1 : Nat), Value.int IntKind.i64 b),
                                        ((5 : Nat), Value.int IntKind.i64 (5 : Int))])
                                    (mkS [])))))
                            (br (decide (Int.tmod a b < (0 : Int)))
                              (br (decide (b > (0 : Int)))
                                (br (decide (IntKind.wrap IntKind.i64 ((0 : Int) - Int.tmod a b) ≥ b))
                                  (N AX.ret (mkF (140 : Nat) []) (mkS []))
                                  (br (decide (Int.tmod a b < (0 : Int)))
                                    (br (decide (b < (0 : Int)))
                                      (br (decide (Int.tmod a b ≤ b)) (N AX.ret (mkF (140 : Nat) []) (mkS []))
                                        (N AX.normal
                                          (mkF (140 : Nat)
                                            [((0 : Nat), Value.int IntKind.i64 a), ((1 : Nat), Value.int IntKind.i64 b),
                                              ((5 : Nat), Value.int IntKind.i64 (5 : Int))])
                                          (mkS [])))
                                      (N AX.normal
                                        (mkF (140 : Nat)
                                          [((0 : Nat), Value.int IntKind.i64 a), ((1 : Nat), Value.int IntKind.i64 b),
                                            ((5 : Nat), Value.int IntKind.i64 (5 : Int))])
                                        (mkS [])))
                                    (N AX.normal
                                      (mkF (140 : Nat)
                                        [((0 : Nat), Value.int IntKind.i64 a), ((1 : Nat), Value.int IntKind.i64 b),
                                          ((5 : Nat), Value.int IntKind.i64 (5 : Int))])
                                      (mkS []))))
                                (br (decide (Int.tmod a b < (0 : Int)))
                                  (br (decide (b < (0 : Int)))
                                    (br (decide (Int.tmod a b ≤ b)) (N AX.ret (mkF (140 : Nat) []) (mkS []))
                                      (N AX.normal
                                        (mkF (140 : Nat)
                                          [((0 : Nat), Value.int IntKind.i64 a), ((1 : Nat), Value.int IntKind.i64 b),
                                            ((5 : Nat), Value.int IntKind.i64 (5 : Int))])
                                        (mkS [])))
                                    (N AX.normal
                                      (mkF (140 : Nat)
                                        [((0 : Nat), Value.int IntKind.i64 a), ((1 : Nat), Value.int IntKind.i64 b),
                                          ((5 : Nat), Value.int IntKind.i64 (5 : Int))])
                                      (mkS [])))
                                  (N AX.normal
                                    (mkF (140 : Nat)
                                      [((0 : Nat), Value.int IntKind.i64 a), ((1 : Nat), Value.int IntKind.i64 b),
                                        ((5 : Nat), Value.int IntKind.i64 (5 : Int))])
                                    (mkS []))))
                              (br (decide (Int.tmod a b < (0 : Int)))
                                (br (decide (b < (0 : Int)))
                                  (br (decide (Int.tmod a b ≤ b)) (N AX.ret (mkF (140 : Nat) []) (mkS []))
                                    (N AX.normal
                                      (mkF (140 : Nat)
                                        [((0 : Nat), Value.int IntKind.i64 a), ((1 : Nat), Value.int IntKind.i64 b),
                                          ((5 : Nat), Value.int IntKind.i64 (5 : Int))])
                                      (mkS [])))
                                  (N AX.normal
                                    (mkF (140 : Nat)
                                      [((0 : Nat), Value.int IntKind.i64 a), ((1 : Nat), Value.int IntKind.i64 b),
                                        ((5 : Nat), Value.int IntKind.i64 (5 : Int))])
                                    (mkS [])))
                                (N AX.normal
                                  (mkF (140 : Nat)
                                    [((0 : Nat), Value.int IntKind.i64 a), ((1 : Nat), Value.int IntKind.i64 b),
                                      ((5 : Nat), Value.int IntKind.i64 (5 : Int))])
                                  (mkS []))))))
                        (br (decide (Int.tmod a b ≥ (0 : Int)))
                          (br (decide (b < (0 : Int)))
                            (br (decide (Int.tmod a b ≥ IntKind.wrap IntKind.i64 ((0 : Int) - b)))
                              (N AX.ret (mkF (140 : Nat) []) (mkS []))
                              (br (decide (Int.tmod a b < (0 : Int)))
                                (br (decide (b > (0 : Int)))
                                  (br (decide (IntKind.wrap IntKind.i64 ((0 : Int) - Int.tmod a b) ≥ b))
                                    (N AX.ret (mkF (140 : Nat) []) (mkS []))
                                    (br (decide (Int.tmod a b < (0 : Int)))
                                      (br (decide (b < (0 : Int)))
                                        (br (decide (Int.tmod a b ≤ b)) (N AX.ret (mkF (140 : Nat) []) (mkS []))
                                          (N AX.normal
                                            (mkF (140 : Nat)
                                              [((0 : Nat), Value.int IntKind.i64 a), ((1 : Nat), Value.int IntKind.i64 b),
                                                ((5 : Nat), Value.int IntKind.i64 (5 : Int))])
                                            (mkS [])))
                                        (N AX.normal
                                          (mkF (140 : Nat)
                                            [((0 : Nat), Value.int IntKind.i64 a), ((1 : Nat), Value.int IntKind.i64 b),
                                              ((5 : Nat), Value.int IntKind.i64 (5 : Int))])
                                          (mkS [])))
                                      (N AX.normal
                                        (mkF (140 : Nat)
                                          [((0 : Nat), Value.int IntKind.i64 a), ((1 : Nat), Value.int IntKind.i64 b),
                                            ((5 : Nat), Value.int IntKind.i64 (5 : Int))])
                                        (mkS []))))
                                  (br (decide (Int.tmod a b < (0 : Int)))
                                    (br (decide (b < (0 : Int)))
                                      (br (decide (Int.tmod a b ≤ b)) (N AX.ret (mkF (140 : Nat) []) (mkS []))
                                        (N AX.normal
                                          (mkF (140 : Nat)
                                            [((0 : Nat), Value.int IntKind.i64 a), ((1 : Nat), Value.int IntKind.i64 b),
                                              ((5 : Nat), Value.int IntKind.i64 (5 : Int))])
                                          (mkS [])))
                                      (N AX.normal
                                        (mkF (140 : Nat)
                                          [((0 : Nat), Value.int IntKind.i64 a), ((1 : Nat), Value.int IntKind.i64 b),
                                            ((5 : Nat), Value.int IntKind.i64 (5 : Int))])
                                        (mkS [])))
                                    (N AX.normal
                                      (mkF (140 : Nat)
                                        [((0 : Nat), Value.int IntKind.i64 a), ((1 : Nat), Value.int IntKind.i64 b),
                                          ((5 : Nat), Value.int IntKind.i64 (5 : Int))])
                                      (mkS []))))
                                (br (decide (Int.tmod a b < (0 : Int)))
                                  (br (decide (b < (0 : Int)))
                                    (br (decide (Int.tmod a b ≤ b)) (N AX.ret (mkF (140 : Nat) []) (mkS []))
                                      (N AX.normal
                                        (mkF (140 : Nat)
                                          [((0 : Nat), Value.int IntKind.i64 a), ((1 : Nat), Value.int IntKind.i64 b),
                                            ((5 : Nat), Value.int IntKind.i64 (5 : Int))])
                                        (mkS [])))
                                    (N AX.normal
                                      (mkF (140 : Nat)
                                        [((0 : Nat), Value.int IntKind.i64 a), ((1 : Nat), Value.int IntKind.i64 b),
                                          ((5 : Nat), Value.int IntKind.i64 (5 : Int))])
                                      (mkS [])))
                                  (N AX.normal
                                    (mkF (140 : Nat)
                                      [((0 : Nat), Value.int IntKind.i64 a), ((1 : Nat), Value.int IntKind.i64 b),
                                        ((5 : Nat), Value.int IntKind.i64 (5 : Int))])
                                    (mkS [])))))
                            (br (decide (Int.tmod a b < (0 : Int)))
                              (br (decide (b > (0 : Int)))
                                (br (decide (IntKind.wrap IntKind.i64 ((0 : Int) - Int.tmod a b) ≥ b))
                                  (N AX.ret (mkF (140 : Nat) []) (mkS []))
                                  (br (decide (Int.tmod a b < (0 : Int)))
                                    (br (decide (b < (0 : Int)))
                                      (br (decide (Int.tmod a b ≤ b)) (N AX.ret (mkF (140 : Nat) []) (mkS []))
                                        (N AX.normal
                                          (mkF (140 : Nat)
                                            [((0 : Nat), Value.int IntKind.i64 a), ((1 : Nat), Value.int IntKind.i64 b),
                                              ((5 : Nat), Value.int IntKind.i64 (5 : Int))])
                                          (mkS [])))
                                      (N AX.normal
                                        (mkF (140 : Nat)
                                          [((0 : Nat), Value.int IntKind.i64 a), ((1 : Nat), Value.int IntKind.i64 b),
                                            ((5 : Nat), Value.int IntKind.i64 (5 : Int))])
                                        (mkS [])))
                                    (N AX.normal
                                      (mkF (140 : Nat)
                                        [((0 : Nat), Value.int IntKind.i64 a), ((1 : Nat), Value.int IntKind.i64 b),
                                          ((5 : Nat), Value.int IntKind.i64 (5 : Int))])
                                      (mkS []))))
                                (br (decide (Int.tmod a b < (0 : Int)))
                                  (br (decide (b < (0 : Int)))
                                    (br (decide (Int.tmod a b ≤ b)) (N AX.ret (mkF (140 : Nat) []) (mkS []))
                                      (N AX.normal
                                        (mkF (140 : Nat)
                                          [((0 : Nat), Value.int IntKind.i64 a), ((1 : Nat), Value.int IntKind.i64 b),
                                            ((5 : Nat), Value.int IntKind.i64 (5 : Int))])
                                        (mkS [])))
                                    (N AX.normal
                                      (mkF (140 : Nat)
                                        [((0 : Nat), Value.int IntKind.i64 a), ((1 : Nat), Value.int IntKind.i64 b),
                                          ((5 : Nat), Value.int IntKind.i64 (5 : Int))])
                                      (mkS [])))
                                  (N AX.normal
                                    (mkF (140 : Nat)
                                      [((0 : Nat), Value.int IntKind.i64 a), ((1 : Nat), Value.int IntKind.i64 b),
                                        ((5 : Nat), Value.int IntKind.i64 (5 : Int))])
                                    (mkS []))))
                              (br (decide (Int.tmod a b < (0 : Int)))
                                (br (decide (b < (0 : Int)))
                                  (br (decide (Int.tmod a b ≤ b)) (N AX.ret (mkF (140 : Nat) []) (mkS []))
                                    (N AX.normal
                                      (mkF (140 : Nat)
                                        [((0 : Nat), Value.int IntKind.i64 a), ((1 : Nat), Value.int IntKind.i64 b),
                                          ((5 : Nat), Value.int IntKind.i64 (5 : Int))])
                                      (mkS [])))
                                  (N AX.normal
                                    (mkF (140 : Nat)
                                      [((0 : Nat), Value.int IntKind.i64 a), ((1 : Nat), Value.int IntKind.i64 b),
                                        ((5 : Nat), Value.int IntKind.i64 (5 : Int))])
                                    (mkS [])))
                                (N AX.normal
                                  (mkF (140 : Nat)
                                    [((0 : Nat), Value.int IntKind.i64 a), ((1 : Nat), Value.int IntKind.i64 b),
                                      ((5 : Nat), Value.int IntKind.i64 (5 : Int))])
                                  (mkS [])))))
                          (br (decide (Int.tmod a b < (0 : Int)))
                            (br (decide (b > (0 : Int)))
                              (br (decide (IntKind.wrap IntKind.i64 ((0 : Int) - Int.tmod a b) ≥ b))
                                (N AX.ret (mkF (140 : Nat) []) (mkS []))
                                (br (decide (Int.tmod a b < (0 : Int)))
                                  (br (decide (b < (0 : Int)))
                                    (br (decide (Int.tmod a b ≤ b)) (N AX.ret (mkF (140 : Nat) []) (mkS []))
                                      (N AX.normal
                                        (mkF (140 : Nat)
                                          [((0 : Nat), Value.int IntKind.i64 a), ((1 : Nat), Value.int IntKind.i64 b),
                                            ((5 : Nat), Value.int IntKind.i64 (5 : Int))])
                                        (mkS [])))
                                    (N AX.normal
                                      (mkF (140 : Nat)
                                        [((0 : Nat), Value.int IntKind.i64 a), ((1 : Nat), Value.int IntKind.i64 b),
                                          ((5 : Nat), Value.int IntKind.i64 (5 : Int))])
                                      (mkS [])))
                                  (N AX.normal
                                    (mkF (140 : Nat)
                                      [((0 : Nat), Value.int IntKind.i64 a), ((1 : Nat), Value.int IntKind.i64 b),
                                        ((5 : Nat), Value.int IntKind.i64 (5 : Int))])
                                    (mkS []))))
                              (br (decide (Int.tmod a b < (0 : Int)))
                                (br (decide (b < (0 : Int)))
                                  (br (decide (Int.tmod a b ≤ b)) (N AX.ret (mkF (140 : Nat) []) (mkS []))
                                    (N AX.normal
                                      (mkF (140 : Nat)
                                        [((0 : Nat), Value.int IntKind.i64 a), ((1 : Nat), Value.int IntKind.i64 b),
                                          ((5 : Nat), Value.int IntKind.i64 (5 : Int))])
                                      (mkS [])))
                                  (N AX.normal
                                    (mkF (140 : Nat)
                                      [((0 : Nat), Value.int IntKind.i64 a), ((1 : Nat), Value.int IntKind.i64 b),
                                        ((5 : Nat), Value.int IntKind.i64 (5 : Int))])
                                    (mkS [])))
                                (N AX.normal
                                  (mkF (140 : Nat)
                                    [((0 : Nat), Value.int IntKind.i64 a), ((1 : Nat), Value.int IntKind.i64 b),
                                      ((5 : Nat), Value.int IntKind.i64 (5 : Int))])
                                  (mkS []))))
                            (br (decide (Int.tmod a b < (0 : Int)))
                              (br (decide (b < (0 : Int)))
                                (br (decide (Int.tmod a b ≤ b)) (N AX.ret (mkF (140 : Nat) []) (mkS []))
                                  (N AX.normal
                                    (mkF (140 : Nat)
                                      [((0 : Nat), Value.int IntKind.i64 a), ((1 : Nat), Value.int IntKind.i64 b),
                                        ((5 : Nat), Value.int IntKind.i64 (5 : Int))])
                                    (mkS [])))
                                (N AX.normal
                                  (mkF (140 : Nat)
                                    [((0 : Nat), Value.int IntKind.i64 a), ((1 : Nat), Value.int IntKind.i64 b),
                                      ((5 : Nat), Value.int IntKind.i64 (5 : Int))])
                                  (mkS [])))
                              (N AX.normal
                                (mkF (140 : Nat)
                                  [((0 : Nat), Value.int IntKind.i64 a), ((1 : Nat), Value.int IntKind.i64 b),
                                    ((5 : Nat), Value.int IntKind.i64 (5 : Int))])
                                (mkS []))))))
                      (br (decide (Int.tmod a b ≥ (0 : Int)))
                        (br (decide (b < (0 : Int)))
                          (br (decide (Int.tmod a b ≥ IntKind.wrap IntKind.i64 ((0 : Int) - b)))
                            (N AX.ret (mkF (140 : Nat) []) (mkS []))
                            (br (decide (Int.tmod a b < (0 : Int)))
                              (br (decide (b > (0 : Int)))
                                (br (decide (IntKind.wrap IntKind.i64 ((0 : Int) - Int.tmod a b) ≥ b))
                                  (N AX.ret (mkF (140 : Nat) []) (mkS []))
                                  (br (decide (Int.tmod a b < (0 : Int)))
                                    (br (decide (b < (0 : Int)))
                                      (br (decide (Int.tmod a b ≤ b)) (N AX.ret (mkF (140 : Nat) []) (mkS []))
                                        (N AX.normal
                                          (mkF (140 : Nat)
                                            [((0 : Nat), Value.int IntKind.i64 a), ((1 : Nat), Value.int IntKind.i64 b),
                                              ((5 : Nat), Value.int IntKind.i64 (5 : Int))])
                                          (mkS [])))
                                      (N AX.normal
                                        (mkF (140 : Nat)
                                          [((0 : Nat), Value.int IntKind.i64 a), ((1 : Nat), Value.int IntKind.i64 b),
                                            ((5 : Nat), Value.int IntKind.i64 (5 : Int))])
                                        (mkS [])))
                                    (N AX.normal
                                      (mkF (140 : Nat)
                                        [((0 : Nat), Value.int IntKind.i64 a), ((1 : Nat), Value.int IntKind.i64 b),
                                          ((5 : Nat), Value.int IntKind.i64 (5 : Int))])
                                      (mkS []))))
                                (br (decide (Int.tmod a b < (0 : Int)))
                                  (br (decide (b < (0 : Int)))
                                    (br (decide (Int.tmod a b ≤ b)) (N AX.ret (mkF (140 : Nat) []) (mkS []))
                                      (N AX.normal
                                        (mkF (140 : Nat)
                                          [((0 : Nat), Value.int IntKind.i64 a), ((1 : Nat), Value.int IntKind.i64 b),
                                            ((5 : Nat), Value.int IntKind.i64 (5 : Int))])
                                        (mkS [])))
                                    (N AX.normal
                                      (mkF (140 : Nat)
                                        [((0 : Nat), Value.int IntKind.i64 a), ((1 : Nat), Value.int IntKind.i64 b),
                                          ((5 : Nat), Value.int IntKind.i64 (5 : Int))])
                                      (mkS [])))
                                  (N AX.normal
                                    (mkF (140 : Nat)
                                      [((0 : Nat), Value.int IntKind.i64 a), ((1 : Nat), Value.int IntKind.i64 b),
                                        ((5 : Nat), Value.int IntKind.i64 (5 : Int))])
                                    (mkS []))))
                              (br (decide (Int.tmod a b < (0 : Int)))
                                (br (decide (b < (0 : Int)))
                                  (br (decide (Int.tmod a b ≤ b)) (N AX.ret (mkF (140 : Nat) []) (mkS []))
                                    (N AX.normal
                                      (mkF (140 : Nat)
                                        [((0 : Nat), Value.int IntKind.i64 a), ((1 : Nat), Value.int IntKind.i64 b),
                                          ((5 : Nat), Value.int IntKind.i64 (5 : Int))])
                                      (mkS [])))
                                  (N AX.normal
                                    (mkF (140 : Nat)
                                      [((0 : Nat), Value.int IntKind.i64 a), ((1 : Nat), Value.int IntKind.i64 b),
                                        ((5 : Nat), Value.int IntKind.i64 (5 : Int))])
                                    (mkS [])))
                                (N AX.normal
                                  (mkF (140 : Nat)
                                    [((0 : Nat), Value.int IntKind.i64 a), ((1 : Nat), Value.int IntKind.i64 b),
                                      ((5 : Nat), Value.int IntKind.i64 (5 : Int))])
                                  (mkS [])))))
                          (br (decide (Int.tmod a b < (0 : Int)))
                            (br (decide (b > (0 : Int)))
                              (br (decide (IntKind.wrap IntKind.i64 ((0 : Int) - Int.tmod a b) ≥ b))
                                (N AX.ret (mkF (140 : Nat) []) (mkS []))
                                (br (decide (Int.tmod a b < (0 : Int)))
                                  (br (decide (b < (0 : Int)))
                                    (br (decide (Int.tmod a b ≤ b)) (N AX.ret (mkF (140 : Nat) []) (mkS []))
                                      (N AX.normal
                                        (mkF (140 : Nat)
                                          [((0 : Nat), Value.int IntKind.i64 a), ((1 : Nat), Value.int IntKind.i64 b),
                                            ((5 : Nat), Value.int IntKind.i64 (5 : Int))])
                                        (mkS [])))
                                    (N AX.normal
                                      (mkF (140 : Nat)
                                        [((0 : Nat), Value.int IntKind.i64 a), ((1 : Nat), Value.int IntKind.i64 b),
                                          ((5 : Nat), Value.int IntKind.i64 (5 : Int))])
                                      (mkS [])))
                                  (N AX.normal
                                    (mkF (140 : Nat)
                                      [((0 : Nat), Value.int IntKind.i64 a), ((1 : Nat), Value.int IntKind.i64 b),
                                        ((5 : Nat), Value.int IntKind.i64 (5 : Int))])
                                    (mkS []))))
                              (br (decide (Int.tmod a b < (0 : Int)))
                                (br (decide (b < (0 : Int)))
                                  (br (decide (Int.tmod a b ≤ b)) (N AX.ret (mkF (140 : Nat) []) (mkS []))
                                    (N AX.normal
                                      (mkF (140 : Nat)
                                        [((0 : Nat), Value.int IntKind.i64 a), ((1 : Nat), Value.int IntKind.i64 b),
                                          ((5 : Nat), Value.int IntKind.i64 (5 : Int))])
                                      (mkS [])))
                                  (N AX.normal
                                    (mkF (140 : Nat)
                                      [((0 : Nat), Value.int IntKind.i64 a), ((1 : Nat), Value.int IntKind.i64 b),
                                        ((5 : Nat), Value.int IntKind.i64 (5 : Int))])
                                    (mkS [])))
                                (N AX.normal
                                  (mkF (140 : Nat)
                                    [((0 : Nat), Value.int IntKind.i64 a), ((1 : Nat), Value.int IntKind.i64 b),
                                      ((5 : Nat), Value.int IntKind.i64 (5 : Int))])
                                  (mkS []))))
                            (br (decide (Int.tmod a b < (0 : Int)))
                              (br (decide (b < (0 : Int)))
                                (br (decide (Int.tmod a b ≤ b)) (N AX.ret (mkF (140 : Nat) []) (mkS []))
                                  (N AX.normal
                                    (mkF (140 : Nat)
                                      [((0 : Nat), Value.int IntKind.i64 a), ((1 : Nat), Value.int IntKind.i64 b),
                                        ((5 : Nat), Value.int IntKind.i64 (5 : Int))])
                                    (mkS [])))
                                (N AX.normal
                                  (mkF (140 : Nat)
                                    [((0 : Nat), Value.int IntKind.i64 a), ((1 : Nat), Value.int IntKind.i64 b),
                                      ((5 : Nat), Value.int IntKind.i64 (5 : Int))])
                                  (mkS [])))
                              (N AX.normal
                                (mkF (140 : Nat)
                                  [((0 : Nat), Value.int IntKind.i64 a), ((1 : Nat), Value.int IntKind.i64 b),
                                    ((5 : Nat), Value.int IntKind.i64 (5 : Int))])
                                (mkS [])))))
                        (br (decide (Int.tmod a b < (0 : Int)))
                          (br (decide (b > (0 : Int)))
                            (br (decide (IntKind.wrap IntKind.i64 ((0 : Int) - Int.tmod a b) ≥ b))
                              (N AX.ret (mkF (140 : Nat) []) (mkS []))
                              (br (decide (Int.tmod a b < (0 : Int)))
                                (br (decide (b < (0 : Int)))
                                  (br (decide (Int.tmod a b ≤ b)) (N AX.ret (mkF (140 : Nat) []) (mkS []))
                                    (N AX.normal
                                      (mkF (140 : Nat)
                                        [((0 : Nat), Value.int IntKind.i64 a), ((1 : Nat), Value.int IntKind.i64 b),
                                          ((5 : Nat), Value.int IntKind.i64 (5 : Int))])
                                      (mkS [])))
                                  (N AX.normal
                                    (mkF (140 : Nat)
                                      [((0 : Nat), Value.int IntKind.i64 a), ((1 : Nat), Value.int IntKind.i64 b),
                                        ((5 : Nat), Value.int IntKind.i64 (5 : Int))])
                                    (mkS [])))
                                (N AX.normal
                                  (mkF (140 : Nat)
                                    [((0 : Nat), Value.int IntKind.i64 a), ((1 : Nat), Value.int IntKind.i64 b),
                                      ((5 : Nat), Value.int IntKind.i64 (5 : Int))])
                                  (mkS []))))
                            (br (decide (Int.tmod a b < (0 : Int)))
                              (br (decide (b < (0 : Int)))
                                (br (decide (Int.tmod a b ≤ b)) (N AX.ret (mkF (140 : Nat) []) (mkS []))
                                  (N AX.normal
                                    (mkF (140 : Nat)
                                      [((0 : Nat), Value.int IntKind.i64 a), ((1 : Nat), Value.int IntKind.i64 b),
                                        ((5 : Nat), Value.int IntKind.i64 (5 : Int))])
                                    (mkS [])))
                                (N AX.normal
                                  (mkF (140 : Nat)
                                    [((0 : Nat), Value.int IntKind.i64 a), ((1 : Nat), Value.int IntKind.i64 b),
                                      ((5 : Nat), Value.int IntKind.i64 (5 : Int))])
                                  (mkS [])))
                              (N AX.normal
                                (mkF (140 : Nat)
                                  [((0 : Nat), Value.int IntKind.i64 a), ((1 : Nat), Value.int IntKind.i64 b),
                                    ((5 : Nat), Value.int IntKind.i64 (5 : Int))])
                                (mkS []))))
                          (br (decide (Int.tmod a b < (0 : Int)))
                            (br (decide (b < (0 : Int)))
                              (br (decide (Int.tmod a b ≤ b)) (N AX.ret (mkF (140 : Nat) []) (mkS []))
                                (N AX.normal
                                  (mkF (140 : Nat)
                                    [((0 : Nat), Value.int IntKind.i64 a), ((1 : Nat), Value.int IntKind.i64 b),
                                      ((5 : Nat), Value.int IntKind.i64 (5 : Int))])
                                  (mkS [])))
                              (N AX.normal
                                (mkF (140 : Nat)
                                  [((0 : Nat), Value.int IntKind.i64 a), ((1 : Nat), Value.int IntKind.i64 b),
                                    ((5 : Nat), Value.int IntKind.i64 (5 : Int))])
                                (mkS [])))
                            (N AX.normal
                              (mkF (140 : Nat)
                                [((0 : Nat), Value.int IntKind.i64 a), ((1 : Nat), Value.int IntKind.i64 b),
                                  ((5 : Nat), Value.int IntKind.i64 (5 : Int))])
                              (mkS []))))))
                    (N AX.normal
                      (mkF (140 : Nat)
                        [((0 : Nat), Value.int IntKind.i64 a), ((1 : Nat), Value.int IntKind.i64 b),
                          ((5 : Nat), Value.int IntKind.i64 (5 : Int))])
                      (mkS []))))
                (br (b != (-9223372036854775808 : Int))
                  (br (decide (Int.tmod a b ≥ (0 : Int)))
                    (br (decide (b > (0 : Int)))
                      (br (decide (Int.tmod a b ≥ b)) (N AX.ret (mkF (140 : Nat) []) (mkS []))
                        (br (decide (Int.tmod a b ≥ (0 : Int)))
                          (br (decide (b < (0 : Int)))
                            (br (decide (Int.tmod a b ≥ IntKind.wrap IntKind.i64 ((0 : Int) - b)))
                              (N AX.ret (mkF (140 : Nat) []) (mkS []))
                              (br (decide (Int.tmod a b < (0 : Int)))
                                (br (decide (b > (0 : Int)))
                                  (br (decide (IntKind.wrap IntKind.i64 ((0 : Int) - Int.tmod a b) ≥ b))
                                    (N AX.ret (mkF (140 : Nat) []) (mkS []))
                                    (br (decide (Int.tmod a b < (0 : Int)))
                                      (br (decide (b < (0 : Int)))
                                        (br (decide (Int.tmod a b ≤ b)) (N AX.ret (mkF (140 : Nat) []) (mkS []))
                                          (N AX.normal
                                            (mkF (140 : Nat)
                                              [((0 : Nat), Value.int IntKind.i64 a), ((1 : Nat), Value.int IntKind.i64 b),
                                                ((5 : Nat), Value.int IntKind.i64 (5 : Int))])
                                            (mkS [])))
                                        (N AX.normal
                                          (mkF (140 : Nat)
                                            [((0 : Nat), Value.int IntKind.i64 a), ((1 : Nat), Value.int IntKind.i64 b),
                                              ((5 : Nat), Value.int IntKind.i64 (5 : Int))])
                                          (mkS [])))
                                      (N AX.normal
                                        (mkF (140 : Nat)
                                          [((0 : Nat), Value.int IntKind.i64 a), ((1 : Nat), Value.int IntKind.i64 b),
                                            ((5 : Nat), Value.int IntKind.i64 (5 : Int))])
                                        (mkS []))))
                                  (br (decide (Int.tmod a b < (0 : Int)))
                                    (br (decide (b < (0 : Int)))
                                      (br (decide (Int.tmod a b ≤ b)) (N AX.ret (mkF (140 : Nat) []) (mkS []))
                                        (N AX.normal
                                          (mkF (140 : Nat)
                                            [((0 : Nat), Value.int IntKind.i64 a), ((1 : Nat), Value.int IntKind.i64 b),
                                              ((5 : Nat), Value.int IntKind.i64 (5 : Int))])
                                          (mkS [])))
                                      (N AX.normal
                                        (mkF (140 : Nat)
                                          [((0 : Nat), Value.int IntKind.i64 a), ((1 : Nat), Value.int IntKind.i64 b),
                                            ((5 : Nat), Value.int IntKind.i64 (5 : Int))])
                                        (mkS [])))
                                    (N AX.normal
                                      (mkF (140 : Nat)
                                        [((0 : Nat), Value.int IntKind.i64 a), ((1 : Nat), Value.int IntKind.i64 b),
                                          ((5 : Nat), Value.int IntKind.i64 (5 : Int))])
                                      (mkS []))))
                                (br (decide (Int.tmod a b < (0 : Int)))
                                  (br (decide (b < (0 : Int)))
                                    (br (decide (Int.tmod a b ≤ b)) (N AX.ret (mkF (140 : Nat) []) (mkS []))
                                      (N AX.normal
                                        (mkF (140 : Nat)
                                          [((0 : Nat), Value.int IntKind.i64 a), ((1 : Nat), Value.int IntKind.i64 b),
                                            ((5 : Nat), Value.int IntKind.i64 (5 : Int))])
                                        (mkS [])))
                                    (N AX.normal
                                      (mkF (140 : Nat)
                                        [((0 : Nat), Value.int IntKind.i64 a), ((1 : Nat), Value.int IntKind.i64 b),
                                          ((5 : Nat), Value.int IntKind.i64 (5 : Int))])
                                      (mkS [])))
                                  (N AX.normal
                                    (mkF (140 : Nat)
                                      [((0 : Nat), Value.int IntKind.i64 a), ((1 : Nat), Value.int IntKind.i64 b),
                                        ((5 : Nat), Value.int IntKind.i64 (5 : Int))])
                                    (mkS [])))))
                            (br (decide (Int.tmod a b < (0 : Int)))
                              (br (decide (b > (0 : Int)))
                                (br (decide (IntKind.wrap IntKind.i64 ((0 : Int) - Int.tmod a b) ≥ b))
                                  (N AX.ret (mkF (140 : Nat) []) (mkS []))
                                  (br (decide (Int.tmod a b < (0 : Int)))
                                    (br (decide (b < (0 : Int)))
                                      (br (decide (Int.tmod a b ≤ b)) (N AX.ret (mkF (140 : Nat) []) (mkS []))
                                        (N AX.normal
                                          (mkF (140 : Nat)
                                            [((0 : Nat), Value.int IntKind.i64 a), ((1 : Nat), Value.int IntKind.i64 b),
                                              ((5 : Nat), Value.int IntKind.i64 (5 : Int))])
                                          (mkS [])))
                                      (N AX.normal
                                        (mkF (140 : Nat)
                                          [((0 : Nat), Value.int IntKind.i64 a), ((1 : Nat), Value.int IntKind.i64 b),
                                            ((5 : Nat), Value.int IntKind.i64 (5 : Int))])
                                        (mkS [])))
                                    (N AX.normal
                                      (mkF (140 : Nat)
                                        [((0 : Nat), Value.int IntKind.i64 a), ((1 : Nat), Value.int IntKind.i64 b),
                                          ((5 : Nat), Value.int IntKind.i64 (5 : Int))])
                                      (mkS []))))
                                (br (decide (Int.tmod a b < (0 : Int)))
                                  (br (decide (b < (0 : Int)))
                                    (br (decide (Int.tmod a b ≤ b)) (N AX.ret (mkF (140 : Nat) []) (mkS []))
                                      (N AX.normal
                                        (mkF (140 : Nat)
                                          [((0 : Nat), Value.int IntKind.i64 a), ((1 : Nat), Value.int IntKind.i64 b),
                                            ((5 : Nat), Value.int IntKind.i64 (5 : Int))])
                                        (mkS [])))
                                    (N AX.normal
                                      (mkF (140 : Nat)
                                        [((0 : Nat), Value.int IntKind.i64 a), ((1 : Nat), Value.int IntKind.i64 b),
                                          ((5 : Nat), Value.int IntKind.i64 (5 : Int))])
                                      (mkS [])))
                                  (N AX.normal
                                    (mkF (140 : Nat)
                                      [((0 : Nat), Value.int IntKind.i64 a), ((1 : Nat), Value.int IntKind.i64 b),
                                        ((5 : Nat), Value.int IntKind.i64 (5 : Int))])
                                    (mkS []))))
                              (br (decide (Int.tmod a b < (0 : Int)))
                                (br (decide (b < (0 : Int)))
                                  (br (decide (Int.tmod a b ≤ b)) (N AX.ret (mkF (140 : Nat) []) (mkS []))
                                    (N AX.normal
                                      (mkF (140 : Nat)
                                        [((0 : Nat), Value.int IntKind.i64 a), ((1 : Nat), Value.int IntKind.i64 b),
                                          ((5 : Nat), Value.int IntKind.i64 (5 : Int))])
                                      (mkS [])))
                                  (N AX.normal
                                    (mkF (140 : Nat)
                                      [((0 : Nat), Value.int IntKind.i64 a), ((1 : Nat), Value.int IntKind.i64 b),
                                        ((5 : Nat), Value.int IntKind.i64 (5 : Int))])
                                    (mkS [])))
                                (N AX.normal
                                  (mkF (140 : Nat)
                                    [((0 : Nat), Value.int IntKind.i64 a), ((1 : Nat), Value.int IntKind.i64 b),
                                      ((5 : Nat), Value.int IntKind.i64 (5 : Int))])
                                  (mkS [])))))
                          (br (decide (Int.tmod a b < (0 : Int)))
                            (br (decide (b > (0 : Int)))
                              (br (decide (IntKind.wrap IntKind.i64 ((0 : Int) - Int.tmod a b) ≥ b))
                                (N AX.ret (mkF (140 : Nat) []) (mkS []))
                                (br (decide (Int.tmod a b < (0 : Int)))
                                  (br (decide (b < (0 : Int)))
                                    (br (decide (Int.tmod a b ≤ b)) (N AX.ret (mkF (140 : Nat) []) (mkS []))
                                      (N AX.normal
                                        (mkF (140 : Nat)
                                          [((0 : Nat), Value.int IntKind.i64 a), ((1 : Nat), Value.int IntKind.i64 b),
                                            ((5 : Nat), Value.int IntKind.i64 (5 : Int))])
                                        (mkS [])))
                                    (N AX.normal
                                      (mkF (140 : Nat)
                                        [((0 : Nat), Value.int IntKind.i64 a), ((1 : Nat), Value.int IntKind.i64 b),
                                          ((5 : Nat), Value.int IntKind.i64 (5 : Int))])
                                      (mkS [])))
                                  (N AX.normal
                                    (mkF (140 : Nat)
                                      [((0 : Nat), Value.int IntKind.i64 a), ((1 : Nat), Value.int IntKind.i64 b),
                                        ((5 : Nat), Value.int IntKind.i64 (5 : Int))])
                                    (mkS []))))
                              (br (decide (Int.tmod a b < (0 : Int)))
                                (br (decide (b < (0 : Int)))
                                  (br (decide (Int.tmod a b ≤ b)) (N AX.ret (mkF (140 : Nat) []) (mkS []))
                                    (N AX.normal
                                      (mkF (140 : Nat)
                                        [((0 : Nat), Value.int IntKind.i64 a), ((1 : Nat), Value.int IntKind.i64 b),
                                          ((5 : Nat), Value.int IntKind.i64 (5 : Int))])
                                      (mkS [])))
                                  (N AX.normal
                                    (mkF (140 : Nat)
                                      [((0 : Nat), Value.int IntKind.i64 a), ((1 : Nat), Value.int IntKind.i64 b),
                                        ((5 : Nat), Value.int IntKind.i64 (5 : Int))])
                                    (mkS [])))
                                (N AX.normal
                                  (mkF (140 : Nat)
                                    [((0 : Nat), Value.int IntKind.i64 a), ((1 : Nat), Value.int IntKind.i64 b),
                                      ((5 : Nat), Value.int IntKind.i64 (5 : Int))])
                                  (mkS []))))
                            (br (decide (Int.tmod a b < (0 : Int)))
                              (br (decide (b < (0 : Int)))
                                (br (decide (Int.tmod a b ≤ b)) (N AX.ret (mkF (140 : Nat) []) (mkS []))
                                  (N AX.normal
                                    (mkF (140 : Nat)
                                      [((0 : Nat), Value.int IntKind.i64 a), ((1 : Nat), Value.int IntKind.i64 b),
                                        ((5 : Nat), Value.int IntKind.i64 (5 : Int))])
                                    (mkS [])))
                                (N AX.normal
                                  (mkF (140 : Nat)
                                    [((0 : Nat), Value.int IntKind.i64 a), ((1 : Nat), Value.int IntKind.i64 b),
                                      ((5 : Nat), Value.int IntKind.i64 (5 : Int))])
                                  (mkS [])))
                              (N AX.normal
                                (mkF (140 : Nat)
                                  [((0 : Nat), Value.int IntKind.i64 a), ((1 : Nat), Value.int IntKind.i64 b),
                                    ((5 : Nat), Value.int IntKind.i64 (5 : Int))])
                                (mkS []))))))
                      (br (decide (Int.tmod a b ≥ (0 : Int)))
                        (br (decide (b < (0 : Int)))
                          (br (decide (Int.tmod a b ≥ IntKind.wrap IntKind.i64 ((0 : Int) - b)))
                            (N AX.ret (mkF (140 : Nat) []) (mkS []))
                            (br (decide (Int.tmod a b < (0 : Int)))
                              (br (decide (b > (0 : Int)))
                                (br (decide (IntKind.wrap IntKind.i64 ((0 : Int) - Int.tmod a b) ≥ b))
                                  (N AX.ret (mkF (140 : Nat) []) (mkS []))
                                  (br (decide (Int.tmod a b < (0 : Int)))
                                    (br (decide (b < (0 : Int)))
                                      (br (decide (Int.tmod a b ≤ b)) (N AX.ret (mkF (140 : Nat) []) (mkS []))
                                        (N AX.normal
                                          (mkF (140 : Nat)
                                            [((0 : Nat), Value.int IntKind.i64 a), ((1 : Nat), Value.int IntKind.i64 b),
                                              ((5 : Nat), Value.int IntKind.i64 (5 : Int))])
                                          (mkS [])))
                                      (N AX.normal
                                        (mkF (140 : Nat)
                                          [((0 : Nat), Value.int IntKind.i64 a), ((1 : Nat), Value.int IntKind.i64 b),
                                            ((5 : Nat), Value.int IntKind.i64 (5 : Int))])
                                        (mkS [])))
                                    (N AX.normal
                                      (mkF (140 : Nat)
                                        [((0 : Nat), Value.int IntKind.i64 a), ((1 : Nat), Value.int IntKind.i64 b),
                                          ((5 : Nat), Value.int IntKind.i64 (5 : Int))])
                                      (mkS []))))
                                (br (decide (Int.tmod a b < (0 : Int)))
                                  (br (decide (b < (0 : Int)))
                                    (br (decide (Int.tmod a b ≤ b)) (N AX.ret (mkF (140 : Nat) []) (mkS []))
                                      (N AX.normal
                                        (mkF (140 : Nat)
                                          [((0 : Nat), Value.int IntKind.i64 a), ((1 : Nat), Value.int IntKind.i64 b),
                                            ((5 : Nat), Value.int IntKind.i64 (5 : Int))])
                                        (mkS [])))
                                    (N AX.normal
                                      (mkF (140 : Nat)
                                        [((0 : Nat), Value.int IntKind.i64 a), ((1 : Nat), Value.int IntKind.i64 b),
                                          ((5 : Nat), Value.int IntKind.i64 (5 : Int))])
                                      (mkS [])))
                                  (N AX.normal
                                    (mkF (140 : Nat)
                                      [((0 : Nat), Value.int IntKind.i64 a), ((1 : Nat), Value.int IntKind.i64 b),
                                        ((5 : Nat), Value.int IntKind.i64 (5 : Int))])
                                    (mkS []))))
                              (br (decide (Int.tmod a b < (0 : Int)))
                                (br (decide (b < (0 : Int)))
                                  (br (decide (Int.tmod a b ≤ b)) (N AX.ret (mkF (140 : Nat) []) (mkS []))
                                    (N AX.normal
                                      (mkF (140 : Nat)
                                        [((0 : Nat), Value.int IntKind.i64 a), ((1 : Nat), Value.int IntKind.i64 b),
                                          ((5 : Nat), Value.int IntKind.i64 (5 : Int))])
                                      (mkS [])))
                                  (N AX.normal
                                    (mkF (140 : Nat)
                                      [((0 : Nat), Value.int IntKind.i64 a), ((1 : Nat), Value.int IntKind.i64 b),
                                        ((5 : Nat), Value.int IntKind.i64 (5 : Int))])
                                    (mkS [])))
                                (N AX.normal
                                  (mkF (140 : Nat)
                                    [((0 : Nat), Value.int IntKind.i64 a), ((1 : Nat), Value.int IntKind.i64 b),
                                      ((5 : Nat), Value.int IntKind.i64 (5 : Int))])
                                  (mkS [])))))
                          (br (decide (Int.tmod a b < (0 : Int)))
                            (br (decide (b > (0 : Int)))
                              (br (decide (IntKind.wrap IntKind.i64 ((0 : Int) - Int.tmod a b) ≥ b))
                                (N AX.ret (mkF (140 : Nat) []) (mkS []))
                                (br (decide (Int.tmod a b < (0 : Int)))
                                  (br (decide (b < (0 : Int)))
                                    (br (decide (Int.tmod a b ≤ b)) (N AX.ret (mkF (140 : Nat) []) (mkS []))
                                      (N AX.normal
                                        (mkF (140 : Nat)
                                          [((0 : Nat), Value.int IntKind.i64 a), ((1 : Nat), Value.int IntKind.i64 b),
                                            ((5 : Nat), Value.int IntKind.i64 (5 : Int))])
                                        (mkS [])))
                                    (N AX.normal
                                      (mkF (140 : Nat)
                                        [((0 : Nat), Value.int IntKind.i64 a), ((1 : Nat), Value.int IntKind.i64 b),
                                          ((5 : Nat), Value.int IntKind.i64 (5 : Int))])
                                      (mkS [])))
                                  (N AX.normal
                                    (mkF (140 : Nat)
                                      [((0 : Nat), Value.int IntKind.i64 a), ((1 : Nat), Value.int IntKind.i64 b),
                                        ((5 : Nat), Value.int IntKind.i64 (5 : Int))])
                                    (mkS []))))
                              (br (decide (Int.tmod a b < (0 : Int)))
                                (br (decide (b < (0 : Int)))
                                  (br (decide (Int.tmod a b ≤ b)) (N AX.ret (mkF (140 : Nat) []) (mkS []))
                                    (N AX.normal
                                      (mkF (140 : Nat)
                                        [((0 : Nat), Value.int IntKind.i64 a), ((1 : Nat), Value.int IntKind.i64 b),
                                          ((5 : Nat), Value.int IntKind.i64 (5 : Int))])
                                      (mkS [])))
                                  (N AX.normal
                                    (mkF (140 : Nat)
                                      [((0 : Nat), Value.int IntKind.i64 a), ((1 : Nat), Value.int IntKind.i64 b),
                                        ((5 : Nat), Value.int IntKind.i64 (5 : Int))])
                                    (mkS [])))
                                (N AX.normal
                                  (mkF (140 : Nat)
                                    [((0 : Nat), Value.int IntKind.i64 a), ((1 : Nat), Value.int IntKind.i64 b),
                                      ((5 : Nat), Value.int IntKind.i64 (5 : Int))])
                                  (mkS []))))
                            (br (decide (Int.tmod a b < (0 : Int)))
                              (br (decide (b < (0 : Int)))
                                (br (decide (Int.tmod a b ≤ b)) (N AX.ret (mkF (140 : Nat) []) (mkS []))
                                  (N AX.normal
                                    (mkF (140 : Nat)
                                      [((0 : Nat), Value.int IntKind.i64 a), ((1 : Nat), Value.int IntKind.i64 b),
                                        ((5 : Nat), Value.int IntKind.i64 (5 : Int))])
                                    (mkS [])))
                                (N AX.normal
                                  (mkF (140 : Nat)
                                    [((0 : Nat), Value.int IntKind.i64 a), ((1 : Nat), Value.int IntKind.i64 b),
                                      ((5 : Nat), Value.int IntKind.i64 (5 : Int))])
                                  (mkS [])))
                              (N AX.normal
                                (mkF (140 : Nat)
                                  [((0 : Nat), Value.int IntKind.i64 a), ((1 : Nat), Value.int IntKind.i64 b),
                                    ((5 : Nat), Value.int IntKind.i64 (5 : Int))])
                                (mkS [])))))
                        (br (decide (Int.tmod a b < (0 : Int)))
                          (br (decide (b > (0 : Int)))
                            (br (decide (IntKind.wrap IntKind.i64 ((0 : Int) - Int.tmod a b) ≥ b))
                              (N AX.ret (mkF (140 : Nat) []) (mkS []))
                              (br (decide (Int.tmod a b < (0 : Int)))
                                (br (decide (b < (0 : Int)))
                                  (br (decide (Int.tmod a b ≤ b)) (N AX.ret (mkF (140 : Nat) []) (mkS []))
                                    (N AX.normal
                                      (mkF (140 : Nat)
                                        [((0 : Nat), Value.int IntKind.i64 a), ((1 : Nat), Value.int IntKind.i64 b),
                                          ((5 : Nat), Value.int IntKind.i64 (5 : Int))])
                                      (mkS [])))
                                  (N AX.normal
                                    (mkF (140 : Nat)
                                      [((0 : Nat), Value.int IntKind.i64 a), ((1 : Nat), Value.int IntKind.i64 b),
                                        ((5 : Nat), Value.int IntKind.i64 (5 : Int))])
                                    (mkS [])))
                                (N AX.normal
                                  (mkF (140 : Nat)
                                    [((0 : Nat), Value.int IntKind.i64 a), ((1 : Nat), Value.int IntKind.i64 b),
                                      ((5 : Nat), Value.int IntKind.i64 (5 : Int))])
                                  (mkS []))))
                            (br (decide (Int.tmod a b < (0 : Int)))
                              (br (decide (b < (0 : Int)))
                                (br (decide (Int.tmod a b ≤ b)) (N AX.ret (mkF (140 : Nat) []) (mkS []))
                                  (N AX.normal
                                    (mkF (140 : Nat)
                                      [((0 : Nat), Value.int IntKind.i64 a), ((1 : Nat), Value.int IntKind.i64 b),
                                        ((5 : Nat), Value.int IntKind.i64 (5 : Int))])
                                    (mkS [])))
                                (N AX.normal
                                  (mkF (140 : Nat)
                                    [((0 : Nat), Value.int IntKind.i64 a), ((1 : Nat), Value.int IntKind.i64 b),
                                      ((5 : Nat), Value.int IntKind.i64 (5 : Int))])
                                  (mkS [])))
                              (N AX.normal
                                (mkF (140 : Nat)
                                  [((0 : Nat), Value.int IntKind.i64 a), ((1 : Nat), Value.int IntKind.i64 b),
                                    ((5 : Nat), Value.int IntKind.i64 (5 : Int))])
                                (mkS []))))
                          (br (decide (Int.tmod a b < (0 : Int)))
                            (br (decide (b < (0 : Int)))
                              (br (decide (Int.tmod a b ≤ b)) (N AX.ret (mkF (140 : Nat) []) (mkS []))
                                (N AX.normal
                                  (mkF (140 : Nat)
                                    [((0 : Nat), Value.int IntKind.i64 a), ((1 : Nat), Value.int IntKind.i64 b),
                                      ((5 : Nat), Value.int IntKind.i64 (5 : Int))])
                                  (mkS [])))
                              (N AX.normal
                                (mkF (140 : Nat)
                                  [((0 : Nat), Value.int IntKind.i64 a), ((1 : Nat), Value.int IntKind.i64 b),
                                    ((5 : Nat), Value.int IntKind.i64 (5 : Int))])
                                (mkS [])))
                            (N AX.normal
                              (mkF (140 : Nat)
                                [((0 : Nat), Value.int IntKind.i64 a), ((1 : Nat), Value.int IntKind.i64 b),
                                  ((5 : Nat), Value.int IntKind.i64 (5 : Int))])
                              (mkS []))))))
                    (br (decide (Int.tmod a b ≥ (0 : Int)))
                      (br (decide (b < (0 : Int)))
                        (br (decide (Int.tmod a b ≥ IntKind.wrap IntKind.i64 ((0 : Int) - b)))
                          (N AX.ret (mkF (140 : Nat) []) (mkS []))
                          (br (decide (Int.tmod a b < (0 : Int)))
                            (br (decide (b > (0 : Int)))
                              (br (decide (IntKind.wrap IntKind.i64 ((0 : Int) - Int.tmod a b) ≥ b))
                                (N AX.ret (mkF (140 : Nat) []) (mkS []))
                                (br (decide (Int.tmod a b < (0 : Int)))
                                  (br (decide (b < (0 : Int)))
                                    (br (decide (Int.tmod a b ≤ b)) (N AX.ret (mkF (140 : Nat) []) (mkS []))
                                      (N AX.normal
                                        (mkF (140 : Nat)
                                          [((0 : Nat), Value.int IntKind.i64 a), ((1 : Nat), Value.int IntKind.i64 b),
                                            ((5 : Nat), Value.int IntKind.i64 (5 : Int))])
                                        (mkS [])))
                                    (N AX.normal
                                      (mkF (140 : Nat)
                                        [((0 : Nat), Value.int IntKind.i64 a), ((1 : Nat), Value.int IntKind.i64 b),
                                          ((5 : Nat), Value.int IntKind.i64 (5 : Int))])
                                      (mkS [])))
                                  (N AX.normal
                                    (mkF (140 : Nat)
                                      [((0 : Nat), Value.int IntKind.i64 a), ((1 : Nat), Value.int IntKind.i64 b),
                                        ((5 : Nat), Value.int IntKind.i64 (5 : Int))])
                                    (mkS []))))
                              (br (decide (Int.tmod a b < (0 : Int)))
                                (br (decide (b < (0 : Int)))
                                  (br (decide (Int.tmod a b ≤ b)) (N AX.ret (mkF (140 : Nat) []) (mkS []))
                                    (N AX.normal
                                      (mkF (140 : Nat)
                                        [((0 : Nat), Value.int IntKind.i64 a), ((1 : Nat), Value.int IntKind.i64 b),
                                          ((5 : Nat), Value.int IntKind.i64 (5 : Int))])
                                      (mkS [])))
                                  (N AX.normal
                                    (mkF (140 : Nat)
                                      [((0 : Nat), Value.int IntKind.i64 a), ((1 : Nat), Value.int IntKind.i64 b),
                                        ((5 : Nat), Value.int IntKind.i64 (5 : Int))])
                                    (mkS [])))
                                (N AX.normal
                                  (mkF (140 : Nat)
                                    [((0 : Nat), Value.int IntKind.i64 a), ((1 : Nat), Value.int IntKind.i64 b),
                                      ((5 : Nat), Value.int IntKind.i64 (5 : Int))])
                                  (mkS []))))
                            (br (decide (Int.tmod a b < (0 : Int)))
                              (br (decide (b < (0 : Int)))
                                (br (decide (Int.tmod a b ≤ b)) (N AX.ret (mkF (140 : Nat) []) (mkS []))
                                  (N AX.normal
                                    (mkF (140 : Nat)
                                      [((0 : Nat), Value.int IntKind.i64 a), ((1 : Nat), Value.int IntKind.i64 b),
                                        ((5 : Nat), Value.int IntKind.i64 (5 : Int))])
                                    (mkS [])))
                                (N AX.normal
                                  (mkF (140 : Nat)
                                    [((0 : Nat), Value.int IntKind.i64 a), ((1 : Nat), Value.int IntKind.i64 b),
                                      ((5 : Nat), Value.int IntKind.i64 (5 : Int))])
                                  (mkS [])))
                              (N AX.normal
                                (mkF (140 : Nat)
                                  [((0 : Nat), Value.int IntKind.i64 a), ((1 : Nat), Value.int IntKind.i64 b),
                                    ((5 : Nat), Value.int IntKind.i64 (5 : Int))])
                                (mkS [])))))
                        (br (decide (Int.tmod a b < (0 : Int)))
                          (br (decide (b > (0 : Int)))
                            (br (decide (IntKind.wrap IntKind.i64 ((0 : Int) - Int.tmod a b) ≥ b))
                              (N AX.ret (mkF (140 : Nat) []) (mkS []))
                              (br (decide (Int.tmod a b < (0 : Int)))
                                (br (decide (b < (0 : Int)))
                                  (br (decide (Int.tmod a b ≤ b)) (N AX.ret (mkF (140 : Nat) []) (mkS []))
                                    (N AX.normal
                                      (mkF (140 : Nat)
                                        [((0 : Nat), Value.int IntKind.i64 a), ((1 : Nat), Value.int IntKind.i64 b),
                                          ((5 : Nat), Value.int IntKind.i64 (5 : Int))])
                                      (mkS [])))
                                  (N AX.normal
                                    (mkF (140 : Nat)
                                      [((0 : Nat), Value.int IntKind.i64 a), ((1 : Nat), Value.int IntKind.i64 b),
                                        ((5 : Nat), Value.int IntKind.i64 (5 : Int))])
                                    (mkS [])))
                                (N AX.normal
                                  (mkF (140 : Nat)
                                    [((0 : Nat), Value.int IntKind.i64 a), ((1 : Nat), Value.int IntKind.i64 b),
                                      ((5 : Nat), Value.int IntKind.i64 (5 : Int))])
                                  (mkS []))))
                            (br (decide (Int.tmod a b < (0 : Int)))
                              (br (decide (b < (0 : Int)))
                                (br (decide (Int.tmod a b ≤ b)) (N AX.ret (mkF (140 : Nat) []) (mkS []))
                                  (N AX.normal
                                    (mkF (140 : Nat)
                                      [((0 : Nat), Value.int IntKind.i64 a), ((1 : Nat), Value.int IntKind.i64 b),
                                        ((5 : Nat), Value.int IntKind.i64 (5 : Int))])
                                    (mkS [])))
                                (N AX.normal
                                  (mkF (140 : Nat)
                                    [((0 : Nat), Value.int IntKind.i64 a), ((1 : Nat), Value.int IntKind.i64 b),
                                      ((5 : Nat), Value.int IntKind.i64 (5 : Int))])
                                  (mkS [])))
                              (N AX.normal
                                (mkF (140 : Nat)
                                  [((0 : Nat), Value.int IntKind.i64 a), ((1 : Nat), Value.int IntKind.i64 b),
                                    ((5 : Nat), Value.int IntKind.i64 (5 : Int))])
                                (mkS []))))
                          (br (decide (Int.tmod a b < (0 : Int)))
                            (br (decide (b < (0 : Int)))
                              (br (decide (Int.tmod a b ≤ b)) (N AX.ret (mkF (140 : Nat) []) (mkS []))
                                (N AX.normal
                                  (mkF (140 : Nat)
                                    [((0 : Nat), Value.int IntKind.i64 a), ((1 : Nat), Value.int IntKind.i64 b),
                                      ((5 : Nat), Value.int IntKind.i64 (5 : Int))])
                                  (mkS [])))
                              (N AX.normal
                                (mkF (140 : Nat)
                                  [((0 : Nat), Value.int IntKind.i64 a), ((1 : Nat), Value.int IntKind.i64 b),
                                    ((5 : Nat), Value.int IntKind.i64 (5 : Int))])
                                (mkS [])))
                            (N AX.normal
                              (mkF (140 : Nat)
                                [((0 : Nat), Value.int IntKind.i64 a), ((1 : Nat), Value.int IntKind.i64 b),
                                  ((5 : Nat), Value.int IntKind.i64 (5 : Int))])
                              (mkS [])))))
                      (br (decide (Int.tmod a b < (0 : Int)))
                        (br (decide (b > (0 : Int)))
                          (br (decide (IntKind.wrap IntKind.i64 ((0 : Int) - Int.tmod a b) ≥ b))
                            (N AX.ret (mkF (140 : Nat) []) (mkS []))
                            (br (decide (Int.tmod a b < (0 : Int)))
                              (br (decide (b < (0 : Int)))
                                (br (decide (Int.tmod a b ≤ b)) (N AX.ret (mkF (140 : Nat) []) (mkS []))
                                  (N AX.normal
                                    (mkF (140 : Nat)
                                      [((0 : Nat), Value.int IntKind.i64 a), ((1 : Nat), Value.int IntKind.i64 b),
                                        ((5 : Nat), Value.int IntKind.i64 (5 : Int))])
                                    (mkS [])))
                                (N AX.normal
                                  (mkF (140 : Nat)
                                    [((0 : Nat), Value.int IntKind.i64 a), ((1 : Nat), Value.int IntKind.i64 b),
                                      ((5 : Nat), Value.int IntKind.i64 (5 : Int))])
                                  (mkS [])))
                              (N AX.normal
                                (mkF (140 : Nat)
                                  [((0 : Nat), Value.int IntKind.i64 a), ((1 : Nat), Value.int IntKind.i64 b),
                                    ((5 : Nat), Value.int IntKind.i64 (5 : Int))])
                                (mkS []))))
                          (br (decide (Int.tmod a b < (0 : Int)))
                            (br (decide (b < (0 : Int)))
                              (br (decide (Int.tmod a b ≤ b)) (N AX.ret (mkF (140 : Nat) []) (mkS []))
                                (N AX.normal
                                  (mkF (140 : Nat)
                                    [((0 : Nat), Value.int IntKind.i64 a), ((1 : Nat), Value.int IntKind.i64 b),
                                      ((5 : Nat), Value.int IntKind.i64 (5 : Int))])
                                  (mkS [])))
                              (N AX.normal
                                (mkF (140 : Nat)
                                  [((0 : Nat), Value.int IntKind.i64 a), ((1 : Nat), Value.int IntKind.i64 b),
                                    ((5 : Nat), Value.int IntKind.i64 (5 : Int))])
                                (mkS [])))
                            (N AX.normal
                              (mkF (140 : Nat)
                                [((0 : Nat), Value.int IntKind.i64 a), ((1 : Nat), Value.int IntKind.i64 b),
                                  ((5 : Nat), Value.int IntKind.i64 (5 : Int))])
                              (mkS []))))
                        (br (decide (Int.tmod a b < (0 : Int)))
                          (br (decide (b < (0 : Int)))
                            (br (decide (Int.tmod a b ≤ b)) (N AX.ret (mkF (140 : Nat) []) (mkS []))
                              (N AX.normal
                                (mkF (140 : Nat)
                                  [((0 : Nat), Value.int IntKind.i64 a), ((1 : Nat), Value.int IntKind.i64 b),
                                    ((5 : Nat), Value.int IntKind.i64 (5 : Int))])
                                (mkS [])))
                            (N AX.normal
                              (mkF (140 : Nat)
                                [((0 : Nat), Value.int IntKind.i64 a), ((1 : Nat), Value.int IntKind.i64 b),
                                  ((5 : Nat), Value.int IntKind.i64 (5 : Int))])
                              (mkS [])))
                          (N AX.normal
                            (mkF (140 : Nat)
                              [((0 : Nat), Value.int IntKind.i64 a), ((1 : Nat), Value.int IntKind.i64 b),
                                ((5 : Nat), Value.int IntKind.i64 (5 : Int))])
                            (mkS []))))))
                  (N AX.normal
                    (mkF (140 : Nat)
                      [((0 : Nat), Value.int IntKind.i64 a), ((1 : Nat), Value.int IntKind.i64 b),
                        ((5 : Nat), Value.int IntKind.i64 (5 : Int))])
                    (mkS []))))))))) := by kernel_rfl
end Go.Proofs.Ytaomflhkclljdaa.Ev
